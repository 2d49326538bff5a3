/- Plain laws of the Lean functions. -/
import Derived.Test.YtceckfecihemnaaGreatMS1DrawB

namespace Go.Sx
set_option linter.unusedVariables false
set_option linter.unusedSimpArgs false
theorem sameInts_self {N : Nat} {a : List Int} (ha : a.length ≤ 1048576) (hN : 1048576 < N) : Zam N a a = ret true := by
  unfold Zam
  have e : (ilen a != ilen a) = false := by simp
  rw [e]
  simp only [cond_false]
  have h1 := loop_ix0 (l := a) (V := Unit) (R := Unit × (Bool × Unit)) (lp := fun n j _ => Zdi N a a (some ((), (false, ()))) (fun i8 t9 => some ((), (true, ()))) n j) (n := N) (by omega)
    (body := fun j x v k => k v) (K := fun _ v => some ((), (true, ())))
    (fun n i v hi => by
      have e2 : (a[i] != a[i]) = false := by simp
      simp only [Zdi, ix_lt hi, ix_inb hi, ix_get hi, ix_succ (show i < 4611686018427387904 by omega), cond_true, e2, cond_false])
    (fun n v => by simp only [Zdi, ix_ge (Nat.le_refl a.length), cond_false]) ()
  refine h1.trans ?_
  rw [foldK_fold (f := fun v _ => v) a 0 () (fun j x v k _ => rfl)]
theorem at_run {N : Nat} {code : List Int} (hw : ∀ x ∈ code, 0 ≤ x ∧ x ≤ 255) (hl : code.length ≤ 1048576) {i : Nat} (hi : i ≤ 1000) : ∃ v, Zpd N code (i : Int) = ret v ∧ 0 ≤ v ∧ v ≤ 255 := by
  unfold Zpd
  by_cases h : i < code.length
  · have hx := hw _ (List.getElem_mem h)
    refine ⟨code[i], ?_, hx⟩
    simp only [ix_lt h, ix_inb h, ix_get h, cond_true]
    rw [wrap_i64 (by unfold I64; omega)]
  · have e : decide ((i : Int) < ilen code) = false := by simp [ilen]; omega
    have m1 : imul .i64 (i : Int) 37 = (i : Int) * 37 := imul_eq (by unfold I64; omega)
    have m2 : imul .i64 (ilen code) 11 = (code.length : Int) * 11 := imul_eq (by unfold I64 ilen; omega)
    have m3 : iadd .i64 ((i : Int) * 37) ((code.length : Int) * 11) = (i : Int) * 37 + (code.length : Int) * 11 := iadd_eq (by unfold I64; omega)
    rw [e, m1, m2, m3]
    refine ⟨_, rfl, ?_⟩
    have : irem ((i : Int) * 37 + (code.length : Int) * 11) 256 = ((i : Int) * 37 + (code.length : Int) * 11) % 256 := by unfold irem; exact Int.tmod_eq_emod_of_nonneg (by omega)
    rw [this]; omega
theorem has_run {N : Nat} {l : List Int} {x : Int} (hl : l.length ≤ 1048576) (hN : 1048576 < N) : Zec N l x = ret (l.any (· == x)) := by
  unfold Zec
  have h1 := loop_ix0 (l := l) (V := Unit) (R := Unit × (Bool × Unit)) (lp := fun n j _ => Zdn N l x (some ((), (true, ()))) (fun i8 t9 => some ((), (false, ()))) n j) (n := N) (by omega)
    (body := fun j y v k => bif y == x then some ((), (true, ())) else k v) (K := fun _ v => some ((), (false, ())))
    (fun n i v hi => by simp only [Zdn, ix_lt hi, ix_inb hi, ix_get hi, ix_succ (show i < 4611686018427387904 by omega), cond_true])
    (fun n v => by simp only [Zdn, ix_ge (Nat.le_refl l.length), cond_false]) ()
  refine h1.trans ?_
  rw [foldK_any (p := fun y => y == x) (E := fun _ => some ((), (true, ()))) l 0 () (fun j x v k _ => rfl)]
  cases l.any (· == x) <;> rfl
noncomputable def allReads (regs cells : List Int) : List (List Opn) → List Int
  | [] => []
  | k :: ks => readsOf k regs cells ++ allReads regs cells ks
theorem orGo_neg {regs cells : List Int} : ∀ (ks : List (List Opn)) (i : Nat) (w : List Int), (orGo regs cells ks i w).1 = -1 →
    (∀ k ∈ ks, ((eagOf k regs cells).1 == 1) = false) ∧ orGo regs cells ks i w = (-1, regs, cells, cellsIn fun c => (w ++ allReads regs cells ks).any (· == c))
  | [], i, w, h => ⟨by simp, by simp [orGo, allReads]⟩
  | k :: ks, i, w, h => by
    rw [orGo] at h ⊢
    cases hd : (eagOf k regs cells).1 == 1
    · rw [hd] at h
      simp only [cond_false] at h ⊢
      obtain ⟨h1, h2⟩ := orGo_neg ks (i + 1) _ h
      refine ⟨fun x hx => ?_, ?_⟩
      · rcases List.mem_cons.1 hx with e | e
        · rw [e]; exact hd
        · exact h1 x e
      · rw [h2, List.append_assoc]; rfl
    · rw [hd] at h
      simp only [cond_true] at h
      omega
theorem orGo_all {regs cells : List Int} : ∀ (ks : List (List Opn)) (i : Nat) (w : List Int), (∀ k ∈ ks, ((eagOf k regs cells).1 == 1) = false) →
    orGo regs cells ks i w = (-1, regs, cells, cellsIn fun c => (w ++ allReads regs cells ks).any (· == c))
  | [], i, w, h => by simp [orGo, allReads]
  | k :: ks, i, w, h => by
    rw [orGo, h k (by simp)]
    simp only [cond_false]
    rw [orGo_all ks (i + 1) _ (fun x hx => h x (by simp [hx])), List.append_assoc]; rfl
theorem orGo_pos {regs cells : List Int} : ∀ (ks : List (List Opn)) (i : Nat) (w : List Int), (orGo regs cells ks i w).1 ≠ -1 →
    ∃ (j : Nat) (hj : j < ks.length), (∀ q (hq : q < j), ((eagOf ks[q] regs cells).1 == 1) = false) ∧ ((eagOf ks[j] regs cells).1 == 1) = true ∧
      orGo regs cells ks i w = (((i + j : Nat) : Int), (eagOf ks[j] regs cells).2.1, (eagOf ks[j] regs cells).2.2.1, [])
  | [], i, w, h => absurd rfl h
  | k :: ks, i, w, h => by
    rw [orGo] at h ⊢
    cases hd : (eagOf k regs cells).1 == 1
    · rw [hd] at h
      simp only [cond_false] at h ⊢
      obtain ⟨j, hj, h1, h2, h3⟩ := orGo_pos ks (i + 1) _ h
      refine ⟨j + 1, by simp; omega, fun q hq => ?_, by simpa using h2, ?_⟩
      · cases q with
        | zero => exact hd
        | succ q => simpa using h1 q (by omega)
      · rw [h3, show i + 1 + j = i + (j + 1) by omega]; rfl
    · exact ⟨0, by simp, fun q hq => by omega, hd, rfl⟩
theorem orOf_same {l : List (List Opn)} {regs cells other : List Int} (hk : altsOk l regs cells = true) (ho : valsOk other = true) (h1 : (orOf l regs cells).1 = -1)
    (h : ∀ c ∈ (orOf l regs cells).2.2.2, other.getD c.toNat 0 = cells.getD c.toNat 0) : (orOf l regs other).1 = -1 ∧ (orOf l regs other).2.2.2 = (orOf l regs cells).2.2.2 := by
  have hk' := hk
  unfold altsOk at hk'
  simp only [Bool.and_eq_true, decide_eq_true_eq] at hk'
  obtain ⟨q1, q2, q3, q4⟩ := hk'
  have hk2 : altsOk l regs other = true := by
    unfold altsOk
    rw [decide_eq_true q1, q2, ho, q4]; rfl
  unfold orOf at h1 h ⊢
  rw [hk] at h1 h ⊢
  rw [hk2]
  simp only [cond_true] at h1 h ⊢
  obtain ⟨a1, a2⟩ := orGo_neg l 0 [] h1
  rw [a2] at h ⊢
  simp only [List.nil_append] at h
  have hb : ∀ (ks : List (List Opn)), (∀ k ∈ ks, k ∈ l) → (∀ c ∈ allReads regs cells ks, other.getD c.toNat 0 = cells.getD c.toNat 0) → allReads regs other ks = allReads regs cells ks ∧ ∀ k ∈ ks, ((eagOf k regs other).1 == 1) = false := by
    intro ks
    induction ks with
    | nil => exact fun _ _ => ⟨rfl, by simp⟩
    | cons k ks ih =>
      intro hin hc
      have hkl := hin k (by simp)
      have e := eag_same (l := k) (regs := regs) (cells := cells) (other := other) (List.all_eq_true.1 q4 k hkl) q2 q3 ho fun c hc' => hc c (by simp [allReads, hc'])
      obtain ⟨i1, i2⟩ := ih (fun x hx => hin x (by simp [hx])) fun c hc' => hc c (by simp [allReads, hc'])
      refine ⟨by simp only [allReads]; rw [e.2, i1], fun x hx => ?_⟩
      rcases List.mem_cons.1 hx with q | q
      · rw [q, e.1]; exact a1 k hkl
      · exact i2 x q
  have hrb : ∀ c ∈ allReads regs cells l, 0 ≤ c ∧ c ≤ 7 := by
    have : ∀ ks, ∀ c ∈ allReads regs cells ks, 0 ≤ c ∧ c ≤ 7 := by
      intro ks
      induction ks with
      | nil => intro c hc; simp [allReads] at hc
      | cons k ks ih =>
        intro c hc
        simp only [allReads, List.mem_append] at hc
        rcases hc with hc | hc
        · exact readsOf_bd.2 c hc
        · exact ih c hc
    exact this l
  obtain ⟨b1, b2⟩ := hb l (fun _ h => h) fun c hc => h c (mem_cells.2 ⟨hrb c hc, by rw [List.any_eq_true]; exact ⟨c, hc, by simp⟩⟩)
  rw [orGo_all l 0 [] b2, b1]
  exact ⟨rfl, rfl⟩
section
variable {N : Nat}
theorem fnOr_lp0 (hN : 1048576 < N) {code : List Int} {l : List (List Opn)} {r v : List Int} (h : z_KidS l ≤ 1048576) (hr : r.length ≤ 1048576) (hc : v.length ≤ 1048576) {b : Int} {rr cc ww : List Int} {R : Type} (K0 : Option R) (K1 : Option R)
    (hb : (b = -1 ∧ ∀ k ∈ l, ((eagOf k r v).1 == 1) = false) ∨ (∃ (j : Nat) (hj : j < l.length), b = (j : Int) ∧ (∀ q (hq : q < j), ((eagOf l[q] r v).1 == 1) = false) ∧ ((eagOf l[j] r v).1 == 1) = true ∧ rr = (eagOf l[j] r v).2.1 ∧ cc = (eagOf l[j] r v).2.2.1)) :
    Zag N code l r v b rr cc ww K0 (fun _ _ => K1) N 0 = K1 := by
  have hl : l.length ≤ 1048576 := Nat.le_trans z_KidS_len h
  have key : ∀ (k j n : Nat), j + k = l.length → k < n → (∀ q, q < j → b ≠ (q : Int)) → Zag N code l r v b rr cc ww K0 (fun _ _ => K1) n (j : Int) = K1 := by
    intro k
    induction k with
    | zero =>
      intro j n hj hn _
      obtain ⟨n', rfl⟩ : ∃ n', n = n' + 1 := ⟨n - 1, by omega⟩
      rw [Zag, ix_ge (by omega)]
      rfl
    | succ k ih =>
      intro j n hj hn hprev
      obtain ⟨n', rfl⟩ : ∃ n', n = n' + 1 := ⟨n - 1, by omega⟩
      have hjl : j < l.length := by omega
      have hkl : l[j].length ≤ 1048576 := kid_len h hjl
      rw [Zag]
      simp only [ix_lt hjl, ix_inb hjl, ix_get hjl, cond_true, serKid_run (l := l[j]) hN hkl hr hc, ret, Option.bind_some, ix_succ (show j < 4611686018427387904 by omega)]
      rcases hb with ⟨hb, hall⟩ | ⟨w, hw, hb, hlt, hdone, e1, e2⟩
      · have hd := hall l[j] (List.getElem_mem hjl)
        have e3 : decide (b < 0) = true := by rw [hb]; rfl
        have e4 : ((j : Int) == b) = false := by rw [hb]; simp
        rw [e3, hd, e4]
        simp only [cond_true, beq, BEq.rfl, Bool.not_true, cond_false]
        exact ih (j + 1) n' (by omega) (by omega) (by intro q hq; omega)
      · have e3 : decide (b < 0) = false := by rw [hb]; simp
        rw [e3]
        simp only [cond_false]
        have hjw : j ≤ w := by
          rcases Nat.lt_or_ge w j with h1 | h1
          · exact absurd hb (hprev w h1)
          · exact h1
        have e5 : decide ((j : Int) ≤ b) = true := by rw [hb]; simp; omega
        rw [e5]
        simp only [cond_true]
        by_cases hjw2 : j = w
        · subst hjw2
          have e4 : ((j : Int) == b) = true := by rw [hb]; simp
          obtain ⟨x1, x2, x3⟩ := eag_len l[j] r v
          rw [hdone, e4, e1, e2]
          simp only [beq, BEq.rfl, Bool.not_true, cond_false, cond_true, sameInts_self (N := N) (a := (eagOf l[j] r v).2.1) (by omega) hN, sameInts_self (N := N) (a := (eagOf l[j] r v).2.2.1) (by omega) hN, ret, Option.bind_some]
          obtain ⟨n'', rfl⟩ : ∃ n'', n' = n'' + 1 := ⟨n' - 1, by omega⟩
          rw [Zag]
          by_cases hl2 : j + 1 < l.length
          · have e6 : decide (((j + 1 : Nat) : Int) ≤ b) = false := by rw [hb]; simp; omega
            rw [ix_lt hl2, e3, e6]
            rfl
          · rw [ix_ge (by omega)]
            rfl
        · have hd := hlt j (by omega)
          have e4 : ((j : Int) == b) = false := by rw [hb]; simp; omega
          rw [hd, e4]
          simp only [beq, BEq.rfl, Bool.not_true, cond_false]
          exact ih (j + 1) n' (by omega) (by omega) (by intro q hq; rw [hb]; omega)
  exact key l.length 0 N (by omega) (by omega) (by intro q hq; omega)
theorem fnOr_lp1 (hN : 1048576 < N) {code : List Int} (hw : ∀ x ∈ code, 0 ≤ x ∧ x ≤ 255) (hl : code.length ≤ 1048576) {l : List (List Opn)} {r v l38 l39 ww : List Int} {b : Int} (hww : ww.length ≤ 1048576) (hv : Vals 8 v) {R : Type} (K : List Int → Option R) :
    ∃ u, Vals 8 u ∧ (∀ c ∈ ww, 0 ≤ c → u.getD c.toNat 0 = v.getD c.toNat 0) ∧ Zbj N code l r v b l38 l39 ww (fun _ _ u => K u) N 0 v = K u := by
  have key : ∀ (k j n : Nat) (u : List Int), j + k = 8 → k < n → Vals 8 u → (∀ c ∈ ww, 0 ≤ c → u.getD c.toNat 0 = v.getD c.toNat 0) →
      ∃ u', Vals 8 u' ∧ (∀ c ∈ ww, 0 ≤ c → u'.getD c.toNat 0 = v.getD c.toNat 0) ∧ Zbj N code l r v b l38 l39 ww (fun _ _ u => K u) n (j : Int) u = K u' := by
    intro k
    induction k with
    | zero =>
      intro j n u hj hn hu hs
      obtain ⟨n', rfl⟩ : ∃ n', n = n' + 1 := ⟨n - 1, by omega⟩
      refine ⟨u, hu, hs, ?_⟩
      rw [Zbj, ix_ge (by rw [hu.len]; omega)]
      rfl
    | succ k ih =>
      intro j n u hj hn hu hs
      obtain ⟨n', rfl⟩ : ∃ n', n = n' + 1 := ⟨n - 1, by omega⟩
      have hjl : j < u.length := by rw [hu.len]; omega
      obtain ⟨a, ha, a1, a2⟩ := at_run (N := N) hw hl (i := j) (by omega)
      rw [Zbj]
      simp only [ix_lt hjl, ix_inb hjl, cond_true, has_run (l := ww) hww hN, ha, ret, Option.bind_some, ix_succ (show j < 4611686018427387904 by omega)]
      cases hq : ww.any (· == (j : Int))
      · simp only [Bool.not_false, cond_true, Int.toNat_natCast]
        rw [imul_eq (by unfold I64; omega)]
        refine ih (j + 1) n' _ (by omega) (by omega) (hu.set _ (by omega)) fun c hc hc0 => ?_
        have hne : j ≠ c.toNat := fun e => by
          have : ww.any (· == (j : Int)) = true := List.any_eq_true.2 ⟨c, hc, by simp; omega⟩
          rw [hq] at this; cases this
        rw [List.getD_eq_getElem?_getD, List.getElem?_set_ne hne, ← List.getD_eq_getElem?_getD]
        exact hs c hc hc0
      · simp only [Bool.not_true, cond_false]
        exact ih (j + 1) n' u (by omega) (by omega) hu hs
  exact key 8 0 N v rfl (by omega) hv fun _ _ _ => rfl
theorem drawOr_run (hN : 1048576 < N) {code : List Int} (h : code.length ≤ 1048576) : ∃ (l : List (List Opn)) (r v : List Int), Zhb N code = some ((), (l, (r, (v, ())))) ∧ z_KidS l ≤ 1048576 ∧ r.length ≤ 100 ∧ v.length ≤ 100 := by
  obtain ⟨c, hc, he⟩ := new_draw h hN
  obtain ⟨c', w, h1, h2, ⟨h3, h4⟩, h5, h6⟩ := dAll28 hN hc
  refine ⟨w.1, w.2.1, w.2.2.1, ?_, ?_, h5, h6⟩
  · unfold Zhb
    rw [he]
    simp only [ret, Option.bind_some]
    rw [h1]
    rfl
  · have : ∀ ks : List (List Opn), (∀ x ∈ ks, x.length ≤ 200) → (ks.map z_Kid).sum ≤ 200 * ks.length := by
      intro ks
      induction ks with
      | nil => simp
      | cons k ks ih =>
        intro hk
        have i1 := ih fun x hx => hk x (by simp [hx])
        have i2 := hk k (by simp)
        have i3 : z_Kid k = k.length := rfl
        rw [List.map_cons, List.sum_cons, List.length_cons]; omega
    have := this w.1 h4
    unfold z_KidS
    omega
theorem law_OrE {code : List Int} (hw : ∀ x ∈ code, 0 ≤ x ∧ x ≤ 255) (hN : 1048576 < N) : Zib N code = ret true := by
  unfold Zib Zh8
  simp only [Option.bind_some]
  by_cases hb : code.length ≤ 1048576
  · have e0 : decide (ilen code > 1048576) = false := by simp [ilen]; omega
    obtain ⟨l, r, v, hd, hl, hr, hv⟩ := drawOr_run hN hb
    rw [e0]
    simp only [cond_false, hd, Option.bind_some, implOr_run (l := l) (regs := r) (cells := v) hN hl (by omega) (by omega), specAlts_run (l := l) (regs := r) (cells := v) hl (by omega) (by omega) hN, ret]
    cases hk : altsOk l r v
    · have : orOf l r v = (-1, [], [], []) := by unfold orOf; rw [hk]; rfl
      rw [this]; rfl
    · have hk' := hk
      unfold altsOk at hk'
      simp only [Bool.and_eq_true, decide_eq_true_eq] at hk'
      have v1 := regs_iff.1 hk'.2.1
      have v2 := vals_iff.1 hk'.2.2.1
      have ho : orOf l r v = orGo r v l 0 [] := by unfold orOf; rw [hk]; rfl
      obtain ⟨x1, x2, x3⟩ := orOf_len l r v
      simp only [Bool.not_true, cond_false]
      by_cases hneg : (orOf l r v).1 = -1
      · obtain ⟨a1, a2⟩ := orGo_neg l 0 [] (by rw [← ho]; exact hneg)
        have hres : orOf l r v = (-1, r, v, (orOf l r v).2.2.2) := by rw [ho]; rw [a2]
        obtain ⟨u, u1, u2, u3⟩ := fnOr_lp1 (N := N) hN hw hb (l := l) (r := r) (v := v) (l38 := (orOf l r v).2.1) (l39 := (orOf l r v).2.2.1) (ww := (orOf l r v).2.2.2) (b := (orOf l r v).1) (by omega) v2 (R := Unit × (Bool × Unit))
          (fun l50 => ((Zat N l r l50).bind fun o51 => ((Zam N (orOf l r v).2.2.1 v).bind fun o52 => (bif o52.2.1 then ((Zam N (orOf l r v).2.1 r).bind fun o53 => (bif o53.2.1 then (bif o51.2.1.1 == (-1 : Int) then ((Zam N o51.2.1.2.2.2 (orOf l r v).2.2.2).bind fun o54 => (some ((), (o54.2.1, ())))) else (some ((), (false, ())))) else (some ((), (false, ()))))) else (some ((), (false, ())))))))
        refine Eq.trans (fnOr_lp0 hN hl (by omega) (by omega) _ _ (.inl ⟨hneg, a1⟩)) ?_
        have e1 : decide ((orOf l r v).1 ≥ 0) = false := by rw [hneg]; rfl
        have r1 : room (([] : List Int).length + v.length) = true := room_le (by simp; omega)
        simp only [e1, cond_false, r1, cond_true]
        refine Eq.trans u3 ?_
        obtain ⟨s1, s2⟩ := orOf_same (l := l) (regs := r) (cells := v) (other := u) hk (vals_iff.2 u1) hneg (fun c hc => u2 c hc (by rw [ho, a2] at hc; exact (mem_cells (p := fun c => ([] ++ allReads r v l).any fun x => x == c).1 hc).1.1))
        have hul := u1.len
        simp only [implOr_run (l := l) (regs := r) (cells := u) hN hl (by omega) (by omega), ret, Option.bind_some]
        rw [s1, s2]
        have w1 : (orOf l r v).2.2.1 = v := by rw [hres]
        have w2 : (orOf l r v).2.1 = r := by rw [hres]
        rw [w1, w2, sameInts_self (a := v) (by omega) hN, sameInts_self (a := r) (by omega) hN, sameInts_self (a := (orOf l r v).2.2.2) (by omega) hN]
        rfl
      · obtain ⟨j, hj, b1, b2, b3⟩ := orGo_pos l 0 [] (by rw [← ho]; exact hneg)
        rw [← ho, Nat.zero_add] at b3
        refine Eq.trans (fnOr_lp0 hN hl (by omega) (by omega) _ _ (.inr ⟨j, hj, by rw [b3], b1, b2, by rw [b3], by rw [b3]⟩)) ?_
        rw [b3]
        have e1 : decide ((j : Int) ≥ 0) = true := by simp
        simp only [e1, cond_true, ix_lt hj]
        rfl
  · have e0 : decide (ilen code > 1048576) = true := by simp [ilen]; omega
    rw [e0]; rfl
end
theorem law_FnOrElse (d : PDen [.v (.slice (.int .u8)) false]) (hw : WfArgs [.v (.slice (.int .u8)) false] d) : ∃ N o, Zib N d.1 = some (o, (true, ())) :=
  ⟨1048577, (), law_OrE (N := 1048577) (fun x hx => bounds_u8 (hw.1.2 x hx)) (by omega)⟩
end Go.Sx
