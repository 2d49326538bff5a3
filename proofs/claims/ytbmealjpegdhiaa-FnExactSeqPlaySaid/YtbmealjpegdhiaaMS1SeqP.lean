/- Plain laws of the Lean functions. -/
import Derived.Test.YtbmealjpegdhiaaMFrSeqPlay
/- Plain law: the play of a writer and three readers. -/
namespace Go.Sx
set_option linter.unusedVariables false
set_option linter.unusedSimpArgs false

theorem PlayOk.mono' {s : Tri} {l : List Tri} {n m : Nat} {w : Sqw} (h : PlayOk s l n w) (hm : n ≤ m) : PlayOk s l m w :=
  ⟨h.at_, h.nx, h.nx2, h.sq, h.na, h.nb, h.nc, h.rl, h.rd, Nat.le_trans h.dl hm, h.dn, h.so⟩

theorem specWr_run {N : Nat} {l : List Tri} {w : Sqw} (h : 0 ≤ w.2.2.1 ∧ w.2.2.1 ≤ 4) (hn : w.2.2.1 ≠ 0 → w.2.2.1 ≠ 4 → inb w.2.2.2.1 l.length = true) : T_spec_l25Write N w l = ret (seqWr l w) := by
  obtain ⟨sq, ⟨na, nb, nc⟩, at_, nx, rs, dn⟩ := w
  simp only at h hn
  unfold T_spec_l25Write seqWr
  have e5 : inz 5 = true := rfl
  simp only [e5, cond_true]
  by_cases h0 : at_ = 0
  · subst h0
    have e : irem (iadd .i64 0 1) 5 = 1 := by decide
    rw [e]
    cases hq : nx == ilen l <;> rfl
  · by_cases h1 : at_ = 1
    · subst h1
      have e : irem (iadd .i64 1 1) 5 = 2 := by decide
      rw [e, hn (by decide) (by decide)]
      rfl
    · by_cases h2 : at_ = 2
      · subst h2
        have e : irem (iadd .i64 2 1) 5 = 3 := by decide
        rw [e, hn (by decide) (by decide)]
        rfl
      · by_cases h3 : at_ = 3
        · subst h3
          have e : irem (iadd .i64 3 1) 5 = 4 := by decide
          rw [e, hn (by decide) (by decide)]
          rfl
        · have h4 : at_ = 4 := by omega
          subst h4
          have e : irem (iadd .i64 4 1) 5 = 0 := by decide
          rw [e]
          rfl

theorem specRd_run {N : Nat} {w : Sqw} {k : Nat} (hk : k < w.2.2.2.2.1.length) (hp : 0 ≤ (w.2.2.2.2.1[k]).1 ∧ (w.2.2.2.2.1[k]).1 ≤ 4) (hd : w.2.2.2.2.2.length < 1000000) : T_spec_l25Read N w (k : Int) = ret (seqRd w k) := by
  obtain ⟨sq, ⟨na, nb, nc⟩, at_, nx, rs, dn⟩ := w
  simp only at hk hp hd
  unfold T_spec_l25Read seqRd upR
  have e2 : inz 2 = true := rfl
  have er : ∀ x : Sqr, room (dn.length + [x].length) = true := fun x => by unfold room; simp; omega
  simp only [ix_inb hk, e2, cond_true, Int.toNat_natCast, ix_getm hk, er]
  generalize hr : rs[k] = r
  rw [hr] at hp
  obtain ⟨p, q, ⟨ga, gb, gc⟩, lo⟩ := r
  simp only at hp
  by_cases h0 : p = 0
  · subst h0
    have e : iadd .i64 0 1 = 1 := by decide
    rw [e]
    cases irem sq 2 == 1 <;> rfl
  · by_cases h1 : p = 1
    · subst h1
      have e : iadd .i64 1 1 = 2 := by decide
      rw [e]; rfl
    · by_cases h2 : p = 2
      · subst h2
        have e : iadd .i64 2 1 = 3 := by decide
        rw [e]; rfl
      · by_cases h3 : p = 3
        · subst h3
          have e : iadd .i64 3 1 = 4 := by decide
          rw [e]; rfl
        · have h4 : p = 4 := by omega
          subst h4
          have c0 : ((4 : Int) == 0) = false := rfl
          have c1 : ((4 : Int) == 1) = false := rfl
          have c2 : ((4 : Int) == 2) = false := rfl
          have c3 : ((4 : Int) == 3) = false := rfl
          simp only [c0, c1, c2, c3, cond_false]
          cases sq == q <;> rfl

/-- one act -/
def seqStep (l : List Tri) (w : Sqw) (a : Int) : Sqw :=
  bif a == 0 then seqWr l w else bif decide (1 ≤ a) && decide (a ≤ 3) then seqRd w (a - 1).toNat else w

theorem step_ok {s : Tri} {l : List Tri} {n : Nat} {w : Sqw} {a : Int} (hl : l.length ≤ 20) (h : PlayOk s l n w) : PlayOk s l (n + 1) (seqStep l w a) := by
  unfold seqStep
  by_cases h0 : a = 0
  · have b0 : (a == 0) = true := by simp [h0]
    rw [b0]
    exact (wr_ok hl h).mono' (by omega)
  · have b0 : (a == 0) = false := by simp [h0]
    rw [b0]
    simp only [cond_false]
    by_cases hk : 1 ≤ a ∧ a ≤ 3
    · have bk : (decide (1 ≤ a) && decide (a ≤ 3)) = true := by simp [hk]
      rw [bk]
      exact rd_ok hl (by omega) h
    · have bk : (decide (1 ≤ a) && decide (a ≤ 3)) = false := by
        rw [Bool.and_eq_false_iff]
        by_cases h : 1 ≤ a
        · exact .inr (by simp; omega)
        · exact .inl (by simpa using h)
      rw [bk]
      exact h.mono' (by omega)

section
variable {N : Nat} {s : Tri} {l : List Tri} {acts : List Int}

theorem wr_in {n : Nat} {w : Sqw} (hw : PlayOk s l n w) : w.2.2.1 ≠ 0 → w.2.2.1 ≠ 4 → inb w.2.2.2.1 l.length = true := fun hn _ => by
  have h5 := hw.nx2 hn
  have h6 := hw.nx
  unfold inb; simp; omega

theorem implPlay_lp (hl : l.length ≤ 20) (ha : acts.length ≤ 200) {R : Type} (K : Int → Bool → Int → Int → Int → Int → Int → Int → List Rdr → List Sqr → Option R) : ∀ (n j : Nat) (w : Sqw), PlayOk s l j w → j ≤ acts.length → acts.length - j < n →
    T_impl_SeqPlay_lp0 N l acts K n (j : Int) w.1 w.2.1.1 w.2.1.2.1 w.2.1.2.2 w.2.2.1 w.2.2.2.1 w.2.2.2.2.1 w.2.2.2.2.2 = (fun w' : Sqw => K acts.length false w'.1 w'.2.1.1 w'.2.1.2.1 w'.2.1.2.2 w'.2.2.1 w'.2.2.2.1 w'.2.2.2.2.1 w'.2.2.2.2.2) ((acts.drop j).foldl (seqStep l) w)
  | 0, j, w, _, _, h => by omega
  | n + 1, j, w, hw, h1, h2 => by
    by_cases hj : j < acts.length
    · rw [List.drop_eq_getElem_cons hj, List.foldl_cons, ← implPlay_lp hl ha K n (j + 1) _ (step_ok hl hw) hj (by omega)]
      have hwr := implWr_run (N := N) (l := l) (w := w) hw.at_ (wr_in hw)
      unfold seqStep
      by_cases h0 : acts[j] = 0
      · have b0 : (acts[j] == 0) = true := by simp [h0]
        simp only [T_impl_SeqPlay_lp0, ix_lt hj, ix_inb hj, ix_get hj, cond_true, b0, ix_succ (show j < 4611686018427387904 by omega)]
        rw [hwr]
        rfl
      · have b0 : (acts[j] == 0) = false := by simp [h0]
        by_cases hk : 1 ≤ acts[j] ∧ acts[j] ≤ 3
        · have bk : (decide (1 ≤ acts[j]) && decide (acts[j] ≤ 3)) = true := by simp [hk]
          have ek : isub .i64 acts[j] 1 = ((acts[j] - 1).toNat : Int) := by rw [isub_eq (by unfold I64; omega)]; omega
          have hkl : (acts[j] - 1).toNat < w.2.2.2.2.1.length := by rw [hw.rl]; omega
          have hrd := implRd_run (N := N) (w := w) (k := (acts[j] - 1).toNat) hkl (hw.rd _ (List.getElem_mem hkl)).ph (by have := hw.dl; omega)
          simp only [T_impl_SeqPlay_lp0, ix_lt hj, ix_inb hj, ix_get hj, cond_true, b0, cond_false, within_eq, ret, Option.bind_some, bk, ek, ix_succ (show j < 4611686018427387904 by omega)]
          rw [hrd]
          rfl
        · have bk : (decide (1 ≤ acts[j]) && decide (acts[j] ≤ 3)) = false := by
            rw [Bool.and_eq_false_iff]
            by_cases h : 1 ≤ acts[j]
            · exact .inr (by simp; omega)
            · exact .inl (by simpa using h)
          simp only [T_impl_SeqPlay_lp0, ix_lt hj, ix_inb hj, ix_get hj, cond_true, b0, cond_false, within_eq, ret, Option.bind_some, bk, ix_succ (show j < 4611686018427387904 by omega)]
    · have e : j = acts.length := by omega
      subst e
      rw [List.drop_length]
      simp only [T_impl_SeqPlay_lp0, ix_ge (Nat.le_refl acts.length), cond_false]
      rfl

theorem specPlay_lp (hl : l.length ≤ 20) (ha : acts.length ≤ 200) {R : Type} (K : Int → Bool → Int → Int → Int → Int → Int → Int → List Rdr → List Sqr → Option R) : ∀ (n j : Nat) (w : Sqw), PlayOk s l j w → j ≤ acts.length → acts.length - j < n →
    T_spec_SeqPlay_lp0 N l acts K n (j : Int) w.1 w.2.1.1 w.2.1.2.1 w.2.1.2.2 w.2.2.1 w.2.2.2.1 w.2.2.2.2.1 w.2.2.2.2.2 = (fun w' : Sqw => K acts.length false w'.1 w'.2.1.1 w'.2.1.2.1 w'.2.1.2.2 w'.2.2.1 w'.2.2.2.1 w'.2.2.2.2.1 w'.2.2.2.2.2) ((acts.drop j).foldl (seqStep l) w)
  | 0, j, w, _, _, h => by omega
  | n + 1, j, w, hw, h1, h2 => by
    by_cases hj : j < acts.length
    · rw [List.drop_eq_getElem_cons hj, List.foldl_cons, ← specPlay_lp hl ha K n (j + 1) _ (step_ok hl hw) hj (by omega)]
      have hwr := specWr_run (N := N) (l := l) (w := w) hw.at_ (wr_in hw)
      unfold seqStep
      by_cases h0 : acts[j] = 0
      · have b0 : (acts[j] == 0) = true := by simp [h0]
        have bk : (decide (1 ≤ acts[j]) && decide (acts[j] ≤ 3)) = false := by simp [h0]
        simp only [T_spec_SeqPlay_lp0, ix_lt hj, ix_inb hj, ix_get hj, cond_true, b0, in_eq, ret, Option.bind_some, bk, cond_false, ix_succ (show j < 4611686018427387904 by omega)]
        rw [hwr]
        rfl
      · have b0 : (acts[j] == 0) = false := by simp [h0]
        by_cases hk : 1 ≤ acts[j] ∧ acts[j] ≤ 3
        · have bk : (decide (1 ≤ acts[j]) && decide (acts[j] ≤ 3)) = true := by simp [hk]
          have ek : isub .i64 acts[j] 1 = ((acts[j] - 1).toNat : Int) := by rw [isub_eq (by unfold I64; omega)]; omega
          have hkl : (acts[j] - 1).toNat < w.2.2.2.2.1.length := by rw [hw.rl]; omega
          have hrd := specRd_run (N := N) (w := w) (k := (acts[j] - 1).toNat) hkl (hw.rd _ (List.getElem_mem hkl)).ph (by have := hw.dl; omega)
          simp only [T_spec_SeqPlay_lp0, ix_lt hj, ix_inb hj, ix_get hj, cond_true, b0, cond_false, in_eq, ret, Option.bind_some, bk, ek, ix_succ (show j < 4611686018427387904 by omega)]
          rw [hrd]
          rfl
        · have bk : (decide (1 ≤ acts[j]) && decide (acts[j] ≤ 3)) = false := by
            rw [Bool.and_eq_false_iff]
            by_cases h : 1 ≤ acts[j]
            · exact .inr (by simp; omega)
            · exact .inl (by simpa using h)
          simp only [T_spec_SeqPlay_lp0, ix_lt hj, ix_inb hj, ix_get hj, cond_true, b0, cond_false, in_eq, ret, Option.bind_some, bk, ix_succ (show j < 4611686018427387904 by omega)]
    · have e : j = acts.length := by omega
      subst e
      rw [List.drop_length]
      simp only [T_spec_SeqPlay_lp0, ix_ge (Nat.le_refl acts.length), cond_false]
      rfl

theorem fold_ok (hl : l.length ≤ 20) : ∀ (acts : List Int) (n : Nat) (w : Sqw), PlayOk s l n w → PlayOk s l (n + acts.length) (acts.foldl (seqStep l) w)
  | [], n, w, h => h
  | a :: acts, n, w, h => by
    have := fold_ok hl acts (n + 1) _ (step_ok (a := a) hl h)
    rw [List.foldl_cons, List.length_cons, show n + (acts.length + 1) = n + 1 + acts.length by omega]
    exact this

def startW (s : Tri) : Sqw := (0, (s.1, s.2.1, s.2.2), 0, 0, List.replicate 3 ((0 : Int), ((0 : Int), (((0 : Int), ((0 : Int), (0 : Int))), (0 : Int)))), [])

theorem start_ok : PlayOk s l 0 (startW s) where
  at_ := by simp [startW]
  nx := by simp [startW]
  nx2 := by simp [startW]
  sq := by simp [startW]
  na := by simp [startW, valAt]
  nb := by simp [startW, valAt]
  nc := by simp [startW, valAt]
  rl := by simp [startW]
  rd := fun r hr => by
    have := List.eq_of_mem_replicate hr
    rw [this]
    exact ⟨by simp, by simp [startW], fun _ => by simp, fun h => by simp at h, fun h => by simp at h, fun h => by simp at h⟩
  dl := by simp [startW]
  dn := fun d hd => by simp [startW] at hd
  so := List.Pairwise.nil

/-- what a play comes to -/
def playF (s : Tri) (l : List Tri) (acts : List Int) : Sqw :=
  bif isTri s && (triOk l && decide (acts.length ≤ 200)) then acts.foldl (seqStep l) (startW s) else (0, (0, 0, 0), 0, 0, [], [])

theorem playF_small (s : Tri) (l : List Tri) (acts : List Int) : (playF s l acts).2.2.2.2.1.length ≤ 3 ∧ (playF s l acts).2.2.2.2.2.length ≤ 200 := by
  unfold playF
  cases h1 : isTri s && (triOk l && decide (acts.length ≤ 200)) with
  | false => simp
  | true =>
    simp only [Bool.and_eq_true, decide_eq_true_eq] at h1
    have h2' : l.length ≤ 20 := by have h2 := h1.2.1; unfold triOk at h2; simp at h2; exact h2.1
    have := fold_ok h2' acts 0 _ (start_ok (s := s) (l := l))
    have h3 := this.rl
    have h4 := this.dl
    simp only [cond_true]
    omega

theorem implPlay_run (hll : l.length ≤ 1048576) (hN : 1048576 < N) : T_impl_SeqPlay N s l acts = ret (playF s l acts) := by
  unfold T_impl_SeqPlay playF
  simp only [implTri_run, implTris_run hll hN, ret, Option.bind_some, both_self]
  cases h1 : isTri s with
  | false => rfl
  | true =>
    cases h2 : triOk l with
    | false => rfl
    | true =>
      simp only [Bool.not_true, cond_false]
      by_cases h3 : acts.length ≤ 200
      · have e : decide (ilen acts > 200) = false := by simp [ilen]; omega
        have e2 : (((decide ((0 : Int) ≤ (3 : Int))) && (decide ((3 : Int) ≤ (3 : Int)))) && (room (Int.toNat (3 : Int)))) = true := by decide
        have h2' : l.length ≤ 20 := by unfold triOk at h2; simp at h2; exact h2.1
        rw [e, e2]
        simp only [cond_false, cond_true, h3, decide_true, Bool.and_self]
        exact implPlay_lp (N := N) (s := s) h2' h3 _ N 0 (startW s) start_ok (Nat.zero_le _) (by omega)
      · have e : decide (ilen acts > 200) = true := by simp [ilen]; omega
        rw [e]
        simp [h3]

theorem specPlay_run (hll : l.length ≤ 1048576) (hN : 1048576 < N) : T_spec_SeqPlay N s l acts = ret (playF s l acts) := by
  unfold T_spec_SeqPlay playF
  simp only [specTri_run, specTris_run hll hN, ret, Option.bind_some, both_self]
  cases h1 : isTri s with
  | false => rfl
  | true =>
    cases h2 : triOk l with
    | false => rfl
    | true =>
      simp only [Bool.not_true, cond_false]
      by_cases h3 : acts.length ≤ 200
      · have e : decide (ilen acts > 200) = false := by simp [ilen]; omega
        have e2 : (((decide ((0 : Int) ≤ (3 : Int))) && (decide ((3 : Int) ≤ (3 : Int)))) && (room (Int.toNat (3 : Int)))) = true := by decide
        have h2' : l.length ≤ 20 := by unfold triOk at h2; simp at h2; exact h2.1
        rw [e, e2]
        simp only [cond_false, cond_true, h3, decide_true, Bool.and_self]
        exact specPlay_lp (N := N) (s := s) h2' h3 _ N 0 (startW s) start_ok (Nat.zero_le _) (by omega)
      · have e : decide (ilen acts > 200) = true := by simp [ilen]; omega
        rw [e]
        simp [h3]

theorem law_SeqPlay (hN : 1048576 < N) (hl : Wfd (.slice (.prod (.int .i64) (.prod (.int .i64) (.int .i64)))) l) : T_laws_FnExactSeqPlay N s l acts = ret true := by
  unfold T_laws_FnExactSeqPlay
  by_cases hr : 1048576 < acts.length
  · have e : decide (ilen acts > 1048576) = true := by simp [ilen]; omega
    rw [e]; rfl
  · have e : decide (ilen acts > 1048576) = false := by simp [ilen]; omega
    rw [e]
    simp only [cond_false]
    rw [f_szTripleS hN (by omega) (by omega) hl]
    simp only [ret, Option.bind_some]
    by_cases h : (1048576 : Int) < (z_TripleS l : Int)
    · rw [if_pos h]; rfl
    · have e : decide ((1048576 - (z_TripleS l : Int)) < 0) = false := by simp; omega
      rw [if_neg h, e]
      have hl2 : z_TripleS l ≤ 1048576 := by omega
      have hll : l.length ≤ 1048576 := hl2
      have ha2 : acts.length ≤ 1048576 := by omega
      obtain ⟨p1, p2⟩ := playF_small s l acts
      have hw2 : z_SeqWorld (playF s l acts) ≤ 1048576 := by unfold z_SeqWorld z_SeqReaderS z_SeqReadS; omega
      have hi := implPlay_run (s := s) (acts := acts) hll hN
      have hs := specPlay_run (s := s) (acts := acts) hll hN
      generalize playF s l acts = w at *
      have er : w.2.2.2.2.1.length ≤ 1048576 := by omega
      have ed : w.2.2.2.2.2.length ≤ 1048576 := by omega
      have c1 : (0 : Int) ≤ 1 := by omega
      have c2 : (1 : Int) ≤ 1073741824 := by omega
      have d1 : decide ((1 : Int) + ((3 * l.length : Nat) : Int) + ((1 * acts.length : Nat) : Int) < 0) = false := by simp; omega
      have d2 : decide ((1 : Int) + ((6 * w.2.2.2.2.1.length : Nat) : Int) < 0) = false := by simp; omega
      have d3 : decide ((1 : Int) + ((6 * w.2.2.2.2.1.length : Nat) : Int) + ((5 * w.2.2.2.2.2.length : Nat) : Int) < 0) = false := by simp; omega
      simp only [cond_false, f_toTriple hN, f_toTripleS hl2 hN, f_toIntS (a := acts) ha2 hN, hi, hs, ret, Option.bind_some, f_eqSeqWorld hw2 hN, same_self, Bool.not_true, f_eqTripleS hl2 hN, f_eqIntS (a := acts) ha2 hN,
        f_markTripleS hll hN c1 c2, f_markIntS ha2 hN (show (0 : Int) ≤ 1 + ((3 * l.length : Nat) : Int) by omega) (show 1 + ((3 * l.length : Nat) : Int) ≤ 1073741824 by omega), d1,
        T_laws_markSeqWorld, T_laws_heldSeqWorld, f_markSeqReaderS er hN c1 c2, f_markSeqReadS ed hN (show (0 : Int) ≤ 1 + ((6 * w.2.2.2.2.1.length : Nat) : Int) by omega) (show 1 + ((6 * w.2.2.2.2.1.length : Nat) : Int) ≤ 1073741824 by omega),
        f_heldSeqReaderS er hN c1 c2, f_heldSeqReadS ed hN (show (0 : Int) ≤ 1 + ((6 * w.2.2.2.2.1.length : Nat) : Int) by omega) (show 1 + ((6 * w.2.2.2.2.1.length : Nat) : Int) ≤ 1073741824 by omega), d2, d3, bne_self_eq_false]
end

theorem law_FnExactSeqPlay (d : PDen [.v (.prod (.int .i64) (.prod (.int .i64) (.int .i64))) true, .v (.slice (.prod (.int .i64) (.prod (.int .i64) (.int .i64)))) false, .v (.slice (.int .i64)) false])
    (hw : WfArgs [.v (.prod (.int .i64) (.prod (.int .i64) (.int .i64))) true, .v (.slice (.prod (.int .i64) (.prod (.int .i64) (.int .i64)))) false, .v (.slice (.int .i64)) false] d) : ∃ N o, T_laws_FnExactSeqPlay N d.1 d.2.1 d.2.2.1 = some (o, (true, ())) :=
  ⟨1048577, (), law_SeqPlay (by omega) hw.2.1⟩
end Go.Sx
