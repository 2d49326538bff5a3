/- Plain laws of the Lean functions. -/
import Derived.Test.YtceckfecihemnaaGreatMS1Rds

namespace Go.Sx
set_option linter.unusedVariables false
set_option linter.unusedSimpArgs false
def flags (p : Int → Bool) : List Bool := (List.range 8).map fun i : Nat => p (i : Int)
def ownF (log : List Rw) : List Bool := flags fun c => log.any fun r => r.1 == c
def rdF (reads : List Int) : List Bool := flags fun c => reads.any (· == c)
theorem flags_len (p : Int → Bool) : (flags p).length = 8 := by simp [flags]
theorem flags_get {p : Int → Bool} {c : Int} (h : 0 ≤ c ∧ c ≤ 7) : (flags p).getD c.toNat false = p c := by
  have h8 : c.toNat < 8 := by omega
  have e : ((c.toNat : Nat) : Int) = c := by omega
  unfold flags
  rw [List.getD_eq_getElem?_getD, List.getElem?_map, List.getElem?_range h8]
  simp [e]
theorem flags_set {p q : Int → Bool} {c : Int} {b : Bool} (h : 0 ≤ c ∧ c ≤ 7) (hb : q c = b) (ho : ∀ x, x ≠ c → q x = p x) : (flags p).set c.toNat b = flags q := by
  have h8 : c.toNat < 8 := by omega
  apply List.ext_getElem? fun i => ?_
  rw [List.getElem?_set]
  by_cases hi : c.toNat = i
  · subst hi
    have e : ((c.toNat : Nat) : Int) = c := by omega
    rw [if_pos rfl, if_pos (by rw [flags_len]; exact h8)]
    unfold flags
    rw [List.getElem?_map, List.getElem?_range h8]
    simp [e, hb]
  · rw [if_neg hi]
    unfold flags
    rw [List.getElem?_map, List.getElem?_map]
    by_cases h9 : i < 8
    · rw [List.getElem?_range h9]
      simp only [Option.map_some]
      rw [ho]
      omega
    · rw [List.getElem?_eq_none (by simp; omega)]; rfl
theorem flags_inb {p : Int → Bool} {c : Int} (h : isCell c = true) : inb c (flags p).length = true := by rw [flags_len]; exact cell_inb (l := [0, 0, 0, 0, 0, 0, 0, 0]) h rfl
theorem flags_false : List.replicate 8 false = flags fun _ => false := rfl
theorem cell_bd {c : Int} (h : isCell c = true) : 0 ≤ c ∧ c ≤ 7 := by unfold isCell at h; simpa using h
theorem own_add {log : List Rw} {c v : Int} (h : 0 ≤ c ∧ c ≤ 7) : (ownF log).set c.toNat true = ownF (log ++ [(c, v)]) := by
  unfold ownF
  refine flags_set h (by simp) fun x hx => ?_
  have : (c == x) = false := by simp; omega
  simp [this]
theorem rd_add {reads : List Int} {c : Int} (h : 0 ≤ c ∧ c ≤ 7) : (rdF reads).set c.toNat true = rdF (reads ++ [c]) := by
  unfold rdF
  refine flags_set h (by simp) fun x hx => ?_
  have : (c == x) = false := by simp; omega
  simp [this]
theorem rd_same {reads : List Int} {c : Int} {b : Bool} (h : 0 ≤ c ∧ c ≤ 7) (hb : reads.any (· == c) = b) : (rdF reads).set c.toNat b = rdF reads := by
  unfold rdF
  exact flags_set h hb fun x hx => rfl
theorem rd_again {reads : List Int} {c : Int} (h : 0 ≤ c ∧ c ≤ 7) (hb : reads.any (· == c) = true) : rdF (reads ++ [c]) = rdF reads := by
  rw [← rd_add h]; exact rd_same h hb
theorem flg_run {N : Nat} {l : List Bool} (h : l.length ≤ 1048576) : Zeq N l = ret l := by
  unfold Zeq
  rw [room_le (by simp; omega)]
  rfl
def rmk (s : KS) (m : Mk) : Int × List Int × List Int × List Bool := (m.1, (m.2.2, (undo s.cells (s.log.drop m.2.1.toNat), ownF (s.log.take m.2.1.toNat))))
section
variable {N : Nat} {l : List Opn} {R : Type}
theorem rds_lp (hN : 1048576 < N) (hc : KC l) (K : List Bool → Option R) :
    ∀ (n pc : Nat) (s : KS), KI l pc s → l.length - pc < n → Zt N l (fun _ _ _ _ _ r _ => K r) n (pc : Int) s.regs s.cells (ownF s.log) (rdF s.reads) (s.marks.map (rmk s)) =
      K (rdF (eRun l n pc s).2.reads)
  | 0, pc, s, h, hn => by omega
  | n + 1, pc, s, h, hn => by
    have hlen := hc.len
    have hpl := h.pcl
    by_cases hp : pc < l.length
    · have hinv := step_inv hc h hp
      have ih := rds_lp hN hc K n
      have go : ∀ pc' s', eStep l pc s = (true, pc', s') → Zt N l (fun _ _ _ _ _ r _ => K r) n (pc' : Int) s'.regs s'.cells (ownF s'.log) (rdF s'.reads) (s'.marks.map (rmk s')) = K (rdF (eRun l (n + 1) pc s).2.reads) := fun pc' s' he => by
        rw [he] at hinv
        obtain ⟨h1, h2⟩ := hinv.1 rfl
        rw [ih pc' s' h2 (by simp only [] at h1; omega), eRun, he]
        simp [hp]
      have stop : ∀ pc' s', eStep l pc s = (false, pc', s') → K (rdF s'.reads) = K (rdF (eRun l (n + 1) pc s).2.reads) := fun pc' s' he => by
        rw [eRun, he]
        simp [hp]
      obtain ⟨ho, k1, k2⟩ := hc.ok pc hp
      have ha := opAt_lt hp
      have hlg := h.lg
      have hml : s.marks.length ≤ 24 := by
        have e1 := congrArg List.length h.mp
        simp only [List.length_map] at e1
        have e2 := stk_len hc.up pc hpl
        have := dep_bd l pc
        omega
      simp only [Zt, ix_lt hp, ix_inb hp, ix_get hp, cond_true, ix_succ (show pc < 4611686018427387904 by omega)]
      unfold eStep at go stop
      rw [ha] at go stop
      unfold eStepO at go stop
      by_cases k5 : l[pc].1 = 5
      · have b : (l[pc].1 == 5) = true := by simp [k5]
        obtain ⟨o1, o2⟩ := ok_5 ho k5
        have hb := cell_bd o2
        rw [b] at go
        have go' := go _ _ rfl
        have e1 : (ownF s.log).getD l[pc].2.2.1.toNat false = s.log.any fun r => r.1 == l[pc].2.2.1 := flags_get hb
        have e2 : (rdF s.reads).getD l[pc].2.2.1.toNat false = s.reads.any (· == l[pc].2.2.1) := flags_get hb
        have i1 : inb l[pc].2.2.1 (ownF s.log).length = true := flags_inb o2
        have i2 : inb l[pc].2.2.1 (rdF s.reads).length = true := flags_inb o2
        simp only [b, cond_true, cell_inb o2 h.cl.len, reg_inb o1 h.rg.len, i1, i2, e1, e2]
        refine Eq.trans ?_ go'
        have hm : ∀ (s' : KS), s'.cells = s.cells → s'.log = s.log → s.marks.map (rmk s') = s.marks.map (rmk s) := fun s' q1 q2 => by
          apply List.map_congr_left
          intro m hm
          unfold rmk
          rw [q1, q2]
        simp only []
        rw [hm _ rfl rfl]
        cases hq : s.reads.any fun x => x == l[pc].2.2.1
        · simp only [cond_false]
          cases hw : s.log.any fun r => r.1 == l[pc].2.2.1
          · simp only [Bool.not_false, cond_false]
            rw [rd_add hb]; rfl
          · simp only [Bool.not_true, cond_true]
            rw [rd_same hb hq]; rfl
        · simp only [cond_true]
          rw [rd_same hb hq]
          cases hw : s.log.any fun r => r.1 == l[pc].2.2.1
          · simp only [cond_false]
            rw [rd_again hb hq]; rfl
          · rfl
      · have b5 : (l[pc].1 == 5) = false := by simp [k5]
        rw [b5] at go stop
        by_cases k6 : l[pc].1 = 6
        · have b : (l[pc].1 == 6) = true := by simp [k6]
          obtain ⟨o1, o2⟩ := ok_6 ho k6
          rw [b] at go
          have i1 : inb l[pc].2.1 (ownF s.log).length = true := flags_inb o1
          simp only [b5, b, cond_true, cond_false, cell_inb o1 h.cl.len, reg_inb o2 h.rg.len, i1]
          refine Eq.trans ?_ (go _ _ rfl)
          simp only []
          rw [own_add (cell_bd o1)]
          congr 1
          apply List.map_congr_left
          intro m hm
          have := h.mr m hm
          unfold rmk
          simp only []
          rw [undo_write (by omega), List.take_append_of_le_length (by omega)]
        · have b6 : (l[pc].1 == 6) = false := by simp [k6]
          rw [b6] at go stop
          by_cases k7 : l[pc].1 = 7
          · have b : (l[pc].1 == 7) = true := by simp [k7]
            obtain ⟨o1, o2, o3⟩ := ok_7 ho k7
            rw [b] at go
            simp only [b5, b6, b, cond_true, cond_false, reg_inb o1 h.rg.len]
            have e2 : iadd .i64 ((pc + 1 : Nat) : Int) l[pc].2.2.1 = ((pc + 1 + l[pc].2.2.1.toNat : Nat) : Int) := by rw [iadd_eq (by unfold I64; omega)]; omega
            rw [e2]
            refine Eq.trans ?_ (go _ _ rfl)
            cases s.regs.getD l[pc].2.1.toNat 0 == 0 <;> rfl
          · have b7 : (l[pc].1 == 7) = false := by simp [k7]
            rw [b7] at go stop
            by_cases k8 : l[pc].1 = 8
            · have b : (l[pc].1 == 8) = true := by simp [k8]
              rw [b] at go
              have r1 : room ((s.marks.map (rmk s)).length + [((pc : Int), (s.regs, (s.cells, ownF s.log)))].length) = true := room_le (by simp; omega)
              simp only [b5, b6, b7, b, cond_true, cond_false, l15_run (N := N) (l := s.regs) (by rw [h.rg.len]; omega), l15_run (N := N) (l := s.cells) (by rw [h.cl.len]; omega), flg_run (N := N) (l := ownF s.log) (by unfold ownF; rw [flags_len]; omega), ret, Option.bind_some, r1]
              refine Eq.trans ?_ (go _ _ rfl)
              simp only [List.map_append, List.map_cons, List.map_nil, rmk, Int.toNat_natCast, List.drop_length, List.take_length]
              rfl
            · have b8 : (l[pc].1 == 8) = false := by simp [k8]
              rw [b8] at go stop
              by_cases k9 : l[pc].1 = 9
              · have b : (l[pc].1 == 9) = true := by simp [k9]
                rw [b] at go
                have hne : s.marks ≠ [] := fun h0 => by
                  have e1 := congrArg List.length h.mp
                  rw [h0] at e1
                  simp only [List.length_map, List.length_nil] at e1
                  have e2 := stk_len hc.up pc hpl
                  have e3 := hc.up pc hp
                  have e4 := dep_succ hp
                  rw [opd_9 k9] at e4
                  omega
                obtain ⟨m, q, x, hq, ht, hx, ⟨hm, h8⟩, hmate, hge, hst, hqm⟩ := top_of hc h hne
                have o8 := ok_8 (hc.ok m hm).1 h8
                rw [ht] at go
                rw [hq] at go ⊢
                rw [hq] at hml
                have hql : (q.map (rmk s)).length < 1000 := by rw [List.length_append] at hml; simp; omega
                have c1 : (rmk s x).1 = (m : Int) := hx
                simp only [b5, b6, b7, b8, b, cond_true, cond_false, List.map_append, List.map_cons, List.map_nil, last_len hql, last_inb, Int.toNat_natCast, last_get, last_take, last_cut, c1, ix_inb hm, opAt_get, opAt_lt hm, reg_inb o8 h.rg.len]
                refine Eq.trans ?_ (go _ _ rfl)
                simp only [hx, Int.toNat_natCast, opAt_lt hm, List.length_append, List.length_cons, List.length_nil, Nat.zero_add, Nat.add_sub_cancel, last_take]
                rfl
              · have b9 : (l[pc].1 == 9) = false := by simp [k9]
                rw [b9] at go stop
                by_cases k10 : l[pc].1 = 10
                · have b : (l[pc].1 == 10) = true := by simp [k10]
                  rw [b] at go stop
                  simp only [b5, b6, b7, b8, b9, b, cond_true, cond_false]
                  by_cases hne : s.marks = []
                  · have he : s.marks.isEmpty = true := by rw [hne]; rfl
                    rw [he] at stop
                    have e3 : decide (ilen (s.marks.map (rmk s)) > 0) = false := by rw [hne]; rfl
                    rw [e3]
                    simp only [cond_false]
                    obtain ⟨n', rfl⟩ : ∃ n', n = n' + 1 := ⟨n - 1, by omega⟩
                    have ee : ilen l = ((l.length : Nat) : Int) := rfl
                    rw [ee, Zt, ix_ge (Nat.le_refl l.length)]
                    simp only [cond_false]
                    exact stop pc { s with cells := undo s.cells s.log, log := [], back := s.back + s.log.length } rfl
                  · have he : s.marks.isEmpty = false := by cases hm : s.marks with | nil => exact absurd hm hne | cons a b => rfl
                    rw [he] at go
                    obtain ⟨m, q, x, hq, ht, hx, ⟨hm, h8⟩, hmate, hge, hst, hqm⟩ := top_of hc h hne
                    have hxm : x ∈ s.marks := by rw [hq]; simp
                    obtain ⟨x1, x2, x3⟩ := h.mr x hxm
                    have o8 := ok_8 (hc.ok m hm).1 h8
                    have hlast : ∀ y ∈ q, y.2.1 ≤ x.2.1 := by
                      have := h.mo
                      rw [hq] at this
                      exact fun y hy => (List.pairwise_append.1 this).2.2 y hy x (by simp)
                    have hqy : ∀ y ∈ q, 0 ≤ y.2.1 := fun y hy => (h.mr y (by rw [hq]; simp [hy])).2.1
                    rw [ht] at go
                    rw [hq] at go ⊢
                    rw [hq] at hml
                    have hql : (q.map (rmk s)).length < 1000 := by rw [List.length_append] at hml; simp; omega
                    have e3 : decide (ilen (q.map (rmk s) ++ [rmk s x]) > 0) = true := by
                      unfold ilen; rw [List.length_append]; simp
                    have hml2 := hmate.len
                    have hu := undo_ok h.cl (l := s.log.drop x.2.1.toNat) fun r hr => hlg.1 r (List.mem_of_mem_drop hr)
                    have c1 : (rmk s x).1 = (m : Int) := hx
                    have c2 : (rmk s x).2.1 = x.2.2 := rfl
                    have c3 : (rmk s x).2.2.1 = undo s.cells (s.log.drop x.2.1.toNat) := rfl
                    have c4 : (rmk s x).2.2.2 = ownF (s.log.take x.2.1.toNat) := rfl
                    simp only [List.map_append, List.map_cons, List.map_nil]
                    simp only [e3, last_len hql, cond_false, last_inb, Int.toNat_natCast, last_get, last_take, last_cut, cond_true, c1, c2, c3, c4, l15_run (N := N) (l := x.2.2) (by rw [x1.len]; omega), l15_run (N := N) (l := undo s.cells (s.log.drop x.2.1.toNat)) (by rw [hu.len]; omega), flg_run (N := N) (l := ownF (s.log.take x.2.1.toNat)) (by unfold ownF; rw [flags_len]; omega), Option.bind_some, ix_inb hm, opAt_get, opAt_lt hm, reg_inb o8 x1.len,
                      specEnd_run (N := N) (l := l) (by omega) hN ⟨hm, h8⟩ hmate, ret, ix_succ (show mt l m < 4611686018427387904 by omega)]
                    refine Eq.trans ?_ (go _ _ rfl)
                    simp only [hx, Int.toNat_natCast, opAt_lt hm, List.length_append, List.length_cons, List.length_nil, Nat.zero_add, Nat.add_sub_cancel, last_take]
                    congr 1
                    apply List.map_congr_left
                    intro y hy
                    have hy1 := hlast y hy
                    have hy2 := hqy y hy
                    unfold rmk
                    simp only []
                    rw [undo_cut (by omega) (by omega), List.take_take, Nat.min_eq_left (by omega)]
                · have b10 : (l[pc].1 == 10) = false := by simp [k10]
                  rw [b10] at go stop
                  simp only [b5, b6, b7, b8, b9, b10, cond_false, specCalc_run hN ho k1 (by omega) h.rg, Option.bind_some]
                  exact go _ _ rfl
    · have e : pc = l.length := by omega
      subst e
      simp only [Zt, ix_ge (Nat.le_refl l.length), cond_false]
      rw [eRun]
      simp
end
noncomputable def readsOf (l : List Opn) (regs cells : List Int) : List Int :=
  bif kidOk l && (regsOk regs && valsOk cells) then cellsIn (fun c => (eRun l (l.length + 1) 0 (ks0 regs cells)).2.reads.any (· == c)) else []
theorem flags_collect {R : Type} {lp : Nat → Int → List Int → Option R} {p : Int → Bool} {K : List Int → Option R} (h : ∀ n (j : Nat) (v : List Int), j < 8 → v.length ≤ 8 → lp (n + 1) (j : Int) v = bif p (j : Int) then lp n ((j + 1 : Nat) : Int) (v ++ [(j : Int)]) else lp n ((j + 1 : Nat) : Int) v)
    (he : ∀ n v, lp (n + 1) 8 v = K v) {n : Nat} (hn : 8 < n) : lp n 0 [] = K (cellsIn p) := by
  have key : ∀ (k j n : Nat) (v : List Int), j + k = 8 → k < n → v.length ≤ j → lp n (j : Int) v = K (v ++ ((List.range' j k).map fun i : Nat => (i : Int)).filter p) := by
    intro k
    induction k with
    | zero =>
      intro j n v hj hn hv
      obtain ⟨n', rfl⟩ : ∃ n', n = n' + 1 := ⟨n - 1, by omega⟩
      have : (j : Int) = 8 := by omega
      rw [this, he]
      simp
    | succ k ih =>
      intro j n v hj hn hv
      obtain ⟨n', rfl⟩ : ∃ n', n = n' + 1 := ⟨n - 1, by omega⟩
      rw [h n' j v (by omega) (by omega), List.range'_succ, List.map_cons, List.filter_cons]
      cases hp : p (j : Int)
      · simp only [cond_false, Bool.false_eq_true, if_false]
        exact ih (j + 1) n' v (by omega) (by omega) (by omega)
      · simp only [cond_true, if_true]
        rw [ih (j + 1) n' (v ++ [(j : Int)]) (by omega) (by omega) (by simp; omega)]
        simp
  have := key 8 0 n [] rfl hn (by simp)
  simpa [cellsIn, List.range_eq_range'] using this
section
variable {N : Nat} {l : List Opn} {regs cells : List Int}
theorem specReads_run (hN : 1048576 < N) (hl : l.length ≤ 1048576) (hr : regs.length ≤ 1048576) (hc : cells.length ≤ 1048576) : Zcr N l regs cells = ret (readsOf l regs cells) := by
  unfold Zcr readsOf
  simp only [specKid_run hl hN, specRegs_run hr hN, specVals_run hc hN, l15_run hr, l15_run hc, ret, Option.bind_some]
  cases h1 : kidOk l
  · rfl
  · cases h2 : regsOk regs
    · rfl
    · cases h3 : valsOk cells
      · rfl
      · have kc := kc_of h1
        have ki := ks0_inv (l := l) (regs_iff.1 h2) (vals_iff.1 h3)
        have e8 : (((decide ((0 : Int) ≤ (8 : Int))) && (decide ((8 : Int) ≤ (8 : Int)))) && (room (Int.toNat (8 : Int)))) = true := rfl
        have e9 : List.replicate (Int.toNat 8) false = ownF [] := rfl
        have e10 : ownF [] = rdF [] := rfl
        simp only [Bool.not_true, cond_false, cond_true, Bool.and_true, e8, e9]
        have key := rds_lp (N := N) (R := Unit × (List Int × Unit)) hN kc (fun r => Zau N r (fun i52 t53 l54 => some ((), (l54, ()))) N 0 []) N 0 (ks0 regs cells) ki (by have := kc.len; omega)
        refine Eq.trans ?_ (key.trans ?_)
        · rfl
        · rw [fuelN kc ki hN]
          generalize (eRun l (l.length + 1) 0 (ks0 regs cells)).2.reads = rs
          have r8 : (rdF rs).length = 8 := flags_len _
          refine flags_collect (lp := Zau N (rdF rs) (fun i52 t53 l54 => some ((), (l54, ())))) (K := fun v => some ((), (v, ()))) (fun n j v hj hv => ?_) (fun n v => ?_) (by omega)
          · have g : (rdF rs).getD j false = rs.any (· == (j : Int)) := flags_get (p := fun c => rs.any (· == c)) (c := (j : Int)) ⟨by omega, by omega⟩
            have r1 : room (v.length + [(j : Int)].length) = true := room_le (by simp; omega)
            rw [Zau]
            simp only [ix_lt (show j < (rdF rs).length by omega), ix_inb (show j < (rdF rs).length by omega), Int.toNat_natCast, g, cond_true, r1, ix_succ (show j < 4611686018427387904 by omega)]
            rfl
          · rw [Zau]
            have : decide ((8 : Int) < ilen (rdF rs)) = false := by unfold ilen; rw [r8]; rfl
            rw [this]; rfl
theorem implReads_run (hN : 1048576 < N) (hl : l.length ≤ 1048576) (hr : regs.length ≤ 1048576) (hc : cells.length ≤ 1048576) : Zgz N l regs cells = ret (readsOf l regs cells) := by
  unfold Zgz readsOf
  rw [implKidOf_run hN hl hr hc]
  simp only [Option.bind_some]
  cases hk : kidOk l && (regsOk regs && valsOk cells)
  · rfl
  · simp only [Bool.and_eq_true] at hk
    have kc := kc_of hk.1
    have ki := ks0_inv (l := l) (regs_iff.1 hk.2.1) (vals_iff.1 hk.2.2)
    have key := implEag_lp (N := N) (R := (((List Int × List Int × List Rw × Int × List Mk × List Int) × Unit) × (Int × Unit))) hN kc (fun b35 l36 l37 l38 l39 l40 =>
      (some (((l36, (l37, (l38, (b35, (l39, l40))))), ()), ((2 : Int), ())))) (fun i41 t42 b43 l44 l45 l46 l47 l48 =>
      (some (((l44, (l45, (l46, (b43, (l47, l48))))), ()), ((1 : Int), ())))) N 0 (ks0 regs cells) ki (by have := kc.len; omega)
    simp only [Bool.not_true, cond_false, cond_true]
    unfold Za9
    have key' : Zs N l (fun b35 l36 l37 l38 l39 l40 =>
      (some (((l36, (l37, (l38, (b35, (l39, l40))))), ()), ((2 : Int), ())) : Option (((List Int × List Int × List Rw × Int × List Mk × List Int) × Unit) × (Int × Unit)))) (fun i41 t42 b43 l44 l45 l46 l47 l48 =>
      (some (((l44, (l45, (l46, (b43, (l47, l48))))), ()), ((1 : Int), ())))) N 0 0 regs cells [] [] [] = _ := key
    have hi := (eRun_inv kc (l.length + 1) 0 _ ki).2.2.2.2.2
    have fin : ∀ rs : List Int, rs.length ≤ 24 → (∀ x ∈ rs, 0 ≤ x ∧ x ≤ 7) → ((Zap N rs).bind fun o6 => (Zu N o6.1.1).bind fun o7 => some ((), (o7.2.1, ()))) = ret (cellsIn fun c => rs.any (· == c)) := fun rs h1 h2 => by
      unfold Zap Zgp
      have : decide (rs.length < 4611686018427387904) = true := by simp; omega
      rw [this]
      simp only [cond_true, Option.bind_some]
      rw [compact_run (by rw [len_sortInts]; omega) hN, sorted_cells h2]
      rfl
    simp only [key', fuelN kc ki hN]
    generalize eRun l (l.length + 1) 0 (ks0 regs cells) = f at hi
    obtain ⟨b, s⟩ := f
    have := fin s.reads hi.1 hi.2
    cases b <;> exact this
end
end Go.Sx
