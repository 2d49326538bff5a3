/- Plain laws of the Lean functions. -/
import Derived.Test.YtceckfecihemnaaGreatMS1EagM

namespace Go.Sx
set_option linter.unusedVariables false
set_option linter.unusedSimpArgs false
theorem anyRow_run {N : Nat} {log : List Rw} {o : Opn} (hl : log.length ≤ 1048576) (hN : 1048576 < N) : Zy N log o = some ((o, ()), (log.any (fun r => r.1 == o.2.2.1), ())) := by
  unfold Zy Zn
  have h1 := loop_ix0 (l := log) (V := { v : Opn // v = o }) (R := (Opn × Unit) × (Int × Unit)) (lp := fun n j v => Zk N log (fun t15 b16 => some ((b16, ()), (t15, ()))) (fun t17 t18 b19 => some ((b19, ()), ((-1 : Int), ()))) n j v.1) (n := N) (by omega)
    (body := fun j x v k => bif x.1 == o.2.2.1 then some ((v.1, ()), (j, ())) else k v) (K := fun _ v => some ((v.1, ()), ((-1 : Int), ())))
    (fun n i v hi => by
      obtain ⟨v, rfl⟩ := v
      simp only [Zk, ix_lt hi, ix_inb hi, ix_get hi, ix_succ (show i < 4611686018427387904 by omega), cond_true, Zgr, Option.bind_some])
    (fun n v => by simp only [Zk, ix_ge (Nat.le_refl log.length), cond_false]) ⟨o, rfl⟩
  simp only [] at h1
  rw [h1]
  have key : ∀ (r : List Rw) (j : Nat) (v : { v : Opn // v = o }), (r.any (fun r => r.1 == o.2.2.1) = true ∧ ∃ i : Nat, foldK (fun j x (v : { v : Opn // v = o }) k => bif x.1 == o.2.2.1 then some ((v.1, ()), (j, ())) else k v) (fun _ v => (some ((v.1, ()), ((-1 : Int), ())) : Option ((Opn × Unit) × (Int × Unit)))) r j v = some ((o, ()), ((i : Int), ()))) ∨
      (r.any (fun r => r.1 == o.2.2.1) = false ∧ foldK (fun j x (v : { v : Opn // v = o }) k => bif x.1 == o.2.2.1 then some ((v.1, ()), (j, ())) else k v) (fun _ v => (some ((v.1, ()), ((-1 : Int), ())) : Option ((Opn × Unit) × (Int × Unit)))) r j v = some ((o, ()), ((-1 : Int), ()))) := by
    intro r
    induction r with
    | nil => intro j v; obtain ⟨v, rfl⟩ := v; exact .inr ⟨rfl, rfl⟩
    | cons x r ih =>
      intro j v
      rw [foldK, List.any_cons]
      cases x.1 == o.2.2.1
      · simpa using ih (j + 1) v
      · obtain ⟨v, rfl⟩ := v
        exact .inl ⟨rfl, j, rfl⟩
  rcases key log 0 ⟨o, rfl⟩ with ⟨ha, i, hi⟩ | ⟨ha, hi⟩
  · rw [hi, ha]; simp
  · rw [hi, ha]; rfl
theorem last_len {α : Type} {q : List α} {x : α} (h : q.length < 1000) : isub .i64 (ilen (q ++ [x])) 1 = (q.length : Int) := by
  rw [isub_eq (by unfold I64 ilen; rw [List.length_append]; simp; omega)]
  unfold ilen; rw [List.length_append]; simp
theorem last_inb {α : Type} {q : List α} {x : α} : inb (q.length : Int) (q ++ [x]).length = true := by rw [inb_nat]; simp
theorem last_get {α : Type} {q : List α} {x d : α} : List.getD (q ++ [x]) q.length d = x := by simp
theorem last_take {α : Type} {q : List α} {x : α} : List.take q.length (q ++ [x]) = q := by simp
theorem last_cut {α : Type} {q : List α} {x : α} : ((decide ((0 : Int) ≤ (q.length : Int))) && (decide ((q.length : Int) ≤ ((List.length (q ++ [x])) : Int)))) = true := by rw [List.length_append]; simp; omega
theorem opAt_get {l : List Opn} {m : Nat} : List.getD l m ((0 : Int), ((0 : Int), ((0 : Int), (0 : Int)))) = opAt l m := rfl
section
variable {N : Nat} {l : List Opn} {R : Type}
theorem implEag_lp (hN : 1048576 < N) (hc : KC l) (K0 : Int → List Int → List Int → List Rw → List Mk → List Int → Option R) (K1 : Int → Bool → Int → List Int → List Int → List Rw → List Mk → List Int → Option R) :
    ∀ (n pc : Nat) (s : KS), KI l pc s → l.length - pc < n → Zs N l K0 K1 n (pc : Int) s.back s.regs s.cells s.log s.marks s.reads =
      (fun f : Bool × KS => bif f.1 then K0 f.2.back f.2.regs f.2.cells f.2.log f.2.marks f.2.reads else K1 l.length false f.2.back f.2.regs f.2.cells f.2.log f.2.marks f.2.reads) (eRun l n pc s)
  | 0, pc, s, h, hn => by omega
  | n + 1, pc, s, h, hn => by
    have hlen := hc.len
    have hpl := h.pcl
    by_cases hp : pc < l.length
    · have hinv := step_inv hc h hp
      have ih := implEag_lp hN hc K0 K1 n
      have go : ∀ pc' s', eStep l pc s = (true, pc', s') → Zs N l K0 K1 n (pc' : Int) s'.back s'.regs s'.cells s'.log s'.marks s'.reads = (fun f : Bool × KS => bif f.1 then K0 f.2.back f.2.regs f.2.cells f.2.log f.2.marks f.2.reads else K1 l.length false f.2.back f.2.regs f.2.cells f.2.log f.2.marks f.2.reads) (eRun l (n + 1) pc s) := fun pc' s' he => by
        rw [he] at hinv
        obtain ⟨h1, h2⟩ := hinv.1 rfl
        rw [ih pc' s' h2 (by simp only [] at h1; omega), eRun, he]
        simp [hp]
      have stop : ∀ pc' s', eStep l pc s = (false, pc', s') → K0 s'.back s'.regs s'.cells s'.log s'.marks s'.reads = (fun f : Bool × KS => bif f.1 then K0 f.2.back f.2.regs f.2.cells f.2.log f.2.marks f.2.reads else K1 l.length false f.2.back f.2.regs f.2.cells f.2.log f.2.marks f.2.reads) (eRun l (n + 1) pc s) := fun pc' s' he => by
        rw [eRun, he]
        simp [hp]
      obtain ⟨ho, k1, k2⟩ := hc.ok pc hp
      have ha := opAt_lt hp
      have hlg := h.lg
      have hrd := h.rd.1
      have hml : s.marks.length ≤ 24 := by
        have e1 := congrArg List.length h.mp
        simp only [List.length_map] at e1
        have e2 := stk_len hc.up pc hpl
        have := dep_bd l pc
        omega
      have r0 : room s.regs.length = true := room_le (by rw [h.rg.len]; omega)
      simp only [Zs, ix_lt hp, ix_inb hp, ix_get hp, cond_true, ix_succ (show pc < 4611686018427387904 by omega)]
      unfold eStep at go stop
      rw [ha] at go stop
      unfold eStepO at go stop
      by_cases k5 : l[pc].1 = 5
      · have b : (l[pc].1 == 5) = true := by simp [k5]
        obtain ⟨o1, o2⟩ := ok_5 ho k5
        rw [b] at go
        have r1 : room (s.reads.length + [l[pc].2.2.1].length) = true := room_le (by simp; omega)
        simp only [b, cond_true, anyRow_run (log := s.log) (by omega) hN, Option.bind_some, cell_inb o2 h.cl.len, reg_inb o1 h.rg.len, r1]
        refine Eq.trans ?_ (go _ _ rfl)
        cases s.log.any fun r => r.1 == l[pc].2.2.1 <;> rfl
      · have b5 : (l[pc].1 == 5) = false := by simp [k5]
        rw [b5] at go stop
        by_cases k6 : l[pc].1 = 6
        · have b : (l[pc].1 == 6) = true := by simp [k6]
          obtain ⟨o1, o2⟩ := ok_6 ho k6
          rw [b] at go
          have r1 : room (s.log.length + [(l[pc].2.1, s.cells.getD l[pc].2.1.toNat 0)].length) = true := room_le (by simp; omega)
          simp only [b5, b, cond_true, cond_false, cell_inb o1 h.cl.len, reg_inb o2 h.rg.len, r1]
          exact go _ _ rfl
        · have b6 : (l[pc].1 == 6) = false := by simp [k6]
          rw [b6] at go stop
          by_cases k7 : l[pc].1 = 7
          · have b : (l[pc].1 == 7) = true := by simp [k7]
            obtain ⟨o1, o2, o3⟩ := ok_7 ho k7
            rw [b] at go
            simp only [b5, b6, b, cond_true, cond_false, reg_inb o1 h.rg.len]
            have e1 : iadd .i64 (pc : Int) l[pc].2.2.1 = ((pc + l[pc].2.2.1.toNat : Nat) : Int) := by rw [iadd_eq (by unfold I64; omega)]; omega
            have e2 : iadd .i64 ((pc + l[pc].2.2.1.toNat : Nat) : Int) 1 = ((pc + 1 + l[pc].2.2.1.toNat : Nat) : Int) := by rw [iadd_eq (by unfold I64; omega)]; omega
            rw [e1, e2]
            refine Eq.trans ?_ (go _ _ rfl)
            cases s.regs.getD l[pc].2.1.toNat 0 == 0 <;> rfl
          · have b7 : (l[pc].1 == 7) = false := by simp [k7]
            rw [b7] at go stop
            by_cases k8 : l[pc].1 = 8
            · have b : (l[pc].1 == 8) = true := by simp [k8]
              rw [b] at go
              have r1 : room (s.marks.length + [((pc : Int), (ilen s.log, s.regs))].length) = true := room_le (by simp; omega)
              simp only [b5, b6, b7, b, cond_true, cond_false, copyInts_run (l := s.regs) (by rw [h.rg.len]; omega), ret, Option.bind_some, r1]
              exact go _ _ rfl
            · have b8 : (l[pc].1 == 8) = false := by simp [k8]
              rw [b8] at go stop
              by_cases k9 : l[pc].1 = 9
              · have b : (l[pc].1 == 9) = true := by simp [k9]
                rw [b] at go
                have hne : s.marks ≠ [] := fun h0 => by
                  have e1 := congrArg List.length h.mp
                  rw [h0] at e1
                  simp only [List.length_map, List.length_nil] at e1
                  have e2 := stk_len hc.up pc hpl
                  have e3 := hc.up pc hp
                  have e4 := dep_succ hp
                  rw [opd_9 k9] at e4
                  omega
                obtain ⟨m, q, x, hq, ht, hx, ⟨hm, h8⟩, hmate, hge, hst, hqm⟩ := top_of hc h hne
                have o8 := ok_8 (hc.ok m hm).1 h8
                rw [ht] at go
                rw [hq] at go ⊢
                rw [hq] at hml
                have hql : q.length < 1000 := by rw [List.length_append] at hml; omega
                simp only [b5, b6, b7, b8, b, cond_true, cond_false, last_len hql, last_inb, Int.toNat_natCast, last_get, last_take, last_cut, hx, ix_inb hm, opAt_get, opAt_lt hm, reg_inb o8 h.rg.len]
                refine Eq.trans ?_ (go _ _ rfl)
                simp only [hx, Int.toNat_natCast, opAt_lt hm, List.length_append, List.length_cons, List.length_nil, Nat.zero_add, Nat.add_sub_cancel, last_take]
              · have b9 : (l[pc].1 == 9) = false := by simp [k9]
                rw [b9] at go stop
                by_cases k10 : l[pc].1 = 10
                · have b : (l[pc].1 == 10) = true := by simp [k10]
                  rw [b] at go stop
                  simp only [b5, b6, b7, b8, b9, b, cond_true, cond_false]
                  have hbk := h.bk
                  by_cases hne : s.marks = []
                  · have he : s.marks.isEmpty = true := by rw [hne]; rfl
                    rw [he] at stop
                    have c := (cut_run (N := N) (m := 0) h.cl hlg.1 (by omega) (by omega) hN).2
                    have e1 : decide ((isub .i64 (ilen s.marks) 1) < 0) = true := by rw [hne]; rfl
                    have e2 : isub .i64 (iadd .i64 s.back (ilen s.log)) 0 = s.back + (s.log.length : Int) := by
                      have : iadd .i64 s.back (ilen s.log) = s.back + (s.log.length : Int) := iadd_eq (by unfold I64 ilen; omega)
                      rw [this, isub_eq (by unfold I64; omega)]; omega
                    have c0 : Zbk N s.cells s.log 0 = some ((), (undo s.cells s.log, ([], ()))) := c
                    unfold Zep Zeh
                    simp only [e1, cond_true, c0, Option.bind_some, e2]
                    have e3 : decide ((-1 : Int) < 0) = true := rfl
                    simp only [e3, cond_true]
                    exact stop _ _ rfl
                  · have he : s.marks.isEmpty = false := by cases hm : s.marks with | nil => exact absurd hm hne | cons a b => rfl
                    rw [he] at go
                    obtain ⟨m, q, x, hq, ht, hx, ⟨hm, h8⟩, hmate, hge, hst, hqm⟩ := top_of hc h hne
                    have hxm : x ∈ s.marks := by rw [hq]; simp
                    obtain ⟨x1, x2, x3⟩ := h.mr x hxm
                    have o8 := ok_8 (hc.ok m hm).1 h8
                    have ex : ((x.2.1.toNat : Nat) : Int) = x.2.1 := by omega
                    have c := (cut_run (N := N) (m := x.2.1.toNat) h.cl hlg.1 (by omega) (by omega) hN).2
                    rw [ex] at c
                    rw [ht] at go
                    rw [hq] at go ⊢
                    rw [hq] at hml
                    have hql : q.length < 1000 := by rw [List.length_append] at hml; omega
                    have e1 : decide ((q.length : Int) < 0) = false := by simp
                    have e2 : isub .i64 (iadd .i64 s.back (ilen s.log)) x.2.1 = s.back + (s.log.length : Int) - x.2.1 := by
                      have : iadd .i64 s.back (ilen s.log) = s.back + (s.log.length : Int) := iadd_eq (by unfold I64 ilen; omega)
                      rw [this, isub_eq (by unfold I64; omega)]
                    have e3 : (((decide ((0 : Int) ≤ (q.length : Int))) && (decide ((q.length : Int) ≤ ((List.length (q ++ [x])) : Int)))) && (decide ((q.length : Int) ≤ (q.length : Int)))) = true := by rw [last_cut]; simp
                    have e4 : decide ((m : Int) < 0) = false := by simp
                    have hml2 := hmate.len
                    unfold Zep Zeh
                    simp only [last_len hql, e1, cond_false, last_inb, Int.toNat_natCast, last_get, last_take, e3, cond_true, c, Option.bind_some, e2, hx, ix_inb hm, opAt_get, opAt_lt hm, reg_inb o8 x1.len, e4,
                      implEnd_run (N := N) (l := l) (by omega) hN ⟨hm, h8⟩ hmate, ret, ix_succ (show mt l m < 4611686018427387904 by omega)]
                    refine Eq.trans ?_ (go _ _ rfl)
                    simp only [hx, Int.toNat_natCast, opAt_lt hm, List.length_append, List.length_cons, List.length_nil, Nat.zero_add, Nat.add_sub_cancel, last_take]
                · have b10 : (l[pc].1 == 10) = false := by simp [k10]
                  rw [b10] at go stop
                  simp only [b5, b6, b7, b8, b9, b10, cond_false, implCalc_run hN ho k1 (by omega) h.rg, Option.bind_some]
                  exact go _ _ rfl
    · have e : pc = l.length := by omega
      subst e
      simp only [Zs, ix_ge (Nat.le_refl l.length), cond_false]
      rw [eRun]
      simp
def smk (m : Mk) : Int × List Int × Int := (m.1, m.2.2, m.2.1)
theorem specEag_lp (hN : 1048576 < N) (hc : KC l) (K0 : Int → List Int → List Int → List Rw → Option R) (K1 : Int → Bool → Int → List (Int × List Int × Int) → List Int → List Int → List Rw → Option R) :
    ∀ (n pc : Nat) (s : KS), KI l pc s → l.length - pc < n → Z1 N l K0 K1 n (pc : Int) s.back (s.marks.map smk) s.regs s.cells s.log =
      (fun f : Bool × KS => bif f.1 then K0 f.2.back f.2.regs f.2.cells f.2.log else K1 l.length false f.2.back (f.2.marks.map smk) f.2.regs f.2.cells f.2.log) (eRun l n pc s)
  | 0, pc, s, h, hn => by omega
  | n + 1, pc, s, h, hn => by
    have hlen := hc.len
    have hpl := h.pcl
    by_cases hp : pc < l.length
    · have hinv := step_inv hc h hp
      have ih := specEag_lp hN hc K0 K1 n
      have go : ∀ pc' s', eStep l pc s = (true, pc', s') → Z1 N l K0 K1 n (pc' : Int) s'.back (s'.marks.map smk) s'.regs s'.cells s'.log = (fun f : Bool × KS => bif f.1 then K0 f.2.back f.2.regs f.2.cells f.2.log else K1 l.length false f.2.back (f.2.marks.map smk) f.2.regs f.2.cells f.2.log) (eRun l (n + 1) pc s) := fun pc' s' he => by
        rw [he] at hinv
        obtain ⟨h1, h2⟩ := hinv.1 rfl
        rw [ih pc' s' h2 (by simp only [] at h1; omega), eRun, he]
        simp [hp]
      have stop : ∀ pc' s', eStep l pc s = (false, pc', s') → K0 s'.back s'.regs s'.cells s'.log = (fun f : Bool × KS => bif f.1 then K0 f.2.back f.2.regs f.2.cells f.2.log else K1 l.length false f.2.back (f.2.marks.map smk) f.2.regs f.2.cells f.2.log) (eRun l (n + 1) pc s) := fun pc' s' he => by
        rw [eRun, he]
        simp [hp]
      obtain ⟨ho, k1, k2⟩ := hc.ok pc hp
      have ha := opAt_lt hp
      have hlg := h.lg
      have hml : s.marks.length ≤ 24 := by
        have e1 := congrArg List.length h.mp
        simp only [List.length_map] at e1
        have e2 := stk_len hc.up pc hpl
        have := dep_bd l pc
        omega
      simp only [Z1, ix_lt hp, ix_inb hp, ix_get hp, cond_true, ix_succ (show pc < 4611686018427387904 by omega)]
      unfold eStep at go stop
      rw [ha] at go stop
      unfold eStepO at go stop
      by_cases k5 : l[pc].1 = 5
      · have b : (l[pc].1 == 5) = true := by simp [k5]
        obtain ⟨o1, o2⟩ := ok_5 ho k5
        rw [b] at go
        simp only [b, cond_true, cell_inb o2 h.cl.len, reg_inb o1 h.rg.len]
        exact go _ _ rfl
      · have b5 : (l[pc].1 == 5) = false := by simp [k5]
        rw [b5] at go stop
        by_cases k6 : l[pc].1 = 6
        · have b : (l[pc].1 == 6) = true := by simp [k6]
          obtain ⟨o1, o2⟩ := ok_6 ho k6
          rw [b] at go
          have r1 : room (s.log.length + [(l[pc].2.1, s.cells.getD l[pc].2.1.toNat 0)].length) = true := room_le (by simp; omega)
          simp only [b5, b, cond_true, cond_false, cell_inb o1 h.cl.len, reg_inb o2 h.rg.len, r1]
          exact go _ _ rfl
        · have b6 : (l[pc].1 == 6) = false := by simp [k6]
          rw [b6] at go stop
          by_cases k7 : l[pc].1 = 7
          · have b : (l[pc].1 == 7) = true := by simp [k7]
            obtain ⟨o1, o2, o3⟩ := ok_7 ho k7
            rw [b] at go
            simp only [b5, b6, b, cond_true, cond_false, reg_inb o1 h.rg.len]
            have e2 : iadd .i64 ((pc + 1 : Nat) : Int) l[pc].2.2.1 = ((pc + 1 + l[pc].2.2.1.toNat : Nat) : Int) := by rw [iadd_eq (by unfold I64; omega)]; omega
            rw [e2]
            refine Eq.trans ?_ (go _ _ rfl)
            cases s.regs.getD l[pc].2.1.toNat 0 == 0 <;> rfl
          · have b7 : (l[pc].1 == 7) = false := by simp [k7]
            rw [b7] at go stop
            by_cases k8 : l[pc].1 = 8
            · have b : (l[pc].1 == 8) = true := by simp [k8]
              rw [b] at go
              have r1 : room ((s.marks.map smk).length + [((pc : Int), (s.regs, ilen s.log))].length) = true := room_le (by simp; omega)
              simp only [b5, b6, b7, b, cond_true, cond_false, l15_run (l := s.regs) (by rw [h.rg.len]; omega), ret, Option.bind_some, r1]
              refine Eq.trans ?_ (go _ _ rfl)
              simp only [List.map_append, List.map_cons, List.map_nil, smk]
              rfl
            · have b8 : (l[pc].1 == 8) = false := by simp [k8]
              rw [b8] at go stop
              by_cases k9 : l[pc].1 = 9
              · have b : (l[pc].1 == 9) = true := by simp [k9]
                rw [b] at go
                have hne : s.marks ≠ [] := fun h0 => by
                  have e1 := congrArg List.length h.mp
                  rw [h0] at e1
                  simp only [List.length_map, List.length_nil] at e1
                  have e2 := stk_len hc.up pc hpl
                  have e3 := hc.up pc hp
                  have e4 := dep_succ hp
                  rw [opd_9 k9] at e4
                  omega
                obtain ⟨m, q, x, hq, ht, hx, ⟨hm, h8⟩, hmate, hge, hst, hqm⟩ := top_of hc h hne
                have o8 := ok_8 (hc.ok m hm).1 h8
                rw [ht] at go
                rw [hq] at go ⊢
                rw [hq] at hml
                have hql : (q.map smk).length < 1000 := by rw [List.length_append] at hml; simp; omega
                simp only [b5, b6, b7, b8, b, cond_true, cond_false, List.map_append, List.map_cons, List.map_nil, last_len hql, last_inb, Int.toNat_natCast, last_get, last_take, last_cut, smk, hx, ix_inb hm, opAt_get, opAt_lt hm, reg_inb o8 h.rg.len]
                refine Eq.trans ?_ (go _ _ rfl)
                simp only [hx, Int.toNat_natCast, opAt_lt hm, List.length_append, List.length_cons, List.length_nil, Nat.zero_add, Nat.add_sub_cancel, last_take]
              · have b9 : (l[pc].1 == 9) = false := by simp [k9]
                rw [b9] at go stop
                by_cases k10 : l[pc].1 = 10
                · have b : (l[pc].1 == 10) = true := by simp [k10]
                  rw [b] at go stop
                  simp only [b5, b6, b7, b8, b9, b, cond_true, cond_false]
                  have hbk := h.bk
                  by_cases hne : s.marks = []
                  · have he : s.marks.isEmpty = true := by rw [hne]; rfl
                    rw [he] at stop
                    have c := (cut_run (N := N) (m := 0) h.cl hlg.1 (by omega) (by omega) hN).1
                    have e1 : decide (ilen (s.marks.map smk) > 0) = false := by rw [hne]; rfl
                    have e3 : (ilen (s.marks.map smk) == 0) = true := by rw [hne]; rfl
                    have e2 : isub .i64 (iadd .i64 s.back (ilen s.log)) 0 = s.back + (s.log.length : Int) := by
                      have : iadd .i64 s.back (ilen s.log) = s.back + (s.log.length : Int) := iadd_eq (by unfold I64 ilen; omega)
                      rw [this, isub_eq (by unfold I64; omega)]; omega
                    have c0 : Zeo N s.cells s.log 0 = some ((), (undo s.cells s.log, ([], ()))) := c
                    simp only [e1, cond_false, c0, Option.bind_some, e2, e3, cond_true]
                    exact stop _ _ rfl
                  · have he : s.marks.isEmpty = false := by cases hm : s.marks with | nil => exact absurd hm hne | cons a b => rfl
                    rw [he] at go
                    obtain ⟨m, q, x, hq, ht, hx, ⟨hm, h8⟩, hmate, hge, hst, hqm⟩ := top_of hc h hne
                    have hxm : x ∈ s.marks := by rw [hq]; simp
                    obtain ⟨x1, x2, x3⟩ := h.mr x hxm
                    have o8 := ok_8 (hc.ok m hm).1 h8
                    have ex : ((x.2.1.toNat : Nat) : Int) = x.2.1 := by omega
                    have c := (cut_run (N := N) (m := x.2.1.toNat) h.cl hlg.1 (by omega) (by omega) hN).1
                    rw [ex] at c
                    rw [ht] at go
                    rw [hq] at go ⊢
                    rw [hq] at hml
                    have hql : (q.map smk).length < 1000 := by rw [List.length_append] at hml; simp; omega
                    have e1 : decide (ilen (q.map smk ++ [(x.1, (x.2.2, x.2.1))]) > 0) = true := decide_eq_true (by unfold ilen; rw [List.length_append]; simp)
                    have e3 : (ilen (q.map smk ++ [(x.1, (x.2.2, x.2.1))]) == 0) = false := by
                      have : ilen (q.map smk ++ [(x.1, (x.2.2, x.2.1))]) ≠ 0 := by unfold ilen; rw [List.length_append]; simp; omega
                      simpa using this
                    have e2 : isub .i64 (iadd .i64 s.back (ilen s.log)) x.2.1 = s.back + (s.log.length : Int) - x.2.1 := by
                      have : iadd .i64 s.back (ilen s.log) = s.back + (s.log.length : Int) := iadd_eq (by unfold I64 ilen; omega)
                      rw [this, isub_eq (by unfold I64; omega)]
                    have hml2 := hmate.len
                    simp only [List.map_append, List.map_cons, List.map_nil, smk]
                    rw [hx] at e1 e3
                    simp only [hx, e1, e3, last_len hql, cond_false, last_inb, Int.toNat_natCast, last_get, last_take, last_cut, cond_true, c, Option.bind_some, e2, ix_inb hm, opAt_get, opAt_lt hm, l15_run (l := x.2.2) (by rw [x1.len]; omega), reg_inb o8 x1.len,
                      specEnd_run (N := N) (l := l) (by omega) hN ⟨hm, h8⟩ hmate, ret, ix_succ (show mt l m < 4611686018427387904 by omega)]
                    refine Eq.trans ?_ (go _ _ rfl)
                    simp only [hx, Int.toNat_natCast, opAt_lt hm, List.length_append, List.length_cons, List.length_nil, Nat.zero_add, Nat.add_sub_cancel, last_take]
                · have b10 : (l[pc].1 == 10) = false := by simp [k10]
                  rw [b10] at go stop
                  simp only [b5, b6, b7, b8, b9, b10, cond_false, specCalc_run hN ho k1 (by omega) h.rg, Option.bind_some]
                  exact go _ _ rfl
    · have e : pc = l.length := by omega
      subst e
      simp only [Z1, ix_ge (Nat.le_refl l.length), cond_false]
      rw [eRun]
      simp
end
end Go.Sx
