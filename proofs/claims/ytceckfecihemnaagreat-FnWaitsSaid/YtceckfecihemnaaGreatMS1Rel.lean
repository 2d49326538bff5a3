/- Plain laws of the Lean functions. -/
import Derived.Test.YtceckfecihemnaaGreatMS1Wait

namespace Go.Sx
set_option linter.unusedVariables false
set_option linter.unusedSimpArgs false
structure Rl (W : Int → Prop) (s t : KS) : Prop where
  regs : s.regs = t.regs
  marks : s.marks = t.marks
  reads : s.reads = t.reads
  log : s.log.map (·.1) = t.log.map (·.1)
  cl : s.cells.length = t.cells.length
  cells : ∀ (n : Nat), n ≤ s.log.length → ∀ c : Int, 0 ≤ c → (W c ∨ c ∈ (s.log.take n).map (·.1)) → (undo s.cells (s.log.drop n)).getD c.toNat 0 = (undo t.cells (t.log.drop n)).getD c.toNat 0
theorem Rl.len {W : Int → Prop} {s t : KS} (h : Rl W s t) : s.log.length = t.log.length := by
  have := congrArg List.length h.log
  simpa using this
theorem any_map {l : List Rw} {c : Int} : (l.any fun r => r.1 == c) = (l.map (·.1)).any (· == c) := by
  rw [List.any_map]; rfl
theorem Rl.any {W : Int → Prop} {s t : KS} (h : Rl W s t) (c : Int) : (s.log.any fun r => r.1 == c) = (t.log.any fun r => r.1 == c) := by
  rw [any_map, any_map, h.log]
theorem undo_len (c : List Int) (l : List Rw) : (undo c l).length = c.length := by
  unfold undo
  induction l with
  | nil => rfl
  | cons r l ih => simp [ih]
section
variable {W : Int → Prop} {l : List Opn} {pc : Nat} {s t : KS}
theorem reads_sub (hc : KC l) : ∀ (n pc : Nat) (s : KS), KI l pc s → ∀ x ∈ s.reads, x ∈ (eRun l n pc s).2.reads
  | 0, pc, s, h, x, hx => hx
  | n + 1, pc, s, h, x, hx => by
    rw [eRun]
    by_cases hp : pc < l.length
    · have e : decide (pc < l.length) = true := by simpa using hp
      have hx' : x ∈ (eStep l pc s).2.2.reads := by
        unfold eStep eStepO
        cases (opAt l pc).1 == 5
        · cases (opAt l pc).1 == 6
          · cases (opAt l pc).1 == 7
            · cases (opAt l pc).1 == 8
              · cases (opAt l pc).1 == 9
                · cases (opAt l pc).1 == 10
                  · exact hx
                  · cases s.marks.isEmpty <;> exact hx
                · exact hx
              · exact hx
            · exact hx
          · exact hx
        · simp only [cond_true]
          cases s.log.any fun r => r.1 == (opAt l pc).2.2.1
          · exact List.mem_append_left _ hx
          · exact hx
      rw [e]
      cases hb : (eStep l pc s).1
      · exact hx'
      · exact reads_sub hc n _ _ ((step_inv hc h hp).1 hb).2 x hx'
    · have e : decide (pc < l.length) = false := by simpa using hp
      rw [e]; exact hx
theorem drop_snoc_le {α : Type} {l : List α} {x : α} {n : Nat} (h : n ≤ l.length) : (l ++ [x]).drop n = l.drop n ++ [x] := by
  rw [List.drop_append_of_le_length h]
theorem rel_step (hc : KC l) (h : KI l pc s) (h' : KI l pc t) (hp : pc < l.length) (hr : Rl W s t) (hW : ∀ x ∈ (eStep l pc s).2.2.reads, W x) :
    (eStep l pc s).1 = (eStep l pc t).1 ∧ (eStep l pc s).2.1 = (eStep l pc t).2.1 ∧ ((eStep l pc s).1 = true → Rl W (eStep l pc s).2.2 (eStep l pc t).2.2) ∧ (eStep l pc s).2.2.reads = (eStep l pc t).2.2.reads ∧ (eStep l pc s).2.2.regs = (eStep l pc t).2.2.regs := by
  have ha := opAt_lt hp
  have htop : top s = top t := by unfold top; rw [hr.marks]
  have hll := hr.len
  obtain ⟨ho, k1, k2⟩ := hc.ok pc hp
  unfold eStep at hW ⊢
  rw [ha] at hW ⊢
  unfold eStepO at hW ⊢
  by_cases k5 : l[pc].1 = 5
  · have b : (l[pc].1 == 5) = true := by simp [k5]
    rw [b] at hW
    simp only [b, cond_true] at hW ⊢
    obtain ⟨o1, o2⟩ := ok_5 ho k5
    have hb := cell_bd o2
    have hval : s.cells.getD l[pc].2.2.1.toNat 0 = t.cells.getD l[pc].2.2.1.toNat 0 := by
      have := hr.cells s.log.length (Nat.le_refl _) l[pc].2.2.1 hb.1
      rw [List.drop_length, List.take_length, hll, List.drop_length] at this
      apply this
      cases hq : s.log.any fun r => r.1 == l[pc].2.2.1
      · rw [hq] at hW
        exact .inl (hW _ (by simp))
      · right
        rw [any_map, List.any_eq_true] at hq
        obtain ⟨x, hx, he⟩ := hq
        have : x = l[pc].2.2.1 := by simpa using he
        rw [← this]; exact hx
    have hrd : (bif s.log.any fun r => r.1 == l[pc].2.2.1 then s.reads else s.reads ++ [l[pc].2.2.1]) = (bif t.log.any fun r => r.1 == l[pc].2.2.1 then t.reads else t.reads ++ [l[pc].2.2.1]) := by rw [hr.any, hr.reads]
    exact ⟨trivial, trivial, fun _ => ⟨by rw [hr.regs, hval], hr.marks, hrd, hr.log, hr.cl, hr.cells⟩, hrd, by rw [hr.regs, hval]⟩
  · have b5 : (l[pc].1 == 5) = false := by simp [k5]
    rw [b5] at hW ⊢
    by_cases k6 : l[pc].1 = 6
    · have b : (l[pc].1 == 6) = true := by simp [k6]
      rw [b]
      simp only [cond_true, cond_false]
      obtain ⟨o1, o2⟩ := ok_6 ho k6
      have hb := cell_bd o1
      have hcl := h.cl.len
      refine ⟨trivial, trivial, fun _ => ⟨hr.regs, hr.marks, hr.reads, by simp [hr.log], by simpa using hr.cl, fun n hn c hc0 hc1 => ?_⟩, hr.reads, hr.regs⟩
      simp only [List.length_append, List.length_cons, List.length_nil] at hn
      by_cases hle : n ≤ s.log.length
      · rw [undo_write hle, undo_write (by omega)]
        refine hr.cells n hle c hc0 ?_
        rcases hc1 with h1 | h1
        · exact .inl h1
        · right
          simp only [] at h1
          rw [List.take_append_of_le_length hle] at h1
          exact h1
      · have hn1 : n = s.log.length + 1 := by omega
        simp only []
        rw [List.drop_eq_nil_of_le (by simp; omega), List.drop_eq_nil_of_le (by simp; omega)]
        show (s.cells.set _ _).getD _ _ = (t.cells.set _ _).getD _ _
        rw [hr.regs]
        by_cases hc2 : c = l[pc].2.1
        · subst hc2
          simp only [List.getD_eq_getElem?_getD]
          rw [List.getElem?_set_self (by omega), List.getElem?_set_self (by have := hr.cl; omega)]
        · have hne : l[pc].2.1.toNat ≠ c.toNat := by omega
          have en : ∀ (u : List Int) (v : Int), (u.set l[pc].2.1.toNat v).getD c.toNat 0 = u.getD c.toNat 0 := fun u v => by
            rw [List.getD_eq_getElem?_getD, List.getD_eq_getElem?_getD, List.getElem?_set_ne hne]
          rw [en, en]
          have := hr.cells s.log.length (Nat.le_refl _) c hc0
          rw [List.drop_length, List.take_length, hll, List.drop_length] at this
          apply this
          rcases hc1 with h1 | h1
          · exact .inl h1
          · right
            simp only [] at h1
            rw [List.take_of_length_le (by simp; omega)] at h1
            simp only [List.map_append, List.map_cons, List.map_nil, List.mem_append, List.mem_singleton] at h1
            rcases h1 with h1 | h1
            · exact h1
            · exact absurd h1 hc2
    · have b6 : (l[pc].1 == 6) = false := by simp [k6]
      rw [b6] at hW ⊢
      by_cases k7 : l[pc].1 = 7
      · have b : (l[pc].1 == 7) = true := by simp [k7]
        rw [b]
        simp only [cond_true, cond_false]
        exact ⟨trivial, by rw [hr.regs], fun _ => hr, hr.reads, hr.regs⟩
      · have b7 : (l[pc].1 == 7) = false := by simp [k7]
        rw [b7] at hW ⊢
        by_cases k8 : l[pc].1 = 8
        · have b : (l[pc].1 == 8) = true := by simp [k8]
          rw [b]
          simp only [cond_true, cond_false]
          exact ⟨trivial, trivial, fun _ => ⟨hr.regs, by rw [hr.marks, hr.regs, hll], hr.reads, hr.log, hr.cl, hr.cells⟩, hr.reads, hr.regs⟩
        · have b8 : (l[pc].1 == 8) = false := by simp [k8]
          rw [b8] at hW ⊢
          by_cases k9 : l[pc].1 = 9
          · have b : (l[pc].1 == 9) = true := by simp [k9]
            rw [b]
            simp only [cond_true, cond_false]
            have e : s.regs.set (opAt l (top s).1.toNat).2.1.toNat 1 = t.regs.set (opAt l (top t).1.toNat).2.1.toNat 1 := by rw [hr.regs, htop]
            exact ⟨trivial, trivial, fun _ => ⟨e, by rw [hr.marks], hr.reads, hr.log, hr.cl, hr.cells⟩, hr.reads, e⟩
          · have b9 : (l[pc].1 == 9) = false := by simp [k9]
            rw [b9] at hW ⊢
            by_cases k10 : l[pc].1 = 10
            · have b : (l[pc].1 == 10) = true := by simp [k10]
              rw [b]
              simp only [cond_true, cond_false]
              rw [← hr.marks]
              by_cases hne : s.marks = []
              · have he : s.marks.isEmpty = true := by rw [hne]; rfl
                rw [he]
                simp only [cond_true]
                exact ⟨trivial, trivial, fun h => by simp at h, hr.reads, hr.regs⟩
              · have he : s.marks.isEmpty = false := by cases hm : s.marks with | nil => exact absurd hm hne | cons a b => rfl
                rw [he]
                obtain ⟨m, q, x, hq, ht, hx, ⟨hm, h8⟩, hmate, hge, hst, hqm⟩ := top_of hc h hne
                obtain ⟨x1, x2, x3⟩ := h.mr x (by rw [hq]; simp)
                simp only [cond_false]
                rw [← htop, ht]
                have e : x.2.2.set (opAt l x.1.toNat).2.1.toNat 0 = x.2.2.set (opAt l x.1.toNat).2.1.toNat 0 := rfl
                refine ⟨trivial, rfl, fun _ => ⟨e, rfl, hr.reads, ?_, ?_, fun n hn c hc0 hc1 => ?_⟩, hr.reads, e⟩
                · rw [List.map_take, List.map_take, hr.log]
                · simp only [undo_len]; exact hr.cl
                · simp only [List.length_take] at hn
                  simp only []
                  rw [undo_cut (by omega) (by omega), undo_cut (by omega) (by omega)]
                  refine hr.cells n (by omega) c hc0 ?_
                  rcases hc1 with h1 | h1
                  · exact .inl h1
                  · right
                    simp only [List.take_take] at h1
                    rw [Nat.min_eq_left (by omega)] at h1
                    exact h1
            · have b10 : (l[pc].1 == 10) = false := by simp [k10]
              rw [b10]
              simp only [cond_false]
              have e : calcF l[pc] s.regs = calcF l[pc] t.regs := by rw [hr.regs]
              exact ⟨trivial, trivial, fun _ => ⟨e, hr.marks, hr.reads, hr.log, hr.cl, hr.cells⟩, hr.reads, e⟩
theorem rel_run (hc : KC l) : ∀ (n pc : Nat) (s t : KS), KI l pc s → KI l pc t → Rl W s t → (∀ x ∈ (eRun l n pc s).2.reads, W x) →
    (eRun l n pc s).1 = (eRun l n pc t).1 ∧ (eRun l n pc s).2.reads = (eRun l n pc t).2.reads
  | 0, pc, s, t, h, h', hr, hW => ⟨rfl, hr.reads⟩
  | n + 1, pc, s, t, h, h', hr, hW => by
    rw [eRun, eRun]
    rw [eRun] at hW
    by_cases hp : pc < l.length
    · have e : decide (pc < l.length) = true := by simpa using hp
      rw [e] at hW ⊢
      simp only [cond_true] at hW ⊢
      have hin : ∀ x ∈ (eStep l pc s).2.2.reads, W x := fun x hx => by
        cases hb : (eStep l pc s).1
        · rw [hb] at hW; exact hW x hx
        · rw [hb] at hW
          exact hW x (reads_sub hc n _ _ ((step_inv hc h hp).1 hb).2 x hx)
      obtain ⟨e1, e2, e3, e4, e5⟩ := rel_step hc h h' hp hr hin
      rw [← e1]
      cases hb : (eStep l pc s).1
      · exact ⟨rfl, e4⟩
      · rw [hb] at hW
        simp only [cond_true] at hW ⊢
        rw [← e2]
        exact rel_run hc n _ _ _ ((step_inv hc h hp).1 hb).2 (by rw [e2]; exact ((step_inv hc h' hp).1 (by rw [← e1]; exact hb)).2) (e3 hb) hW
    · have e : decide (pc < l.length) = false := by simpa using hp
      rw [e]
      exact ⟨rfl, hr.reads⟩
end
theorem eag_same {l : List Opn} {regs cells other : List Int} (hk : kidOk l = true) (hr : regsOk regs = true) (hc : valsOk cells = true) (ho : valsOk other = true) (h : ∀ c ∈ readsOf l regs cells, other.getD c.toNat 0 = cells.getD c.toNat 0) :
    (eagOf l regs other).1 = (eagOf l regs cells).1 ∧ readsOf l regs other = readsOf l regs cells := by
  have kc := kc_of hk
  have v1 := regs_iff.1 hr
  have v2 := vals_iff.1 hc
  have v3 := vals_iff.1 ho
  have i1 := ks0_inv (l := l) v1 v2
  have i2 := ks0_inv (l := l) v1 v3
  have hrd := (eRun_inv kc (l.length + 1) 0 _ i1).2.2.2.2.2.2
  have h' : ∀ c ∈ (eRun l (l.length + 1) 0 (ks0 regs cells)).2.reads, other.getD c.toNat 0 = cells.getD c.toNat 0 := fun c hc' => by
    refine h c ?_
    unfold readsOf
    rw [hk, hr, hc]
    simp only [Bool.and_true, cond_true]
    exact mem_cells.2 ⟨hrd c hc', by rw [List.any_eq_true]; exact ⟨c, hc', by simp⟩⟩
  have key := rel_run (W := fun c => c ∈ (eRun l (l.length + 1) 0 (ks0 regs cells)).2.reads) kc (l.length + 1) 0 (ks0 regs cells) (ks0 regs other) i1 i2
    ⟨rfl, rfl, rfl, rfl, by simp only [ks0]; rw [v2.len, v3.len], fun n hn c hc0 hc1 => by
      rcases hc1 with h1 | h1
      · have e1 : (ks0 regs cells).log.drop n = [] := by simp [ks0]
        have e2 : (ks0 regs other).log.drop n = [] := by simp [ks0]
        rw [e1, e2]
        exact (h' c h1).symm
      · simp [ks0] at h1⟩ (fun x hx => hx)
  unfold eagOf readsOf
  rw [hk, hr, hc, ho]
  simp only [Bool.and_true, cond_true]
  rw [key.1, key.2]
  exact ⟨rfl, rfl⟩
end Go.Sx
