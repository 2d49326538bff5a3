/- Plain laws of the Lean functions. -/
import Derived.Test.YtceckfecihemnaaGreatMS1Kst

namespace Go.Sx
set_option linter.unusedVariables false
set_option linter.unusedSimpArgs false
structure KC (l : List Opn) : Prop where
  len : l.length ≤ 24
  up : Up l
  z : dep l l.length = 0
  ok : ∀ i (h : i < l.length), opOk l[i] = true ∧ 1 ≤ l[i].1 ∧ l[i].1 ≤ 10
  sk : ∀ i (h : i < l.length), l[i].1 = 7 → i + 1 + l[i].2.2.1.toNat ≤ l.length ∧ bal ((l.take (i + 1 + l[i].2.2.1.toNat)).drop (i + 1)) = true
theorem touch_2 {o : Opn} (h : opOk o = true) (h12 : 12 ≤ o.1) : touch o = 2 := by
  have h16 := ok_16 h
  have key := specTouch_run (N := 0) (o := o)
  unfold Zbe at key
  rw [specOp_run, h] at key
  simp only [ret, Option.bind_some, Bool.not_true, cond_false] at key
  have e5 : (o.1 == 5) = false := by simp; omega
  have e6 : (o.1 == 6) = false := by simp; omega
  rw [e5, e6] at key
  simp only [cond_false] at key
  have : o.1 = 12 ∨ o.1 = 13 ∨ o.1 = 14 ∨ o.1 = 15 ∨ o.1 = 16 := by omega
  rcases this with hk | hk | hk | hk | hk <;> · rw [hk] at key; simpa using key.symm
theorem kc_of {l : List Opn} (h : kidOk l = true) : KC l := by
  unfold kidOk cdOk at h
  simp only [Bool.and_eq_true, decide_eq_true_eq, Bool.not_eq_true'] at h
  obtain ⟨⟨h1, h2, h3⟩, h4⟩ := h
  obtain ⟨b1, b2⟩ := bal_iff.1 h2
  have hb : ∀ i (hi : i < l.length), badI l i l[i] = false := fun i hi => by
    rw [Bool.eq_false_iff]
    intro hb
    have : anyI (badI l) 0 l = true := anyI_iff.2 ⟨i, hi, by rw [Nat.zero_add]; exact hb⟩
    rw [h3] at this; cases this
  have hk : ∀ i (hi : i < l.length), kidBad l[i] = false := fun i hi => by
    rw [Bool.eq_false_iff]
    intro hb
    have := List.any_eq_true.2 ⟨l[i], List.getElem_mem hi, hb⟩
    rw [h4] at this; cases this
  have hok : ∀ i (hi : i < l.length), opOk l[i] = true := fun i hi => by
    have := hb i hi
    unfold badI at this
    simp only [Bool.or_eq_false_iff, Bool.not_eq_false'] at this
    exact this.1.1
  refine ⟨h1, b1, b2, fun i hi => ?_, fun i hi h7 => ?_⟩
  · have ho := hok i hi
    have hk' := hk i hi
    unfold kidBad at hk'
    simp only [Bool.or_eq_false_iff] at hk'
    have h16 := ok_16 ho
    refine ⟨ho, h16.1, ?_⟩
    by_cases h10 : l[i].1 ≤ 10
    · exact h10
    · exfalso
      by_cases h11 : l[i].1 = 11
      · simp [h11] at hk'
      · have := touch_2 ho (by omega)
        rw [this] at hk'
        simp at hk'
  · have := hb i hi
    unfold badI at this
    simp only [Bool.or_eq_false_iff, Bool.not_eq_false'] at this
    have h8 := this.1.2
    rw [h7] at h8
    have : skipOk l i l[i] = true := by simpa using h8
    unfold skipOk at this
    simpa using this
noncomputable def mt (l : List Opn) (m : Nat) : Nat := @dite _ (∃ k, Mate l m k) (Classical.propDecidable _) (fun h => Classical.choose h) fun _ => 0
theorem mt_mate {l : List Opn} {m k : Nat} (h : Mate l m k) : Mate l m (mt l m) := by
  have hx : ∃ k, Mate l m k := ⟨k, h⟩
  unfold mt
  rw [dif_pos hx]
  exact Classical.choose_spec hx
theorem Mate.uniq {l : List Opn} {m k k' : Nat} (h : Mate l m k) (h' : Mate l m k') : k = k' := by
  rcases Nat.lt_trichotomy k k' with hl | hl | hl
  · exact absurd h.eq (h'.ne k (by have := h.lt; omega) hl)
  · exact hl
  · exact absurd h'.eq (h.ne k' (by have := h'.lt; omega) hl)
theorem mt_eq {l : List Opn} {m k : Nat} (h : Mate l m k) : mt l m = k := (mt_mate h).uniq h
abbrev Mk := Int × Int × List Int
structure KS where
  regs : List Int
  cells : List Int
  log : List Rw
  back : Int
  marks : List Mk
  reads : List Int
def zMk : Mk := (0, 0, [])
def top (s : KS) : Mk := s.marks.getD (s.marks.length - 1) zMk
def opAt (l : List Opn) (i : Nat) : Opn := l.getD i (0, 0, 0, 0)
noncomputable def eStepO (l : List Opn) (pc : Nat) (s : KS) (o : Opn) : Bool × Nat × KS :=
  bif o.1 == 5 then (true, pc + 1, { s with regs := s.regs.set o.2.1.toNat (s.cells.getD o.2.2.1.toNat 0), reads := bif s.log.any (fun r => r.1 == o.2.2.1) then s.reads else s.reads ++ [o.2.2.1] }) else
  bif o.1 == 6 then (true, pc + 1, { s with cells := s.cells.set o.2.1.toNat (s.regs.getD o.2.2.1.toNat 0), log := s.log ++ [(o.2.1, s.cells.getD o.2.1.toNat 0)] }) else
  bif o.1 == 7 then (true, bif s.regs.getD o.2.1.toNat 0 == 0 then pc + 1 + o.2.2.1.toNat else pc + 1, s) else
  bif o.1 == 8 then (true, pc + 1, { s with marks := s.marks ++ [((pc : Int), (s.log.length : Int), s.regs)] }) else
  bif o.1 == 9 then (true, pc + 1, { s with marks := s.marks.take (s.marks.length - 1), regs := s.regs.set (opAt l (top s).1.toNat).2.1.toNat 1 }) else
  bif o.1 == 10 then
    (bif s.marks.isEmpty then (false, pc, { s with cells := undo s.cells s.log, log := [], back := s.back + s.log.length })
    else (true, mt l (top s).1.toNat + 1, { s with cells := undo s.cells (s.log.drop (top s).2.1.toNat), log := s.log.take (top s).2.1.toNat, back := s.back + s.log.length - (top s).2.1, marks := s.marks.take (s.marks.length - 1), regs := (top s).2.2.set (opAt l (top s).1.toNat).2.1.toNat 0 }))
  else (true, pc + 1, { s with regs := calcF o s.regs })
noncomputable def eStep (l : List Opn) (pc : Nat) (s : KS) : Bool × Nat × KS := eStepO l pc s (opAt l pc)
structure KI (l : List Opn) (pc : Nat) (s : KS) : Prop where
  pcl : pc ≤ l.length
  rg : Vals 4 s.regs
  cl : Vals 8 s.cells
  lg : Rows s.log ∧ s.log.length ≤ pc
  mp : s.marks.map (·.1) = (stk l pc).map fun m : Nat => (m : Int)
  mr : ∀ m ∈ s.marks, Vals 4 m.2.2 ∧ 0 ≤ m.2.1 ∧ m.2.1 ≤ s.log.length
  mo : s.marks.Pairwise fun a b => a.2.1 ≤ b.2.1
  bk : 0 ≤ s.back ∧ s.back ≤ 24 * pc
  rd : s.reads.length ≤ pc ∧ ∀ x ∈ s.reads, 0 ≤ x ∧ x ≤ 7
theorem opAt_lt {l : List Opn} {i : Nat} (h : i < l.length) : opAt l i = l[i] := ix_getn h _
section
variable {l : List Opn} {pc : Nat} {s : KS}
theorem top_of (hc : KC l) (h : KI l pc s) (hne : s.marks ≠ []) : ∃ (m : Nat) (q : List Mk) (x : Mk), s.marks = q ++ [x] ∧ top s = x ∧ x.1 = (m : Int) ∧ (∃ hm : m < l.length, l[m].1 = 8) ∧ Mate l m (mt l m) ∧ pc ≤ mt l m ∧ stk l m = (stk l pc).dropLast ∧ q.map (·.1) = (stk l m).map fun m : Nat => (m : Int) := by
  rcases nil_or_snoc s.marks with h0 | ⟨q, x, hq⟩
  · exact absurd h0 hne
  · have hm := h.mp
    rw [hq, List.map_append, List.map_cons, List.map_nil] at hm
    rcases nil_or_snoc (stk l pc) with h0 | ⟨t, m, ht⟩
    · rw [h0] at hm; simp at hm
    · rw [ht, List.map_append, List.map_cons, List.map_nil] at hm
      obtain ⟨e1, e2⟩ := List.append_inj' hm rfl
      injection e2 with e2
      obtain ⟨k, k1, k2, k3⟩ := mate_at hc.up hc.z h.pcl ht
      have k4 := mt_eq k2
      obtain ⟨_, h8, _, _⟩ := stk_open pc h.pcl t [] m ht
      refine ⟨m, q, x, hq, ?_, e2, h8, by rw [k4]; exact k2, by omega, by rw [ht, List.dropLast_concat]; exact k3, by rw [k3]; exact e1⟩
      unfold top
      rw [hq]
      simp
theorem step_inv (hc : KC l) (h : KI l pc s) (hp : pc < l.length) :
    ((eStep l pc s).1 = true → pc < (eStep l pc s).2.1 ∧ KI l (eStep l pc s).2.1 (eStep l pc s).2.2) ∧
    ((eStep l pc s).1 = false → (eStep l pc s).2.2.log = [] ∧ Vals 8 (eStep l pc s).2.2.cells ∧ Vals 4 (eStep l pc s).2.2.regs ∧ (eStep l pc s).2.2.reads.length ≤ 24 ∧ ∀ x ∈ (eStep l pc s).2.2.reads, 0 ≤ x ∧ x ≤ 7) := by
  obtain ⟨ho, k1, k2⟩ := hc.ok pc hp
  have ha := opAt_lt hp
  have hlen := hc.len
  unfold eStep
  rw [ha]
  unfold eStepO
  by_cases k5 : l[pc].1 = 5
  · have b : (l[pc].1 == 5) = true := by simp [k5]
    obtain ⟨o1, o2⟩ := ok_5 ho k5
    have hcell : 0 ≤ l[pc].2.2.1 ∧ l[pc].2.2.1 ≤ 7 := by unfold isCell at o2; simpa using o2
    simp only [b, cond_true]
    refine ⟨fun _ => ⟨by omega, ⟨hp, h.rg.set _ (h.cl.get _), h.cl, ⟨h.lg.1, by have := h.lg.2; simp only []; omega⟩, by simp only []; rw [stk_o hp (by omega) (by omega)]; exact h.mp, h.mr, h.mo, ⟨h.bk.1, by have := h.bk.2; simp only []; omega⟩, ?_⟩⟩, fun h => by simp at h⟩
    have hr := h.rd
    simp only []
    cases s.log.any fun r => r.1 == l[pc].2.2.1
    · simp only [cond_false, List.length_append, List.length_cons, List.length_nil]
      refine ⟨by omega, fun x hx => ?_⟩
      rcases List.mem_append.1 hx with hx | hx
      · exact hr.2 x hx
      · have : x = l[pc].2.2.1 := by simpa using hx
        rw [this]; exact hcell
    · exact ⟨by simp only [cond_true]; omega, hr.2⟩
  · have b5 : (l[pc].1 == 5) = false := by simp [k5]
    rw [b5]
    by_cases k6 : l[pc].1 = 6
    · have b : (l[pc].1 == 6) = true := by simp [k6]
      obtain ⟨o1, o2⟩ := ok_6 ho k6
      have hcell : 0 ≤ l[pc].2.1 ∧ l[pc].2.1 ≤ 7 := by unfold isCell at o1; simpa using o1
      simp only [b, cond_true, cond_false]
      refine ⟨fun _ => ⟨by omega, ⟨hp, h.rg, h.cl.set _ (h.rg.get _), ⟨fun r hr => ?_, ?_⟩, by simp only []; rw [stk_o hp (by omega) (by omega)]; exact h.mp, fun m hm => ?_, h.mo, ⟨h.bk.1, by have := h.bk.2; simp only []; omega⟩, ⟨by have := h.rd.1; simp only []; omega, h.rd.2⟩⟩⟩, fun h => by simp at h⟩
      · rcases List.mem_append.1 hr with hr | hr
        · exact h.lg.1 r hr
        · have : r = (l[pc].2.1, s.cells.getD l[pc].2.1.toNat 0) := by simpa using hr
          rw [this]; exact ⟨hcell, h.cl.get _⟩
      · have := h.lg.2
        simp only [List.length_append, List.length_cons, List.length_nil]; omega
      · have := h.mr m hm
        refine ⟨this.1, this.2.1, ?_⟩
        simp only [List.length_append, List.length_cons, List.length_nil]; omega
    · have b6 : (l[pc].1 == 6) = false := by simp [k6]
      rw [b6]
      by_cases k7 : l[pc].1 = 7
      · have b : (l[pc].1 == 7) = true := by simp [k7]
        obtain ⟨o1, o2, o3⟩ := ok_7 ho k7
        obtain ⟨s1, s2⟩ := hc.sk pc hp k7
        simp only [b, cond_true, cond_false]
        refine ⟨fun _ => ?_, fun h => by simp at h⟩
        have e1 : stk l (pc + 1) = stk l pc := stk_o hp (by omega) (by omega)
        cases s.regs.getD l[pc].2.1.toNat 0 == 0
        · simp only [cond_false]
          exact ⟨by omega, ⟨hp, h.rg, h.cl, ⟨h.lg.1, by have := h.lg.2; omega⟩, by rw [e1]; exact h.mp, h.mr, h.mo, ⟨h.bk.1, by have := h.bk.2; omega⟩, ⟨by have := h.rd.1; omega, h.rd.2⟩⟩⟩
        · simp only [cond_true]
          exact ⟨by omega, ⟨s1, h.rg, h.cl, ⟨h.lg.1, by have := h.lg.2; omega⟩, by rw [stk_part (by omega) s1 s2, e1]; exact h.mp, h.mr, h.mo, ⟨h.bk.1, by have := h.bk.2; omega⟩, ⟨by have := h.rd.1; omega, h.rd.2⟩⟩⟩
      · have b7 : (l[pc].1 == 7) = false := by simp [k7]
        rw [b7]
        by_cases k8 : l[pc].1 = 8
        · have b : (l[pc].1 == 8) = true := by simp [k8]
          simp only [b, cond_true, cond_false]
          refine ⟨fun _ => ⟨by omega, ⟨hp, h.rg, h.cl, ⟨h.lg.1, by have := h.lg.2; simp only []; omega⟩, ?_, fun m hm => ?_, ?_, ⟨h.bk.1, by have := h.bk.2; simp only []; omega⟩, ⟨by have := h.rd.1; simp only []; omega, h.rd.2⟩⟩⟩, fun h => by simp at h⟩
          · simp only [List.map_append, List.map_cons, List.map_nil, h.mp, stk_8 hp k8]
          · rcases List.mem_append.1 hm with hm | hm
            · exact h.mr m hm
            · have : m = ((pc : Int), (s.log.length : Int), s.regs) := by simpa using hm
              rw [this]; exact ⟨h.rg, by simp only []; omega, by simp only []; omega⟩
          · refine List.pairwise_append.2 ⟨h.mo, List.pairwise_singleton .., fun a ha b hb => ?_⟩
            have : b = ((pc : Int), (s.log.length : Int), s.regs) := by simpa using hb
            rw [this]; exact (h.mr a ha).2.2
        · have b8 : (l[pc].1 == 8) = false := by simp [k8]
          rw [b8]
          by_cases k9 : l[pc].1 = 9
          · have b : (l[pc].1 == 9) = true := by simp [k9]
            simp only [b, cond_true, cond_false]
            have hsub : ∀ m, m ∈ s.marks.take (s.marks.length - 1) → m ∈ s.marks := fun m hm => List.mem_of_mem_take hm
            refine ⟨fun _ => ⟨by omega, ⟨hp, h.rg.set _ (by omega), h.cl, ⟨h.lg.1, by have := h.lg.2; simp only []; omega⟩, ?_, fun m hm => h.mr m (hsub m hm), h.mo.sublist (List.take_sublist _ _), ⟨h.bk.1, by have := h.bk.2; simp only []; omega⟩, ⟨by have := h.rd.1; simp only []; omega, h.rd.2⟩⟩⟩, fun h => by simp at h⟩
            simp only []
            rw [stk_9 hp k9, List.map_take, h.mp, ← List.map_take]
            congr 1
            have : s.marks.length = (stk l pc).length := by have := congrArg List.length h.mp; simpa using this
            rw [this, List.dropLast_eq_take]
          · have b9 : (l[pc].1 == 9) = false := by simp [k9]
            rw [b9]
            by_cases k10 : l[pc].1 = 10
            · have b : (l[pc].1 == 10) = true := by simp [k10]
              simp only [b, cond_true, cond_false]
              by_cases hne : s.marks = []
              · have : s.marks.isEmpty = true := by rw [hne]; rfl
                rw [this]
                refine ⟨fun h => by simp at h, fun _ => ⟨rfl, undo_ok h.cl h.lg.1, h.rg, by have := h.rd.1; simp only [cond_true]; omega, h.rd.2⟩⟩
              · have : s.marks.isEmpty = false := by cases hm : s.marks with | nil => exact absurd hm hne | cons a b => rfl
                rw [this]
                obtain ⟨m, q, x, hq, ht, hx, ⟨hm, h8⟩, hmate, hge, hst, hqm⟩ := top_of hc h hne
                have hxm : x ∈ s.marks := by rw [hq]; simp
                obtain ⟨x1, x2, x3⟩ := h.mr x hxm
                have hlast : ∀ y ∈ q, y.2.1 ≤ x.2.1 := by
                  have := h.mo
                  rw [hq] at this
                  exact fun y hy => (List.pairwise_append.1 this).2.2 y hy x (by simp)
                have htk : s.marks.take (s.marks.length - 1) = q := by rw [hq]; simp
                simp only [cond_false, ht, hx, htk, Int.toNat_natCast]
                have hlog : ((s.log.take x.2.1.toNat).length : Int) = x.2.1 := by rw [List.length_take]; omega
                have hbk := h.bk
                have hlg := h.lg.2
                refine ⟨fun _ => ⟨by omega, ⟨hmate.len, x1.set _ (by omega), undo_ok h.cl fun r hr => h.lg.1 r (List.mem_of_mem_drop hr), ⟨fun r hr => h.lg.1 r (List.mem_of_mem_take hr), ?_⟩, ?_, fun y hy => ?_, ?_, ⟨by simp only []; omega, by simp only []; omega⟩, ⟨by have := h.rd.1; simp only []; omega, h.rd.2⟩⟩⟩, fun h => by simp at h⟩
                · simp only []; rw [List.length_take]; omega
                · simp only []; rw [hqm, hmate.st]
                · obtain ⟨y1, y2, y3⟩ := h.mr y (by rw [hq]; simp [hy])
                  exact ⟨y1, y2, by rw [hlog]; exact hlast y hy⟩
                · have := h.mo
                  rw [hq] at this
                  exact (List.pairwise_append.1 this).1
            · have b10 : (l[pc].1 == 10) = false := by simp [k10]
              rw [b10]
              simp only [cond_false]
              exact ⟨fun _ => ⟨by omega, ⟨hp, calcF_ok ho k1 (by omega) h.rg, h.cl, ⟨h.lg.1, by have := h.lg.2; simp only []; omega⟩, by simp only []; rw [stk_o hp (by omega) (by omega)]; exact h.mp, h.mr, h.mo, ⟨h.bk.1, by have := h.bk.2; simp only []; omega⟩, ⟨by have := h.rd.1; simp only []; omega, h.rd.2⟩⟩⟩, fun h => by simp at h⟩
end
noncomputable def eRun (l : List Opn) : Nat → Nat → KS → Bool × KS
  | 0, _, s => (false, s)
  | n + 1, pc, s => bif decide (pc < l.length) then (bif (eStep l pc s).1 then eRun l n (eStep l pc s).2.1 (eStep l pc s).2.2 else (true, (eStep l pc s).2.2)) else (false, s)
end Go.Sx
