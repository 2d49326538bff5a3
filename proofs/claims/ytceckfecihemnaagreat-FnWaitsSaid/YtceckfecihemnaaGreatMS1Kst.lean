/- Plain laws of the Lean functions. -/
import Derived.Test.YtceckfecihemnaaGreatMS1AltA

namespace Go.Sx
set_option linter.unusedVariables false
set_option linter.unusedSimpArgs false
section
variable {o : Opn}
theorem ok_calc (h : opOk o = true) (h1 : 1 ≤ o.1) (h4 : o.1 ≤ 4) : isReg o.2.1 = true ∧ (o.1 = 1 → isVal o.2.2.1 = true) ∧ (o.1 ≠ 1 → isReg o.2.2.1 = true ∧ isReg o.2.2.2 = true) := by
  obtain ⟨k, a, b, c⟩ := o
  simp only at h1 h4
  have : k = 1 ∨ k = 2 ∨ k = 3 ∨ k = 4 := by omega
  rcases this with rfl | rfl | rfl | rfl
  · have : (isReg a && isVal b && (c == (0 : Int))) = true := h
    simp only [Bool.and_eq_true] at this
    exact ⟨this.1.1, fun _ => this.1.2, fun h => absurd rfl h⟩
  all_goals
    have : (isReg a && isReg b && isReg c) = true := h
    simp only [Bool.and_eq_true] at this
    exact ⟨this.1.1, fun h => by simp at h, fun _ => ⟨this.1.2, this.2⟩⟩
theorem ok_5 (h : opOk o = true) (h5 : o.1 = 5) : isReg o.2.1 = true ∧ isCell o.2.2.1 = true := by
  obtain ⟨k, a, b, c⟩ := o
  simp only at h5; subst h5
  have : (isReg a && isCell b && (c == (0 : Int))) = true := h
  simp only [Bool.and_eq_true] at this
  exact this.1
theorem ok_6 (h : opOk o = true) (h5 : o.1 = 6) : isCell o.2.1 = true ∧ isReg o.2.2.1 = true := by
  obtain ⟨k, a, b, c⟩ := o
  simp only at h5; subst h5
  have : (isCell a && isReg b && (c == (0 : Int))) = true := h
  simp only [Bool.and_eq_true] at this
  exact this.1
theorem ok_7 (h : opOk o = true) (h5 : o.1 = 7) : isReg o.2.1 = true ∧ 1 ≤ o.2.2.1 ∧ o.2.2.1 ≤ 20 := by
  obtain ⟨k, a, b, c⟩ := o
  simp only at h5; subst h5
  have : (isReg a && (decide (1 ≤ b) && decide (b ≤ 20)) && (c == (0 : Int))) = true := h
  simp only [Bool.and_eq_true, decide_eq_true_eq] at this
  exact ⟨this.1.1, this.1.2.1, this.1.2.2⟩
theorem ok_8 (h : opOk o = true) (h5 : o.1 = 8) : isReg o.2.1 = true := by
  obtain ⟨k, a, b, c⟩ := o
  simp only at h5; subst h5
  have : (isReg a && (b == (0 : Int)) && (c == (0 : Int))) = true := h
  simp only [Bool.and_eq_true] at this
  exact this.1.1
theorem ok_16 (h : opOk o = true) : 1 ≤ o.1 ∧ o.1 ≤ 16 := by
  by_cases hk : 1 ≤ o.1 ∧ o.1 ≤ 16
  · exact hk
  · exfalso
    have e : ∀ n : Int, 1 ≤ n → n ≤ 16 → (o.1 == n) = false := fun n h1 h2 => by simp; omega
    unfold opOk at h
    rw [e 1 (by omega) (by omega), e 2 (by omega) (by omega), e 3 (by omega) (by omega), e 4 (by omega) (by omega), e 5 (by omega) (by omega), e 6 (by omega) (by omega), e 7 (by omega) (by omega), e 8 (by omega) (by omega),
      e 9 (by omega) (by omega), e 10 (by omega) (by omega), e 11 (by omega) (by omega), e 12 (by omega) (by omega), e 13 (by omega) (by omega), e 14 (by omega) (by omega), e 15 (by omega) (by omega), e 16 (by omega) (by omega)] at h
    cases h
end
theorem reg_inb {x : Int} {l : List Int} (h : isReg x = true) (hl : l.length = 4) : inb x l.length = true := by
  unfold isReg at h; simp at h
  unfold inb; simp; omega
theorem cell_inb {x : Int} {l : List Int} (h : isCell x = true) (hl : l.length = 8) : inb x l.length = true := by
  unfold isCell at h; simp at h
  unfold inb; simp; omega
structure Vals (n : Nat) (l : List Int) : Prop where
  len : l.length = n
  val : ∀ x ∈ l, 0 ≤ x ∧ x ≤ 65535
theorem Vals.get {n : Nat} {l : List Int} (h : Vals n l) (i : Nat) : 0 ≤ l.getD i 0 ∧ l.getD i 0 ≤ 65535 := by
  by_cases hi : i < l.length
  · rw [ix_getn hi]; exact h.val _ (List.getElem_mem hi)
  · rw [List.getD_eq_getElem?_getD, List.getElem?_eq_none (by omega)]; simp
theorem Vals.set {n : Nat} {l : List Int} (h : Vals n l) (i : Nat) {x : Int} (hx : 0 ≤ x ∧ x ≤ 65535) : Vals n (l.set i x) :=
  ⟨by rw [List.length_set]; exact h.len, fun y hy => by
    rcases List.mem_or_eq_of_mem_set hy with hy | hy
    · exact h.val y hy
    · rw [hy]; exact hx⟩
theorem isVal_iff {x : Int} : isVal x = true ↔ 0 ≤ x ∧ x ≤ 65535 := by unfold isVal; simp
theorem regs_iff {l : List Int} : regsOk l = true ↔ Vals 4 l := by
  unfold regsOk
  rw [Bool.and_eq_true, decide_eq_true_eq, List.all_eq_true]
  exact ⟨fun h => ⟨h.1, fun x hx => isVal_iff.1 (h.2 x hx)⟩, fun h => ⟨h.len, fun x hx => isVal_iff.2 (h.val x hx)⟩⟩
theorem vals_iff {l : List Int} : valsOk l = true ↔ Vals 8 l := by
  unfold valsOk
  rw [Bool.and_eq_true, decide_eq_true_eq, List.all_eq_true]
  exact ⟨fun h => ⟨h.1, fun x hx => isVal_iff.1 (h.2 x hx)⟩, fun h => ⟨h.len, fun x hx => isVal_iff.2 (h.val x hx)⟩⟩
def calcF (o : Opn) (r : List Int) : List Int :=
  bif o.1 == 1 then r.set o.2.1.toNat o.2.2.1 else
  bif o.1 == 2 then r.set o.2.1.toNat ((r.getD o.2.2.1.toNat 0 + r.getD o.2.2.2.toNat 0) % 65536) else
  bif o.1 == 3 then r.set o.2.1.toNat ((r.getD o.2.2.1.toNat 0 - r.getD o.2.2.2.toNat 0 + 65536) % 65536) else
  bif decide (r.getD o.2.2.1.toNat 0 < r.getD o.2.2.2.toNat 0) then r.set o.2.1.toNat 1 else r.set o.2.1.toNat 0
theorem irem_emod {x : Int} (h : 0 ≤ x) : irem x 65536 = x % 65536 := by unfold irem; exact Int.tmod_eq_emod_of_nonneg h
theorem calcF_ok {o : Opn} {r : List Int} (h : opOk o = true) (h1 : 1 ≤ o.1) (h4 : o.1 ≤ 4) (hr : Vals 4 r) : Vals 4 (calcF o r) := by
  obtain ⟨_, hv, _⟩ := ok_calc h h1 h4
  unfold calcF
  cases e1 : o.1 == 1
  · cases o.1 == 2
    · cases o.1 == 3
      · cases decide (r.getD o.2.2.1.toNat 0 < r.getD o.2.2.2.toNat 0)
        · exact hr.set _ (by omega)
        · exact hr.set _ (by omega)
      · exact hr.set _ (by omega)
    · exact hr.set _ (by omega)
  · exact hr.set _ (isVal_iff.1 (hv (by simpa using e1)))
section
variable {N : Nat} {o : Opn} {r : List Int}
theorem implCalc_run (hN : 1048576 < N) (h : opOk o = true) (h1 : 1 ≤ o.1) (h4 : o.1 ≤ 4) (hr : Vals 4 r) : Zed N o r = some ((), (calcF o r, (true, ()))) := by
  obtain ⟨ha, hv, hbc⟩ := ok_calc h h1 h4
  unfold Zed Zl
  have e0 : room r.length = true := room_le (by rw [hr.len]; omega)
  have e4 : decide (o.1 > 4) = false := by simp; omega
  have e5 : regsOk r = true := regs_iff.2 hr
  have ea := reg_inb ha hr.len
  have ez : inz 65536 = true := rfl
  have gb := hr.get o.2.2.1.toNat
  have gc := hr.get o.2.2.2.toNat
  simp only [e0, cond_true, Option.bind_some, implOp_run, ret, h, Bool.not_true, cond_false, e4, implRegs_run (l := r) (by rw [hr.len]; omega) hN, e5, ea, ez]
  unfold calcF
  by_cases k1 : o.1 = 1
  · have b : (o.1 == 1) = true := by simp [k1]
    rw [b]; rfl
  · have b : (o.1 == 1) = false := by simp [k1]
    obtain ⟨hb, hc⟩ := hbc k1
    rw [b]
    simp only [cond_false, reg_inb hb hr.len, reg_inb hc hr.len, cond_true, List.length_set, ea]
    have s1 : iadd .i64 (r.getD o.2.2.1.toNat 0) (r.getD o.2.2.2.toNat 0) = r.getD o.2.2.1.toNat 0 + r.getD o.2.2.2.toNat 0 := iadd_eq (by unfold I64; omega)
    have s2 : isub .i64 (r.getD o.2.2.1.toNat 0) (r.getD o.2.2.2.toNat 0) = r.getD o.2.2.1.toNat 0 - r.getD o.2.2.2.toNat 0 := isub_eq (by unfold I64; omega)
    have s3 : iadd .i64 (r.getD o.2.2.1.toNat 0 - r.getD o.2.2.2.toNat 0) 65536 = r.getD o.2.2.1.toNat 0 - r.getD o.2.2.2.toNat 0 + 65536 := iadd_eq (by unfold I64; omega)
    rw [s1, s2, s3, irem_emod (by omega), irem_emod (by omega)]
    cases o.1 == 2
    · cases o.1 == 3
      · simp only [cond_false, share, List.set_set]
        cases decide (r.getD o.2.2.1.toNat 0 < r.getD o.2.2.2.toNat 0) <;> rfl
      · rfl
    · rfl
theorem specCalc_run (hN : 1048576 < N) (h : opOk o = true) (h1 : 1 ≤ o.1) (h4 : o.1 ≤ 4) (hr : Vals 4 r) : Zfs N o r = some ((), (calcF o r, (true, ()))) := by
  obtain ⟨ha, hv, hbc⟩ := ok_calc h h1 h4
  unfold Zfs
  have e0 : room (([] : List Int).length + r.length) = true := room_le (by rw [hr.len]; simp)
  have e4 : decide (o.1 > 4) = false := by simp; omega
  have e5 : regsOk r = true := regs_iff.2 hr
  have ea := reg_inb ha hr.len
  have ez : inz 65536 = true := rfl
  have en : List.append ([] : List Int) r = r := rfl
  have gb := hr.get o.2.2.1.toNat
  have gc := hr.get o.2.2.2.toNat
  simp only [e0, cond_true, Option.bind_some, specOp_run, ret, h, Bool.not_true, cond_false, e4, specRegs_run (l := r) (by rw [hr.len]; omega) hN, e5, ea, ez, en]
  unfold calcF
  by_cases k1 : o.1 = 1
  · have b : (o.1 == 1) = true := by simp [k1]
    rw [b]; rfl
  · have b : (o.1 == 1) = false := by simp [k1]
    obtain ⟨hb, hc⟩ := hbc k1
    rw [b]
    simp only [cond_false, reg_inb hb hr.len, reg_inb hc hr.len, cond_true, List.length_set, ea]
    have s1 : iadd .i64 (r.getD o.2.2.1.toNat 0) (r.getD o.2.2.2.toNat 0) = r.getD o.2.2.1.toNat 0 + r.getD o.2.2.2.toNat 0 := iadd_eq (by unfold I64; omega)
    have s2 : isub .i64 (r.getD o.2.2.1.toNat 0) (r.getD o.2.2.2.toNat 0) = r.getD o.2.2.1.toNat 0 - r.getD o.2.2.2.toNat 0 := isub_eq (by unfold I64; omega)
    have s3 : iadd .i64 (r.getD o.2.2.1.toNat 0 - r.getD o.2.2.2.toNat 0) 65536 = r.getD o.2.2.1.toNat 0 - r.getD o.2.2.2.toNat 0 + 65536 := iadd_eq (by unfold I64; omega)
    rw [s1, s2, s3, irem_emod (by omega), irem_emod (by omega)]
    cases o.1 == 2
    · cases o.1 == 3
      · simp only [cond_false, share, List.set_set]
        cases decide (r.getD o.2.2.1.toNat 0 < r.getD o.2.2.2.toNat 0) <;> rfl
      · rfl
    · rfl
end
def undo (c : List Int) (rows : List Rw) : List Int := rows.foldr (fun r c => c.set r.1.toNat r.2) c
def Rows (l : List Rw) : Prop := ∀ r ∈ l, (0 ≤ r.1 ∧ r.1 ≤ 7) ∧ 0 ≤ r.2 ∧ r.2 ≤ 65535
theorem rows_iff {l : List Rw} : l.all isRow = true ↔ Rows l := by
  rw [List.all_eq_true]
  unfold Rows isRow isCell isVal
  simp
theorem undo_ok {c : List Int} (hc : Vals 8 c) : ∀ {l : List Rw}, Rows l → Vals 8 (undo c l)
  | [], _ => hc
  | r :: l, h => by
    have ih := undo_ok hc (l := l) fun x hx => h x (List.mem_cons_of_mem _ hx)
    exact ih.set _ (h r (List.mem_cons_self ..)).2
theorem undo_snoc (c : List Int) (l : List Rw) (r : Rw) : undo c (l ++ [r]) = undo (c.set r.1.toNat r.2) l := by
  unfold undo; rw [List.foldr_append]; rfl
theorem cutlp_fun {N : Nat} {log : List Rw} (hr : Rows log) (hlog : log.length ≤ 300) {m : Nat} (hm : m ≤ log.length) : ∀ (j n : Nat) (c : List Int), Vals 8 c → m ≤ j → j ≤ log.length → j < n →
    ∀ {R : Type} (K0 : Int → Bool → List Int → Option R), Zaq N log m K0 n ((j : Int) - 1) c = K0 ((m : Int) - 1) false (undo c ((log.take j).drop m))
  | j, 0, _, _, _, _, h => by omega
  | j, n + 1, c, hc, h1, h2, h3 => fun K0 => by
    by_cases hj : j = m
    · subst hj
      have e : decide ((j : Int) - 1 ≥ (j : Int)) = false := by simp; omega
      have e2 : (log.take j).drop j = [] := by simp
      unfold Zaq
      rw [e, e2]
      rfl
    · obtain ⟨i, rfl⟩ : ∃ i, j = i + 1 := ⟨j - 1, by omega⟩
      have hi : i < log.length := by omega
      have hrow := hr _ (List.getElem_mem hi)
      have e0 : ((i + 1 : Nat) : Int) - 1 = (i : Int) := by omega
      have e1 : decide ((i : Int) ≥ (m : Int)) = true := by simp; omega
      have e2 : inb log[i].1 c.length = true := by rw [hc.len]; unfold inb; simp; omega
      have e3 : isub .i64 (i : Int) 1 = (i : Int) - 1 := isub_eq (by unfold I64; omega)
      rw [e0]
      unfold Zaq
      simp only [e1, ix_inb hi, ix_get hi, e2, e3, cond_true]
      rw [cutlp_fun hr hlog hm i n _ (hc.set _ hrow.2) (by omega) (by omega) (by omega) K0]
      congr 1
      rw [← undo_snoc]
      congr 1
      rw [List.take_succ_eq_append_getElem hi, List.drop_append_of_le_length (by rw [List.length_take]; omega)]
theorem l15_run {N : Nat} {l : List Int} (h : l.length ≤ 1048576) : Zw N l = ret l := by
  unfold Zw
  simp only [List.length_nil, Nat.zero_add, room_300 h, cond_true]
  rfl
theorem copyInts_run {N : Nat} {l : List Int} (h : l.length ≤ 1048576) : Zl N l = ret l := by
  unfold Zl
  simp only [room_300 h, cond_true]
theorem cut_run {N : Nat} {c : List Int} {log : List Rw} {m : Nat} (hc : Vals 8 c) (hr : Rows log) (hlog : log.length ≤ 300) (hm : m ≤ log.length) (hN : 1048576 < N) :
    Zeo N c log m = some ((), (undo c (log.drop m), (log.take m, ()))) ∧ Zbk N c log m = some ((), (undo c (log.drop m), (log.take m, ()))) := by
  have v1 : valsOk c = true := vals_iff.2 hc
  have v2 : rowsOk log = true := by unfold rowsOk; rw [rows_iff.2 hr]; simp [hlog]
  have hl8 : c.length ≤ 1048576 := by rw [hc.len]; omega
  have e3 : isub .i64 (ilen log) 1 = (log.length : Int) - 1 := isub_eq (by unfold I64 ilen; omega)
  have e0 : decide ((m : Int) < 0) = false := by simp
  have key := fun {R : Type} (K0 : Int → Bool → List Int → Option R) => cutlp_fun (N := N) hr hlog hm log.length N c hc hm (Nat.le_refl _) (by omega) K0
  simp only [List.take_length] at key
  unfold Zeo Zbk
  simp only [specVals_run hl8 hN, implVals_run hl8 hN, specRows_run (l := log) (by omega) hN, implRows_run (l := log) (by omega) hN, ret, Option.bind_some, v1, v2, Bool.not_true, cond_false, e0, l15_run hl8, copyInts_run hl8, e3, cutlp_eq, key]
  constructor
  · have : Zll N log m = ret (log.take m) := by
      unfold Zll
      simp only [specRows_run (l := log) (by omega) hN, ret, Option.bind_some, v2, Bool.not_true, cond_false]
      by_cases h7 : m = 0
      · subst h7; rfl
      · have e : decide ((m : Int) ≤ 0) = false := by simp; omega
        have e8 : decide ((m : Int) > ilen log) = false := by simp [ilen]; omega
        have e6 : ((decide ((0 : Int) ≤ (m : Int))) && (decide ((m : Int) ≤ ((List.length log) : Int)))) = true := by simp; omega
        rw [e, e8]
        simp only [cond_false, e6, cond_true, List.length_nil, Nat.zero_add, Int.toNat_natCast]
        rw [room_300 (l := log.take m) (by rw [List.length_take]; omega)]
        rfl
    rw [this]; rfl
  · have e4 : minI m (ilen log) = (m : Int) := by unfold minI ilen; split <;> omega
    have e6 : ((decide ((0 : Int) ≤ (m : Int))) && (decide ((m : Int) ≤ ((List.length log) : Int)))) = true := by simp; omega
    rw [e4, e6]
    unfold Zh9
    simp only [cond_true, Int.toNat_natCast]
    rw [room_300 (l := log.take m) (by rw [List.length_take]; omega)]
    rfl
end Go.Sx
