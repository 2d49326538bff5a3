/- Plain laws of the Lean functions. -/
import Derived.Test.YtfbomdanghhgcaaMS1Fr
/- Plain law: a row of writes taken back. -/
namespace Go.Sx
set_option linter.unusedVariables false
set_option linter.unusedSimpArgs false

abbrev Rw := Int × Int

theorem toRowS_run {N : Nat} {l : List Rw} (h : l.length ≤ 1048576) (hN : 1048576 < N) : T_laws_toRowS N l = ret l := by
  unfold T_laws_toRowS
  rw [make_ok l (by omega), toNat_ilen]
  simp only [cond_true]
  have h1 := loop_ix0 (l := l) (V := List Rw) (R := Unit × (List Rw × Unit)) (lp := fun n j v => T_laws_toRowS_lp0 N l (fun i8 t9 l10 => some ((), (l10, ()))) n j v) (n := N) (by omega)
    (body := fun j x v k => bif inb j v.length then k (v.set j.toNat x) else none) (K := fun _ v => some ((), (v, ())))
    (fun n i v hi => by simp only [T_laws_toRowS_lp0, ix_lt hi, ix_inb hi, ix_get hi, ix_succ (show i < 4611686018427387904 by omega), cond_true, T_laws_toRow, Option.bind_some])
    (fun n v => by simp only [T_laws_toRowS_lp0, ix_ge (Nat.le_refl l.length), cond_false]) (List.replicate l.length ((0 : Int), (0 : Int)))
  refine h1.trans ?_
  rw [foldK_copy (f := id) l (fun j x v k _ => rfl)]
  simp

theorem eqRow_run {N : Nat} {a b : Rw} : T_laws_eqRow N a b = ret (decide (a = b)) := by
  obtain ⟨a1, a2⟩ := a
  obtain ⟨b1, b2⟩ := b
  unfold T_laws_eqRow
  by_cases h1 : a1 = b1 <;> by_cases h2 : a2 = b2 <;> simp [bne_decide, h1, h2]

theorem eqRowS_run {N : Nat} {l m : List Rw} (h : l.length ≤ 1048576) (hN : 1048576 < N) : T_laws_eqRowS N l m = ret (decide (l = m)) := by
  unfold T_laws_eqRowS
  by_cases hl : l.length = m.length
  · have e : (ilen l != ilen m) = false := by simp [ilen, hl]
    rw [e]
    simp only [cond_false]
    have h1 := loop_ix0 (l := l) (V := Unit) (R := Unit × (Bool × Unit)) (lp := fun n j v => T_laws_eqRowS_lp0 N l m (some ((), (false, ()))) (fun i8 t9 => some ((), (true, ()))) n j) (n := N) (by omega)
      (body := fun j x v k => bif inb j m.length then (bif !decide (x = m.getD j.toNat ((0 : Int), (0 : Int))) then some ((), (false, ())) else k v) else none) (K := fun _ v => some ((), (true, ())))
      (fun n i v hi => by simp only [T_laws_eqRowS_lp0, ix_lt hi, ix_inb hi, ix_get hi, ix_succ (show i < 4611686018427387904 by omega), cond_true, eqRow_run, ret, Option.bind_some])
      (fun n v => by simp only [T_laws_eqRowS_lp0, ix_ge (Nat.le_refl l.length), cond_false]) ()
    refine h1.trans ?_
    rw [foldK_eq (E := fun _ => some ((), (false, ()))) (z := ((0 : Int), (0 : Int))) l m 0 () (by omega) (fun j x v k _ => rfl)]
    simp only [List.drop_zero]
    by_cases hlm : l = m <;> simp [hlm]
  · have e : (ilen l != ilen m) = true := by simp [ilen]; omega
    have e2 : l ≠ m := fun h => hl (by rw [h])
    rw [e]
    simp [e2]

theorem szRowS_run {N : Nat} {l : List Rw} (hl : l.length ≤ 9223372036854775807) : T_laws_szRowS N l 1048576 = ret (if 1048576 < l.length then -1 else 1048576 - (l.length : Int)) := by
  unfold T_laws_szRowS
  have e : isub .i64 1048576 (ilen l) = 1048576 - (l.length : Int) := isub_eq (by unfold I64 ilen; omega)
  rw [e]
  by_cases h : 1048576 < l.length
  · have : decide ((1048576 : Int) - (l.length : Int) < 0) = true := by simp; omega
    rw [this, if_pos h]; rfl
  · have : decide ((1048576 : Int) - (l.length : Int) < 0) = false := by simp; omega
    rw [this, if_neg h]; rfl

/-! marks -/
def mInt : Int → Int → Int := fun k _ => k
def mRow : Int → Rw → Rw := fun k _ => (k, k + 1)

theorem markIntS_run {N : Nat} {l : List Int} {k : Int} (h : l.length ≤ 1048576) (hN : 1048576 < N) (hk : 0 ≤ k) (hk2 : k ≤ 1073741824) :
    T_laws_markIntS N l k = some ((marks mInt 1 k l, ()), (k + l.length, ())) := by
  unfold T_laws_markIntS
  refine (mark_loop0 (g := mInt) (c := 1) (lp := fun n k i v => T_laws_markIntS_lp0 N _ n k i v) (K := fun k i v => some ((v, ()), (k, ()))) ?_ ?_ l (by omega) (by omega) hk (by omega)).trans (by simp)
  · intro n k j v h hj hk hk2
    simp only [T_laws_markIntS_lp0, ix_lt h, ix_inb h, ix_succ hj, cond_true, iadd_eq (show I64 (k + 1) by unfold I64; omega), mInt, Int.toNat_natCast]
    rfl
  · intro n k v
    simp only [T_laws_markIntS_lp0, ix_ge (Nat.le_refl v.length), cond_false]

theorem heldIntS_run {N : Nat} {l : List Int} {k : Int} (h : l.length ≤ 1048576) (hN : 1048576 < N) (hk : 0 ≤ k) (hk2 : k ≤ 1073741824) :
    T_laws_heldIntS N (marks mInt 1 k l) k = ret (k + l.length) := by
  unfold T_laws_heldIntS
  generalize ha : marks mInt 1 k l = a
  refine (held_loop0 (lp := fun n k i => T_laws_heldIntS_lp0 N a _ _ n k i) (K := fun k => ret k) l ha ?_ ?_ (by omega) (by omega) hk (by omega)).trans (by simp)
  · intro n k j x h hx hj hk hk2
    simp only [T_laws_heldIntS_lp0, ix_lt h, ix_inb h, ix_get h, hx, ix_succ hj, cond_true, iadd_eq (show I64 (k + 1) by unfold I64; omega), mInt, bne_self_eq_false, cond_false]
    rfl
  · intro n k
    simp only [T_laws_heldIntS_lp0, ix_ge (Nat.le_refl _), cond_false]

theorem markRowS_run {N : Nat} {l : List Rw} {k : Int} (h : l.length ≤ 1048576) (hN : 1048576 < N) (hk : 0 ≤ k) (hk2 : k ≤ 1073741824) :
    T_laws_markRowS N l k = some ((marks mRow 2 k l, ()), (k + (2 * l.length : Nat), ())) := by
  unfold T_laws_markRowS
  refine (mark_loop0 (g := mRow) (c := 2) (lp := fun n k i v => T_laws_markRowS_lp0 N _ n k i v) (K := fun k i v => some ((v, ()), (k, ()))) ?_ ?_ l (by omega) (by omega) hk (by omega))
  · intro n k j v h hj hk hk2
    simp only [T_laws_markRowS_lp0, ix_lt h, ix_inb h, ix_succ hj, cond_true, iadd_eq (show I64 (k + 1) by unfold I64; omega), iadd_eq (show I64 (k + 1 + 1) by unfold I64; omega), mRow, Int.toNat_natCast, List.length_set, share]
    rw [List.set_set, show k + 1 + 1 = k + (2 : Nat) by omega]
    simp [h]
  · intro n k v
    simp only [T_laws_markRowS_lp0, ix_ge (Nat.le_refl v.length), cond_false]

theorem heldRowS_run {N : Nat} {l : List Rw} {k : Int} (h : l.length ≤ 1048576) (hN : 1048576 < N) (hk : 0 ≤ k) (hk2 : k ≤ 1073741824) :
    T_laws_heldRowS N (marks mRow 2 k l) k = ret (k + (2 * l.length : Nat)) := by
  unfold T_laws_heldRowS
  generalize ha : marks mRow 2 k l = a
  refine (held_loop0 (lp := fun n k i => T_laws_heldRowS_lp0 N a _ _ n k i) (K := fun k => ret k) l ha ?_ ?_ (by omega) (by omega) hk (by omega))
  · intro n k j x h hx hj hk hk2
    simp only [T_laws_heldRowS_lp0, ix_lt h, ix_inb h, ix_get h, hx, ix_succ hj, cond_true, iadd_eq (show I64 (k + 1) by unfold I64; omega), iadd_eq (show I64 (k + 1 + 1) by unfold I64; omega), mRow, bne_self_eq_false, cond_false]
    rw [show k + 1 + 1 = k + (2 : Nat) by omega]
  · intro n k
    simp only [T_laws_heldRowS_lp0, ix_ge (Nat.le_refl _), cond_false]

/-! cells, rows -/
def isCell (v : Int) : Bool := decide (0 ≤ v) && decide (v ≤ 7)
def isRow (r : Rw) : Bool := isCell r.1 && isVal r.2
def rowsOk (l : List Rw) : Bool := decide (l.length ≤ 300) && l.all isRow
def valsOk (l : List Int) : Bool := decide (l.length = 8) && l.all isVal

theorem specVal_run {N : Nat} {v : Int} : T_spec_l3Val N v = ret (isVal v) := by
  unfold T_spec_l3Val; simp only [in_eq, ret, Option.bind_some]; rfl
theorem implVal_run {N : Nat} {v : Int} : T_impl_isValue N v = ret (isVal v) := by
  unfold T_impl_isValue; simp only [within_eq, ret, Option.bind_some]; rfl
theorem specCell_run {N : Nat} {v : Int} : T_spec_l3Cell N v = ret (isCell v) := by
  unfold T_spec_l3Cell; simp only [in_eq, ret, Option.bind_some]; rfl
theorem implCell_run {N : Nat} {v : Int} : T_impl_isCell N v = ret (isCell v) := by
  unfold T_impl_isCell; simp only [within_eq, ret, Option.bind_some]; rfl

theorem specVals_run {N : Nat} {l : List Int} (hl : l.length ≤ 1048576) (hN : 1048576 < N) : T_spec_l3Vals N l = ret (valsOk l) := by
  unfold T_spec_l3Vals valsOk
  by_cases h : l.length = 8
  · have e : (ilen l != 8) = false := by simp [ilen, h]
    rw [e]
    simp only [cond_false]
    have h1 := loop_ix0 (l := l) (V := Unit) (R := Unit × (Bool × Unit)) (lp := fun n j v => T_spec_l3Vals_lp0 N l (some ((), (false, ()))) (fun i8 t9 => some ((), (true, ()))) n j) (n := N) (by omega)
      (body := fun j x v k => bif !isVal x then some ((), (false, ())) else k v) (K := fun _ v => some ((), (true, ())))
      (fun n i v hi => by simp only [T_spec_l3Vals_lp0, ix_lt hi, ix_inb hi, ix_get hi, ix_succ (show i < 4611686018427387904 by omega), cond_true, specVal_run, ret, Option.bind_some])
      (fun n v => by simp only [T_spec_l3Vals_lp0, ix_ge (Nat.le_refl l.length), cond_false]) ()
    refine h1.trans ?_
    rw [foldK_any (p := fun x => !isVal x) (E := fun _ => some ((), (false, ()))) l 0 () (fun j x v k _ => rfl), any_not]
    cases l.all isVal <;> simp [h]
  · have e : (ilen l != 8) = true := by simp [ilen]; omega
    rw [e]
    simp [h]

theorem implVals_run {N : Nat} {l : List Int} (hl : l.length ≤ 1048576) (hN : 1048576 < N) : T_impl_areValues N l 8 = ret (valsOk l) := by
  unfold T_impl_areValues valsOk
  have h1 := loop_ix0 (l := l) (V := Unit) (R := Unit × (Bool × Unit)) (lp := fun n j v => T_impl_areValues_lp0 N l 8 (some ((), (false, ()))) (fun i8 t9 => some ((), ((ilen l) == (8 : Int), ()))) n j) (n := N) (by omega)
    (body := fun j x v k => bif !isVal x then some ((), (false, ())) else k v) (K := fun _ v => some ((), ((ilen l) == (8 : Int), ())))
    (fun n i v hi => by simp only [T_impl_areValues_lp0, ix_lt hi, ix_inb hi, ix_get hi, ix_succ (show i < 4611686018427387904 by omega), cond_true, implVal_run, ret, Option.bind_some])
    (fun n v => by simp only [T_impl_areValues_lp0, ix_ge (Nat.le_refl l.length), cond_false]) ()
  refine h1.trans ?_
  rw [foldK_any (p := fun x => !isVal x) (E := fun _ => some ((), (false, ()))) l 0 () (fun j x v k _ => rfl), any_not]
  have e : ((ilen l) == (8 : Int)) = decide (l.length = 8) := by
    by_cases h : l.length = 8
    · simp [ilen, h]
    · simp [ilen, h]; omega
  rw [e]
  cases l.all isVal <;> simp

theorem specRows_run {N : Nat} {l : List Rw} (hl : l.length ≤ 1048576) (hN : 1048576 < N) : T_spec_RowsOk N l = ret (rowsOk l) := by
  unfold T_spec_RowsOk rowsOk
  by_cases h : l.length ≤ 300
  · have e : decide (ilen l > 300) = false := by simp [ilen]; omega
    rw [e]
    simp only [cond_false]
    have h1 := loop_ix0 (l := l) (V := Unit) (R := Unit × (Bool × Unit)) (lp := fun n j v => T_spec_RowsOk_lp0 N l (some ((), (false, ()))) (fun i8 t9 => some ((), (true, ()))) n j) (n := N) (by omega)
      (body := fun j x v k => bif !isRow x then some ((), (false, ())) else k v) (K := fun _ v => some ((), (true, ())))
      (fun n i v hi => by
        simp only [T_spec_RowsOk_lp0, ix_lt hi, ix_inb hi, ix_get hi, ix_succ (show i < 4611686018427387904 by omega), cond_true, specVal_run, specCell_run, ret, Option.bind_some, isRow]
        cases isCell l[i].1 <;> rfl)
      (fun n v => by simp only [T_spec_RowsOk_lp0, ix_ge (Nat.le_refl l.length), cond_false]) ()
    refine h1.trans ?_
    rw [foldK_any (p := fun x => !isRow x) (E := fun _ => some ((), (false, ()))) l 0 () (fun j x v k _ => rfl), any_not]
    cases l.all isRow <;> simp [h]
  · have e : decide (ilen l > 300) = true := by simp [ilen]; omega
    rw [e]
    simp [h]

theorem implRows_run {N : Nat} {l : List Rw} (hl : l.length ≤ 1048576) (hN : 1048576 < N) : T_impl_RowsOk N l = ret (rowsOk l) := by
  unfold T_impl_RowsOk rowsOk
  have h1 := loop_ix0 (l := l) (V := Unit) (R := Unit × (Bool × Unit)) (lp := fun n j v => T_impl_RowsOk_lp0 N l (some ((), (false, ()))) (fun i8 t9 => some ((), (decide ((ilen l) ≤ (300 : Int)), ()))) n j) (n := N) (by omega)
    (body := fun j x v k => bif !isRow x then some ((), (false, ())) else k v) (K := fun _ v => some ((), (decide ((ilen l) ≤ (300 : Int)), ())))
    (fun n i v hi => by
      simp only [T_impl_RowsOk_lp0, ix_lt hi, ix_inb hi, ix_get hi, ix_succ (show i < 4611686018427387904 by omega), cond_true, implVal_run, implCell_run, ret, Option.bind_some, isRow]
      cases isCell l[i].1 <;> rfl)
    (fun n v => by simp only [T_impl_RowsOk_lp0, ix_ge (Nat.le_refl l.length), cond_false]) ()
  refine h1.trans ?_
  rw [foldK_any (p := fun x => !isRow x) (E := fun _ => some ((), (false, ()))) l 0 () (fun j x v k _ => rfl), any_not]
  have e : decide (ilen l ≤ 300) = decide (l.length ≤ 300) := by apply decide_eq_decide.2; simp [ilen]; omega
  rw [e]
  cases l.all isRow <;> simp

/-! the cut -/
theorem cutlp_eq {N : Nat} {log : List Rw} {m : Int} {R : Type} {K0 : Int → Bool → List Int → Option R} : ∀ n i l, T_spec_EagerCut_lp0 N log m K0 n i l = T_impl_EagerCut_lp0 N log m K0 n i l
  | 0, _, _ => rfl
  | n + 1, i, l => by
    unfold T_spec_EagerCut_lp0 T_impl_EagerCut_lp0
    simp only [cutlp_eq n]

theorem cutlp_run {N : Nat} {log : List Rw} (hr : log.all isRow = true) (hlog : log.length ≤ 300) {m : Int} (hm : 0 ≤ m) : ∀ (j n : Nat) (l : List Int), l.length = 8 → j ≤ log.length → j < n →
    ∃ l', l'.length = 8 ∧ ∀ {R : Type} (K0 : Int → Bool → List Int → Option R), ∃ i, T_impl_EagerCut_lp0 N log m K0 n ((j : Int) - 1) l = K0 i false l'
  | 0, 0, l, _, _, h => by simp at h
  | 0, n + 1, l, hl, _, _ => by
    refine ⟨l, hl, fun K0 => ⟨-1, ?_⟩⟩
    have e : decide (((0 : Nat) : Int) - 1 ≥ m) = false := by simp; omega
    unfold T_impl_EagerCut_lp0
    rw [e]
    rfl
  | j + 1, 0, l, _, _, h => by simp at h
  | j + 1, n + 1, l, hl, hj, hn => by
    have e0 : ((j + 1 : Nat) : Int) - 1 = (j : Int) := by omega
    rw [e0]
    have hj' : j < log.length := hj
    by_cases h : m ≤ (j : Int)
    · have hrow : isRow log[j] = true := List.all_eq_true.1 hr _ (List.getElem_mem hj')
      unfold isRow isCell isVal at hrow
      simp only [Bool.and_eq_true, decide_eq_true_eq] at hrow
      obtain ⟨l', h1, h2⟩ := cutlp_run hr hlog hm j n (l.set (Int.toNat log[j].1) log[j].2) (by simpa using hl) (by omega) (by omega)
      refine ⟨l', h1, fun K0 => ?_⟩
      obtain ⟨i, h3⟩ := h2 K0
      refine ⟨i, ?_⟩
      have e1 : decide ((j : Int) ≥ m) = true := by simpa using h
      have e2 : inb log[j].1 l.length = true := by
        obtain ⟨q, hq⟩ := Int.eq_ofNat_of_zero_le hrow.1.1
        rw [hq, inb_nat]; simp; omega
      have e3 : isub .i64 (j : Int) 1 = (j : Int) - 1 := isub_eq (by unfold I64; omega)
      unfold T_impl_EagerCut_lp0
      simp only [e1, ix_inb hj', ix_get hj', e2, e3, cond_true]
      exact h3
    · refine ⟨l, hl, fun K0 => ⟨j, ?_⟩⟩
      have e1 : decide ((j : Int) ≥ m) = false := by simp; omega
      unfold T_impl_EagerCut_lp0
      rw [e1]
      rfl

theorem room_300 {α : Type} {l : List α} (h : l.length ≤ 1048576) : room l.length = true := by unfold room; simp; omega

theorem cut_eq {N : Nat} {cells : List Int} {log : List Rw} {m : Int} (hc : cells.length ≤ 1048576) (hl : log.length ≤ 1048576) (hN : 1048576 < N) :
    ∃ r s, r.length ≤ 8 ∧ s.length ≤ 300 ∧ T_spec_EagerCut N cells log m = some ((), (r, (s, ()))) ∧ T_impl_EagerCut N cells log m = some ((), (r, (s, ()))) := by
  unfold T_spec_EagerCut T_impl_EagerCut
  simp only [specVals_run hc hN, implVals_run hc hN, specRows_run hl hN, implRows_run hl hN, ret, Option.bind_some]
  cases h1 : valsOk cells with
  | false => exact ⟨[], [], by simp, by simp, rfl, rfl⟩
  | true =>
    cases h2 : rowsOk log with
    | false => exact ⟨[], [], by simp, by simp, rfl, rfl⟩
    | true =>
      simp only [Bool.not_true, cond_false]
      by_cases h3 : m < 0
      · have : decide (m < 0) = true := by simpa using h3
        rw [this]
        exact ⟨[], [], by simp, by simp, rfl, rfl⟩
      · have : decide (m < 0) = false := by simpa using h3
        rw [this]
        simp only [cond_false]
        unfold valsOk at h1
        unfold rowsOk at h2
        simp only [Bool.and_eq_true, decide_eq_true_eq] at h1 h2
        have e1 : T_spec_l15Ints N cells = ret cells := by
          unfold T_spec_l15Ints
          simp only [List.length_nil, Nat.zero_add, room_300 hc, cond_true]
          rfl
        have e2 : T_impl_copyInts N cells = ret cells := by
          unfold T_impl_copyInts
          simp only [room_300 hc, cond_true]
        have e3 : isub .i64 (ilen log) 1 = (log.length : Int) - 1 := isub_eq (by unfold I64 ilen; omega)
        simp only [e1, e2, e3, ret, Option.bind_some, cutlp_eq]
        obtain ⟨l', h4, h5⟩ := cutlp_run (N := N) (log := log) h2.2 h2.1 (m := m) (by omega) log.length N cells h1.1 (Nat.le_refl _) (by omega)
        refine ⟨l', log.take m.toNat, by omega, by rw [List.length_take]; omega, ?_, ?_⟩
        · obtain ⟨i, h6⟩ := h5 (fun i14 t15 l16 => ((T_spec_Cut N log m).bind fun o17 => (some ((), (l16, (o17.2.1, ()))))))
          rw [h6]
          have : T_spec_Cut N log m = ret (log.take m.toNat) := by
            unfold T_spec_Cut
            simp only [specRows_run hl hN, ret, Option.bind_some]
            have : rowsOk log = true := by unfold rowsOk; simp [h2]
            rw [this]
            simp only [Bool.not_true, cond_false]
            by_cases h7 : m ≤ 0
            · have e : decide (m ≤ 0) = true := by simpa using h7
              have e2 : m.toNat = 0 := by omega
              rw [e, e2]; rfl
            · have e : decide (m ≤ 0) = false := by simpa using h7
              rw [e]
              simp only [cond_false]
              by_cases h8 : m > (log.length : Int)
              · have e : decide (m > ilen log) = true := by simpa [ilen] using h8
                rw [e]
                have e4 : log.take (Int.toNat (ilen log)) = log := by simp [ilen]
                have e5 : log.take m.toNat = log := List.take_of_length_le (by omega)
                simp only [cond_true, e4, e5, List.length_nil, Nat.zero_add, room_300 hl]
                have e6 : ((decide ((0 : Int) ≤ (ilen log))) && (decide ((ilen log) ≤ ((List.length log) : Int)))) = true := by simp [ilen]
                rw [e6]; rfl
              · have e : decide (m > ilen log) = false := by simpa [ilen] using h8
                rw [e]
                have e6 : ((decide ((0 : Int) ≤ m)) && (decide (m ≤ ((List.length log) : Int)))) = true := by simp; omega
                simp only [cond_false, e6, cond_true, List.length_nil, Nat.zero_add]
                rw [room_300 (l := log.take m.toNat) (by rw [List.length_take]; omega)]
                rfl
          rw [this]; rfl
        · obtain ⟨i, h6⟩ := h5 (fun i14 t15 l16 =>
                  (bif (decide ((0 : Int) ≤ (minI m (ilen log)))) && (decide ((minI m (ilen log)) ≤ ((List.length log) : Int))) then
                    ((T_impl_copyRows N (List.take (Int.toNat (minI m (ilen log))) log)).bind fun o17 =>
                      (some ((), (l16, (o17.2.1, ()))))) else none))
          refine h6.trans ?_
          have e4 : minI m (ilen log) = if (log.length : Int) < m then (log.length : Int) else m := by
            unfold minI ilen; split <;> (try split) <;> omega
          have e5 : log.take (Int.toNat (minI m (ilen log))) = log.take m.toNat := by
            rw [e4]
            split
            · rw [Int.toNat_natCast, List.take_length, List.take_of_length_le (by omega)]
            · rfl
          have e6 : ((decide ((0 : Int) ≤ (minI m (ilen log)))) && (decide ((minI m (ilen log)) ≤ ((List.length log) : Int)))) = true := by
            rw [e4]; split <;> simp <;> omega
          rw [e6, e5]
          unfold T_impl_copyRows
          rw [room_300 (l := log.take m.toNat) (by rw [List.length_take]; omega)]
          rfl

theorem back_eq {N : Nat} {cells : List Int} {log : List Rw} (hc : cells.length ≤ 1048576) (hl : log.length ≤ 1048576) (hN : 1048576 < N) :
    ∃ r, r.length ≤ 8 ∧ T_spec_EagerBack N cells log = ret r ∧ T_impl_EagerBack N cells log = ret r := by
  obtain ⟨r, s, h1, h2, h3, h4⟩ := cut_eq (m := 0) hc hl hN
  refine ⟨r, h1, ?_, ?_⟩
  · unfold T_spec_EagerBack; rw [h3]; rfl
  · unfold T_impl_EagerBack; rw [h4]; rfl

theorem law_EagerBack {cells : List Int} {log : List Rw} (hc : cells.length ≤ 9223372036854775807) (hl : log.length ≤ 9223372036854775807) : T_laws_FnExactEagerBack 1048577 cells log = ret true := by
  unfold T_laws_FnExactEagerBack
  by_cases h : 1048576 < cells.length
  · have e : decide (ilen cells > 1048576) = true := by simp [ilen]; omega
    rw [e]; rfl
  · have e : decide (ilen cells > 1048576) = false := by simp [ilen]; omega
    rw [e]
    simp only [cond_false, szRowS_run hl, ret, Option.bind_some]
    by_cases h' : 1048576 < log.length
    · rw [if_pos h']; rfl
    · have e : decide ((1048576 - (log.length : Int)) < 0) = false := by simp; omega
      rw [if_neg h', e]
      have hc2 : cells.length ≤ 1048576 := by omega
      have hl2 : log.length ≤ 1048576 := by omega
      have hN : 1048576 < 1048577 := by omega
      obtain ⟨r, hr, h1, h2⟩ := back_eq hc2 hl2 hN
      have e1 : decide ((1 : Int) + (cells.length : Int) + ((2 * log.length : Nat) : Int) < 0) = false := by simp; omega
      have e2 : decide ((1 : Int) + (r.length : Int) < 0) = false := by simp; omega
      simp only [cond_false, toIntS_run hc2 (show cells.length < 1048577 by omega), toRowS_run hl2 hN, h1, h2, ret, Option.bind_some, eqIntS_run (show r.length ≤ 1048576 by omega) (show r.length < 1048577 by omega),
        eqIntS_run hc2 (show cells.length < 1048577 by omega), eqRowS_run hl2 hN, decide_true, Bool.not_true, markIntS_run hc2 hN (show (0 : Int) ≤ 1 by omega) (show (1 : Int) ≤ 1073741824 by omega),
        markRowS_run hl2 hN (show (0 : Int) ≤ 1 + (cells.length : Int) by omega) (show 1 + (cells.length : Int) ≤ 1073741824 by omega), e1, e2,
        markIntS_run (show r.length ≤ 1048576 by omega) hN (show (0 : Int) ≤ 1 by omega) (show (1 : Int) ≤ 1073741824 by omega),
        heldIntS_run (show r.length ≤ 1048576 by omega) hN (show (0 : Int) ≤ 1 by omega) (show (1 : Int) ≤ 1073741824 by omega), bne_self_eq_false]

theorem law_FnExactEagerBack (d : PDen [.v (.slice (.int .i64)) false, .v (.slice (.prod (.int .i64) (.int .i64))) false]) (hw : WfArgs [.v (.slice (.int .i64)) false, .v (.slice (.prod (.int .i64) (.int .i64))) false] d) :
    ∃ N o, T_laws_FnExactEagerBack N d.1 d.2.1 = some (o, (true, ())) :=
  ⟨1048577, (), law_EagerBack (Nat.le_trans hw.1.1 (by decide)) (Nat.le_trans hw.2.1.1 (by decide))⟩

theorem law_EagerCut {cells : List Int} {log : List Rw} {m : Int} (hc : cells.length ≤ 9223372036854775807) (hl : log.length ≤ 9223372036854775807) : T_laws_FnExactEagerCut 1048577 cells log m = ret true := by
  unfold T_laws_FnExactEagerCut
  by_cases h : 1048576 < cells.length
  · have e : decide (ilen cells > 1048576) = true := by simp [ilen]; omega
    rw [e]; rfl
  · have e : decide (ilen cells > 1048576) = false := by simp [ilen]; omega
    rw [e]
    simp only [cond_false, szRowS_run hl, ret, Option.bind_some]
    by_cases h' : 1048576 < log.length
    · rw [if_pos h']; rfl
    · have e : decide ((1048576 - (log.length : Int)) < 0) = false := by simp; omega
      rw [if_neg h', e]
      have hc2 : cells.length ≤ 1048576 := by omega
      have hl2 : log.length ≤ 1048576 := by omega
      have hN : 1048576 < 1048577 := by omega
      obtain ⟨r, s, hr, hs, h1, h2⟩ := cut_eq (m := m) hc2 hl2 hN
      have e1 : decide ((1 : Int) + (cells.length : Int) + ((2 * log.length : Nat) : Int) < 0) = false := by simp; omega
      have e2 : decide ((1 : Int) + (r.length : Int) < 0) = false := by simp; omega
      have e3 : decide ((1 : Int) + (r.length : Int) + ((2 * s.length : Nat) : Int) < 0) = false := by simp; omega
      have hs2 : s.length ≤ 1048576 := by omega
      simp only [cond_false, toIntS_run hc2 (show cells.length < 1048577 by omega), toRowS_run hl2 hN, h1, h2, ret, Option.bind_some, eqIntS_run (show r.length ≤ 1048576 by omega) (show r.length < 1048577 by omega),
        eqIntS_run hc2 (show cells.length < 1048577 by omega), eqRowS_run hl2 hN, eqRowS_run hs2 hN, decide_true, Bool.not_true, markIntS_run hc2 hN (show (0 : Int) ≤ 1 by omega) (show (1 : Int) ≤ 1073741824 by omega),
        markRowS_run hl2 hN (show (0 : Int) ≤ 1 + (cells.length : Int) by omega) (show 1 + (cells.length : Int) ≤ 1073741824 by omega), e1, e2, e3,
        markIntS_run (show r.length ≤ 1048576 by omega) hN (show (0 : Int) ≤ 1 by omega) (show (1 : Int) ≤ 1073741824 by omega),
        markRowS_run hs2 hN (show (0 : Int) ≤ 1 + (r.length : Int) by omega) (show 1 + (r.length : Int) ≤ 1073741824 by omega),
        heldIntS_run (show r.length ≤ 1048576 by omega) hN (show (0 : Int) ≤ 1 by omega) (show (1 : Int) ≤ 1073741824 by omega),
        heldRowS_run hs2 hN (show (0 : Int) ≤ 1 + (r.length : Int) by omega) (show 1 + (r.length : Int) ≤ 1073741824 by omega), bne_self_eq_false]

theorem law_FnExactEagerCut (d : PDen [.v (.slice (.int .i64)) false, .v (.slice (.prod (.int .i64) (.int .i64))) false, .v (.int .i64) false]) (hw : WfArgs [.v (.slice (.int .i64)) false, .v (.slice (.prod (.int .i64) (.int .i64))) false, .v (.int .i64) false] d) :
    ∃ N o, T_laws_FnExactEagerCut N d.1 d.2.1 d.2.2.1 = some (o, (true, ())) :=
  ⟨1048577, (), law_EagerCut (Nat.le_trans hw.1.1 (by decide)) (Nat.le_trans hw.2.1.1 (by decide))⟩
end Go.Sx
