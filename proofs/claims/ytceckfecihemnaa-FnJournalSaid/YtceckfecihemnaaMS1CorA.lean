/- Plain laws of the Lean functions. -/
import Derived.Test.YtceckfecihemnaaT

namespace Go.Sx
set_option linter.unusedVariables false
set_option linter.unusedSimpArgs false
def isVal (v : Int) : Bool := decide (0 ≤ v) && decide (v ≤ 65535)
theorem in_eq {N : Nat} {x a b : Int} : Zd N x a b = ret (decide (a ≤ x) && decide (x ≤ b)) := by
  unfold Zd
  by_cases h : a ≤ x <;> simp [h]
theorem within_eq {N : Nat} {x a b : Int} : Zy N x a b = ret (decide (a ≤ x) && decide (x ≤ b)) := by
  unfold Zy
  by_cases h : a ≤ x <;> simp [h]
theorem any_not {α : Type} {p : α → Bool} (l : List α) : (l.any fun x => !p x) = !l.all p := by
  induction l with
  | nil => rfl
  | cons x l ih => simp [ih, Bool.not_and]
abbrev Rw := Int × Int
def isCell (v : Int) : Bool := decide (0 ≤ v) && decide (v ≤ 7)
def isRow (r : Rw) : Bool := isCell r.1 && isVal r.2
def rowsOk (l : List Rw) : Bool := decide (l.length ≤ 300) && l.all isRow
def valsOk (l : List Int) : Bool := decide (l.length = 8) && l.all isVal
theorem specVal_run {N : Nat} {v : Int} : Zcu N v = ret (isVal v) := by
  unfold Zcu; simp only [in_eq, ret, Option.bind_some]; rfl
theorem implVal_run {N : Nat} {v : Int} : Zbv N v = ret (isVal v) := by
  unfold Zbv; simp only [within_eq, ret, Option.bind_some]; rfl
theorem specCell_run {N : Nat} {v : Int} : Zaa N v = ret (isCell v) := by
  unfold Zaa; simp only [in_eq, ret, Option.bind_some]; rfl
theorem implCell_run {N : Nat} {v : Int} : Zab N v = ret (isCell v) := by
  unfold Zab; simp only [within_eq, ret, Option.bind_some]; rfl
theorem specVals_run {N : Nat} {l : List Int} (hl : l.length ≤ 1048576) (hN : 1048576 < N) : Zbe N l = ret (valsOk l) := by
  unfold Zbe valsOk
  by_cases h : l.length = 8
  · have e : (ilen l != 8) = false := by simp [ilen, h]
    rw [e]
    simp only [cond_false]
    have h1 := loop_ix0 (l := l) (V := Unit) (R := Unit × (Bool × Unit)) (lp := fun n j v => Za5 N l (some ((), (false, ()))) (fun i8 t9 => some ((), (true, ()))) n j) (n := N) (by omega)
      (body := fun j x v k => bif !isVal x then some ((), (false, ())) else k v) (K := fun _ v => some ((), (true, ())))
      (fun n i v hi => by simp only [Za5, ix_lt hi, ix_inb hi, ix_get hi, ix_succ (show i < 4611686018427387904 by omega), cond_true, specVal_run, ret, Option.bind_some])
      (fun n v => by simp only [Za5, ix_ge (Nat.le_refl l.length), cond_false]) ()
    refine h1.trans ?_
    rw [foldK_any (p := fun x => !isVal x) (E := fun _ => some ((), (false, ()))) l 0 () (fun j x v k _ => rfl), any_not]
    cases l.all isVal <;> simp [h]
  · have e : (ilen l != 8) = true := by simp [ilen]; omega
    rw [e]
    simp [h]
theorem implVals_run {N : Nat} {l : List Int} (hl : l.length ≤ 1048576) (hN : 1048576 < N) : Zaf N l 8 = ret (valsOk l) := by
  unfold Zaf valsOk
  have h1 := loop_ix0 (l := l) (V := Unit) (R := Unit × (Bool × Unit)) (lp := fun n j v => Zae N l 8 (some ((), (false, ()))) (fun i8 t9 => some ((), ((ilen l) == (8 : Int), ()))) n j) (n := N) (by omega)
    (body := fun j x v k => bif !isVal x then some ((), (false, ())) else k v) (K := fun _ v => some ((), ((ilen l) == (8 : Int), ())))
    (fun n i v hi => by simp only [Zae, ix_lt hi, ix_inb hi, ix_get hi, ix_succ (show i < 4611686018427387904 by omega), cond_true, implVal_run, ret, Option.bind_some])
    (fun n v => by simp only [Zae, ix_ge (Nat.le_refl l.length), cond_false]) ()
  refine h1.trans ?_
  rw [foldK_any (p := fun x => !isVal x) (E := fun _ => some ((), (false, ()))) l 0 () (fun j x v k _ => rfl), any_not]
  have e : ((ilen l) == (8 : Int)) = decide (l.length = 8) := by
    by_cases h : l.length = 8
    · simp [ilen, h]
    · simp [ilen, h]; omega
  rw [e]
  cases l.all isVal <;> simp
theorem specRows_run {N : Nat} {l : List Rw} (hl : l.length ≤ 1048576) (hN : 1048576 < N) : Zam N l = ret (rowsOk l) := by
  unfold Zam rowsOk
  by_cases h : l.length ≤ 300
  · have e : decide (ilen l > 300) = false := by simp [ilen]; omega
    rw [e]
    simp only [cond_false]
    have h1 := loop_ix0 (l := l) (V := Unit) (R := Unit × (Bool × Unit)) (lp := fun n j v => Za6 N l (some ((), (false, ()))) (fun i8 t9 => some ((), (true, ()))) n j) (n := N) (by omega)
      (body := fun j x v k => bif !isRow x then some ((), (false, ())) else k v) (K := fun _ v => some ((), (true, ())))
      (fun n i v hi => by
        simp only [Za6, ix_lt hi, ix_inb hi, ix_get hi, ix_succ (show i < 4611686018427387904 by omega), cond_true, specVal_run, specCell_run, ret, Option.bind_some, isRow]
        cases isCell l[i].1 <;> rfl)
      (fun n v => by simp only [Za6, ix_ge (Nat.le_refl l.length), cond_false]) ()
    refine h1.trans ?_
    rw [foldK_any (p := fun x => !isRow x) (E := fun _ => some ((), (false, ()))) l 0 () (fun j x v k _ => rfl), any_not]
    cases l.all isRow <;> simp [h]
  · have e : decide (ilen l > 300) = true := by simp [ilen]; omega
    rw [e]
    simp [h]
theorem implRows_run {N : Nat} {l : List Rw} (hl : l.length ≤ 1048576) (hN : 1048576 < N) : Zay N l = ret (rowsOk l) := by
  unfold Zay rowsOk
  have h1 := loop_ix0 (l := l) (V := Unit) (R := Unit × (Bool × Unit)) (lp := fun n j v => Za7 N l (some ((), (false, ()))) (fun i8 t9 => some ((), (decide ((ilen l) ≤ (300 : Int)), ()))) n j) (n := N) (by omega)
    (body := fun j x v k => bif !isRow x then some ((), (false, ())) else k v) (K := fun _ v => some ((), (decide ((ilen l) ≤ (300 : Int)), ())))
    (fun n i v hi => by
      simp only [Za7, ix_lt hi, ix_inb hi, ix_get hi, ix_succ (show i < 4611686018427387904 by omega), cond_true, implVal_run, implCell_run, ret, Option.bind_some, isRow]
      cases isCell l[i].1 <;> rfl)
    (fun n v => by simp only [Za7, ix_ge (Nat.le_refl l.length), cond_false]) ()
  refine h1.trans ?_
  rw [foldK_any (p := fun x => !isRow x) (E := fun _ => some ((), (false, ()))) l 0 () (fun j x v k _ => rfl), any_not]
  have e : decide (ilen l ≤ 300) = decide (l.length ≤ 300) := by apply decide_eq_decide.2; simp [ilen]; omega
  rw [e]
  cases l.all isRow <;> simp
theorem cutlp_eq {N : Nat} {log : List Rw} {m : Int} {R : Type} {K0 : Int → Bool → List Int → Option R} : ∀ n i l, Zd3 N log m K0 n i l = Zd4 N log m K0 n i l
  | 0, _, _ => rfl
  | n + 1, i, l => by
    unfold Zd3 Zd4
    simp only [cutlp_eq n]
theorem room_300 {α : Type} {l : List α} (h : l.length ≤ 1048576) : room l.length = true := by unfold room; simp; omega
end Go.Sx
