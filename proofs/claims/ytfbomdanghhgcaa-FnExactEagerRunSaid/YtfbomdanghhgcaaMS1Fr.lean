/- Plain laws of the Lean functions. -/
import Derived.Test.YtfbomdanghhgcaaMS1Seq
/- Plain law: lists of integers that are copied and held against each other. -/
namespace Go.Sx
set_option linter.unusedVariables false
set_option linter.unusedSimpArgs false

theorem toIntS_run {N : Nat} {l : List Int} (h : l.length ≤ 1048576) (hN : l.length < N) : T_laws_toIntS N l = ret l := by
  unfold T_laws_toIntS
  rw [make_ok l (by omega), toNat_ilen]
  simp only [cond_true]
  have h1 := loop_fold0 (l := l) (d := (0 : Int)) (V := List Int) (R := Unit × (List Int × Unit)) (lp := fun n j v => T_laws_toIntS_lp0 N l (fun i8 t9 l10 => some ((), (l10, ()))) n j v)
    (body := fun j x v k => bif inb j v.length then k (v.set j.toNat x) else none) (K := fun _ _ v => some ((), (v, ()))) (by omega) (fun n j v => rfl) (n := N) hN (List.replicate l.length (0 : Int))
  refine h1.trans ?_
  rw [foldK_copy (f := id) l (fun j x v k _ => rfl)]
  simp

theorem eqIntS_run {N : Nat} {l m : List Int} (h : l.length ≤ 1048576) (hN : l.length < N) : T_laws_eqIntS N l m = ret (decide (l = m)) := by
  unfold T_laws_eqIntS
  by_cases hl : l.length = m.length
  · have e : (ilen l != ilen m) = false := by simp [ilen, hl]
    rw [e]
    simp only [cond_false]
    have h1 := loop_fold0 (l := l) (d := (0 : Int)) (V := Unit) (R := Unit × (Bool × Unit)) (lp := fun n j v => T_laws_eqIntS_lp0 N l m (some ((), (false, ()))) (fun i8 t9 => some ((), (true, ()))) n j)
      (body := fun j x v k => bif inb j m.length then (bif x != m.getD j.toNat 0 then some ((), (false, ())) else k v) else none) (K := fun _ _ v => some ((), (true, ()))) (by omega) (fun n j v => rfl) (n := N) hN ()
    refine h1.trans ?_
    rw [foldK_eq (E := fun _ => some ((), (false, ()))) (z := 0) l m 0 () (by omega) (fun j x v k _ => by rw [bne_decide])]
    simp only [List.drop_zero]
    by_cases hlm : l = m <;> simp [hlm]
  · have e : (ilen l != ilen m) = true := by simp [ilen]; omega
    have e2 : l ≠ m := fun h => hl (by rw [h])
    rw [e]
    simp [e2]

end Go.Sx
