/- Plain laws of the Lean functions. -/
import Derived.Test.YtceckfecihemnaaGreatMFrEager

namespace Go.Sx
set_option linter.unusedVariables false
set_option linter.unusedSimpArgs false
set_option synthInstance.maxSize 20000
set_option synthInstance.maxHeartbeats 4000000
theorem f_szRowS {N : Nat} {a : List (Int × Int)} {left : Int} (hN : 1048576 < N) (h0 : 0 ≤ left) (h1 : left ≤ 1048576) (hw : Wfd (.slice (.prod (.int .i64) (.int .i64))) a) :
    Zgl N a left = ret (if left < (z_RowS a : Int) then -1 else left - (z_RowS a : Int)) := by
  have hl : a.length ≤ 9223372036854775807 := Nat.le_trans hw.1 (by decide)
  unfold Zgl z_RowS
  have e : isub .i64 left (ilen a) = left - (a.length : Int) := isub_eq (by unfold I64 ilen; omega)
  rw [e]
  by_cases h : left < (a.length : Int)
  · rw [if_pos h, show decide (left - (a.length : Int) < 0) = true by simp; omega]; rfl
  · rw [if_neg h, show decide (left - (a.length : Int) < 0) = false by simp; omega]; rfl
theorem f_toRow {N : Nat} {a : Int × Int} (hN : 1048576 < N) : Zg4 N a = ret a := by
  unfold Zg4
  all_goals rfl
theorem f_toRowS {N : Nat} {a : List (Int × Int)} (h : z_RowS a ≤ 1048576) (hN : 1048576 < N) : Zbb N a = ret a := by
  have hl : a.length ≤ 1048576 := h
  unfold Zbb
  rw [make_ok a (by omega), toNat_ilen]
  simp only [cond_true]
  have h1 := loop_ix0 (l := a) (V := List (Int × Int)) (R := Unit × (List (Int × Int) × Unit)) (lp := fun n j v => Zbf N a (fun i8 t9 l10 => some ((), (l10, ()))) n j v) (n := N) (by omega)
    (body := fun j x v k => bif inb j v.length then k (v.set j.toNat x) else none) (K := fun _ v => some ((), (v, ())))
    (fun n i v hi => by simp only [Zbf, ix_lt hi, ix_inb hi, ix_get hi, ix_succ (show i < 4611686018427387904 by omega), cond_true, f_toRow hN, ret, Option.bind_some])
    (fun n v => by simp only [Zbf, ix_ge (Nat.le_refl a.length), cond_false]) (List.replicate a.length ((0 : Int), (0 : Int)))
  refine h1.trans ?_
  rw [foldK_copy (f := id) a (fun j x v k _ => rfl)]
  simp
end Go.Sx
