/- Plain laws of the Lean functions. -/
import Derived.Test.YtceckfecihemnaaGreatMFrWait

namespace Go.Sx
set_option linter.unusedVariables false
set_option linter.unusedSimpArgs false
abbrev TKidsW : Ty := .slice (.slice (.prod (.int .i64) (.prod (.int .i64) (.prod (.int .i64) (.int .i64)))))
abbrev TIntsW : Ty := .slice (.int .i64)
abbrev TRowsW : Ty := .slice (.prod (.int .i64) (.int .i64))
theorem law_WaitOn {N : Nat} {l : List (List Opn)} {regs cells : List Int} {rows : List Rw} (hN : 1048576 < N) (hw : Wfd TKidsW l) (hw2 : Wfd TRowsW rows) : Zco N l regs cells rows = ret true := by
  unfold Zco
  by_cases q1 : 1048576 < regs.length
  · have e : decide (ilen regs > 1048576) = true := by simp [ilen]; omega
    rw [e]; rfl
  · have e : decide (ilen regs > 1048576) = false := by simp [ilen]; omega
    rw [e]
    by_cases q2 : 1048576 < cells.length
    · have e : decide (ilen cells > 1048576) = true := by simp [ilen]; omega
      rw [e]; rfl
    · have e : decide (ilen cells > 1048576) = false := by simp [ilen]; omega
      rw [e, f_szKidS hN (by omega) (by omega) hw]
      simp only [ret, Option.bind_some, cond_false]
      by_cases h : (1048576 : Int) < (z_KidS l : Int)
      · rw [if_pos h]; rfl
      · have e1 : decide ((1048576 - (z_KidS l : Int)) < 0) = false := by simp; omega
        rw [if_neg h, e1]
        simp only [cond_false]
        rw [f_szRowS hN (by omega) (by omega) hw2]
        simp only [ret, Option.bind_some]
        by_cases h2 : (1048576 : Int) - (z_KidS l : Int) < (z_RowS rows : Int)
        · rw [if_pos h2]; rfl
        · have e2 : decide (((1048576 : Int) - (z_KidS l : Int) - (z_RowS rows : Int)) < 0) = false := by simp; omega
          rw [if_neg h2, e2]
          have hl : z_KidS l ≤ 1048576 := by omega
          have hr : z_IntS regs ≤ 1048576 := by unfold z_IntS; omega
          have hc : z_IntS cells ≤ 1048576 := by unfold z_IntS; omega
          have ho : z_RowS rows ≤ 1048576 := by omega
          have hr' : regs.length ≤ 1048576 := hr
          have hc' : cells.length ≤ 1048576 := hc
          have ho' : rows.length ≤ 1048576 := ho
          have hq2 : ∀ q : Int, (q != q) = false := fun q => by simp
          simp only [cond_false, f_toKidS hl hN, f_toIntS hr hN, f_toIntS hc hN, f_toRowS ho hN, specWait_run hN hl hr' hc' ho', implWait_run hN hl hr' hc' ho', f_eqKidS hl hN, f_eqIntS hr hN, f_eqIntS hc hN, f_eqRowS ho hN, ret, Option.bind_some, hq2, same_self, Bool.not_true]
theorem law_FnExactWaitOn (d : PDen [.v TKidsW false, .v TIntsW false, .v TIntsW false, .v TRowsW false]) (hw : WfArgs [.v TKidsW false, .v TIntsW false, .v TIntsW false, .v TRowsW false] d) : ∃ N o, Zco N d.1 d.2.1 d.2.2.1 d.2.2.2.1 = some (o, (true, ())) := ⟨1048577, (), law_WaitOn (by omega) hw.1 hw.2.2.2.1⟩
end Go.Sx
