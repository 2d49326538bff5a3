/- Plain laws of the Lean functions. -/
import Derived.Test.YtceckfecihemnaaMFrEager
/- Plain law: ReadsOf is what the reference says. -/
namespace Go.Sx
set_option linter.unusedVariables false
set_option linter.unusedSimpArgs false

theorem cells_len (p : Int → Bool) : (cellsIn p).length ≤ 8 := by
  unfold cellsIn
  exact Nat.le_trans (List.length_filter_le ..) (by simp)
theorem reads_len (l : List Opn) (regs cells : List Int) : (readsOf l regs cells).length ≤ 8 := by
  unfold readsOf
  cases kidOk l && (regsOk regs && valsOk cells)
  · simp
  · exact cells_len _

abbrev TOpsR : Ty := .slice (.prod (.int .i64) (.prod (.int .i64) (.prod (.int .i64) (.int .i64))))
abbrev TIntsR : Ty := .slice (.int .i64)

theorem law_ReadsOf {N : Nat} {l : List Opn} {regs cells : List Int} (hN : 1048576 < N) (hw : Wfd TOpsR l) : T_laws_FnExactReadsOf N l regs cells = ret true := by
  unfold T_laws_FnExactReadsOf
  by_cases q1 : 1048576 < regs.length
  · have e : decide (ilen regs > 1048576) = true := by simp [ilen]; omega
    rw [e]; rfl
  · have e : decide (ilen regs > 1048576) = false := by simp [ilen]; omega
    rw [e]
    by_cases q2 : 1048576 < cells.length
    · have e : decide (ilen cells > 1048576) = true := by simp [ilen]; omega
      rw [e]; rfl
    · have e : decide (ilen cells > 1048576) = false := by simp [ilen]; omega
      rw [e, f_szOpS hN (by omega) (by omega) hw]
      simp only [ret, Option.bind_some, cond_false]
      by_cases h : (1048576 : Int) < (z_OpS l : Int)
      · rw [if_pos h]; rfl
      · have e1 : decide ((1048576 - (z_OpS l : Int)) < 0) = false := by simp; omega
        rw [if_neg h, e1]
        have hl : z_OpS l ≤ 1048576 := by omega
        have hl' : l.length ≤ 1048576 := hl
        have hr : z_IntS regs ≤ 1048576 := by unfold z_IntS; omega
        have hc : z_IntS cells ≤ 1048576 := by unfold z_IntS; omega
        have hr' : regs.length ≤ 1048576 := hr
        have hc' : cells.length ≤ 1048576 := hc
        have b1 := reads_len l regs cells
        have hz : z_IntS (readsOf l regs cells) ≤ 1048576 := by unfold z_IntS; omega
        have m1 := f_markOpS (k := 1) hl' hN (by omega) (by omega)
        have m2 := f_markIntS (k := 1 + ((4 * l.length : Nat) : Int)) hr' hN (by omega) (by omega)
        have m3 := f_markIntS (k := 1 + ((4 * l.length : Nat) : Int) + ((1 * regs.length : Nat) : Int)) hc' hN (by omega) (by omega)
        have hk : decide (1 + ((4 * l.length : Nat) : Int) + ((1 * regs.length : Nat) : Int) + ((1 * cells.length : Nat) : Int) < 0) = false := decide_eq_false (by omega)
        have m4 := f_markIntS (k := 1) (show (readsOf l regs cells).length ≤ 1048576 by omega) hN (by omega) (by omega)
        have m5 := f_heldIntS (a := readsOf l regs cells) (k := 1) (by omega) hN (by omega) (by omega)
        have hk2 : decide (1 + ((1 * (readsOf l regs cells).length : Nat) : Int) < 0) = false := decide_eq_false (by omega)
        have hq2 : ∀ q : Int, (q != q) = false := fun q => by simp
        simp only [cond_false, f_toOpS hl hN, f_toIntS hr hN, f_toIntS hc hN, specReads_run hN hl' hr' hc', implReads_run hN hl' hr' hc', f_eqOpS hl hN, f_eqIntS hr hN, f_eqIntS hc hN, f_eqIntS hz hN, m1, m2, m3, m4, m5, hk, hk2, ret, Option.bind_some, hq2, same_self, Bool.not_true]

theorem law_FnExactReadsOf (d : PDen [.v TOpsR false, .v TIntsR false, .v TIntsR false]) (hw : WfArgs [.v TOpsR false, .v TIntsR false, .v TIntsR false] d) : ∃ N o, T_laws_FnExactReadsOf N d.1 d.2.1 d.2.2.1 = some (o, (true, ())) := ⟨1048577, (), law_ReadsOf (by omega) hw.1⟩
end Go.Sx
