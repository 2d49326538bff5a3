/- Plain laws of the Lean functions. -/
import Derived.Test.YtceckfecihemnaaGreatMS1Or

namespace Go.Sx
set_option linter.unusedVariables false
set_option linter.unusedSimpArgs false
set_option synthInstance.maxSize 20000
set_option synthInstance.maxHeartbeats 4000000
def z_Choice (a : Int × List Int × List Int × List Int) : Nat := z_IntS a.2.1 + z_IntS a.2.2.1 + z_IntS a.2.2.2
theorem f_eqChoice {N : Nat} {a b : Int × List Int × List Int × List Int} (h : z_Choice a ≤ 1048576) (hN : 1048576 < N) : Zdb N a b = ret (same a b) := by
  unfold z_Choice at h
  unfold Zdb
  simp only [bne_same, beq_same, seq_same, f_eqIntS (a := a.2.1) (show z_IntS a.2.1 ≤ 1048576 by omega) hN, f_eqIntS (a := a.2.2.1) (show z_IntS a.2.2.1 ≤ 1048576 by omega) hN, f_eqIntS (a := a.2.2.2) (show z_IntS a.2.2.2 ≤ 1048576 by omega) hN, ret, Option.bind_some]
  exact eq_pair (eq_pair (eq_pair (eq_last)))
end Go.Sx
