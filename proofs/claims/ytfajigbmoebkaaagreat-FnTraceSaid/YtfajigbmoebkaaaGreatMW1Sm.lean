/- Plain laws of the Lean functions. -/
import Derived.Test.YtfajigbmoebkaaaGreatMW1Dr2

namespace Go.Sx
set_option linter.unusedVariables false
set_option linter.unusedSimpArgs false
end Go.Sx
