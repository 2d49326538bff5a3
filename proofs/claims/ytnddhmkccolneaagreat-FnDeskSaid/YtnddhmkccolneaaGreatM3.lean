/- Plain laws. -/
import Derived.Test.YtnddhmkccolneaaGreatM2

namespace Go.Sx
set_option linter.unusedVariables false
set_option linter.unusedSimpArgs false
def θ{α:Type}(g:Int->α->α)(c:Nat):Int->List α->List α
 |_,[]=>[]
 |k,x::l=>g k x::θ g c (k+c) l
noncomputable def same{α:Type}(a b:α):Bool:=@decide (a=b) (Classical.propDecidable _)
theorem Sa{α:Type}{l:List α}{j}(h:j<l.length)(x d):(l.set j x).getD j d=x:=by simp[h]
end Go.Sx
