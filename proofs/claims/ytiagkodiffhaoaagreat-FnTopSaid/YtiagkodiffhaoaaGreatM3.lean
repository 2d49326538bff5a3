/- Plain laws. -/
import Derived.Test.YtiagkodiffhaoaaGreatM2

namespace Go.Sx
set_option linter.unusedVariables false
set_option linter.unusedSimpArgs false
def μ{a:Type}(g:Int->a->a)(c:Nat):Int->List a->List a
 |_,[]=>[]
 |k,x::l=>g k x::μ g c (k+c) l
noncomputable def same{a:Type}(c b:a):Bool:=@decide (c=b) (Classical.propDecidable _)
theorem WnI{a:Type}{l:List a}{j}(h:j<l.length)(x d):(l.set j x).getD j d=x:=by simp[h]
end Go.Sx
