/- Plain laws. -/
import Derived.Test.YthfplagpoopmcaaGreatM2

namespace Go.Sx
set_option linter.unusedVariables false
set_option linter.unusedSimpArgs false
def marks{α:Type}(g:Int->α->α)(c:Nat):Int->List α->List α
 |_,[]=>[]
 |k,x::l=>g k x::marks g c (k+c) l
noncomputable def same{α:Type}(a b:α):Bool:=@decide (a=b) (Classical.propDecidable _)
theorem Wj4{α:Type}(a:α):same a a=true:=by unfold same;simp
theorem Wsh{α:Type}{a b:α}(h:a≠b):same a b=false:=by unfold same;simp[h]
theorem WqP{x y:List UInt8}:seq x y=same x y:=by
 grind [seq,Wj4,Wsh]
theorem WjB{α:Type}{l:List α}{j:Nat}(h:j<l.length)(x d:α):(l.set j x).getD j d=x:=by simp[h]
end Go.Sx
