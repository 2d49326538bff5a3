/- Plain laws. -/
import Derived.Test.YtokgfiajefpfoaaGreatEng3

namespace Go.Sx
set_option linter.unusedVariables false
set_option linter.unusedSimpArgs false
def I64(n:Int):Prop:=-9223372036854775808<=n/\n<=9223372036854775807
theorem v7{n:Int}(h:I64 n):IntKind.wrap .i64 n=n:=by
 unfold I64 at h;show(if(true&&decide (n%18446744073709551616>=9223372036854775808))=true then n%18446744073709551616-18446744073709551616 else n%18446744073709551616)=n;simp only[Bool.true_and,Wg];split<;>omega
theorem Wze{p:Nat}(h:p<=9223372036854775807):I64 (p:Int):=by unfold I64;omega
theorem WE{a b:Int}(h:I64 (a+b)):Wm .i64 a b=a+b:=v7 h
theorem dZ{a b:Int}(h:I64 (a-b)):W3 .i64 a b=a-b:=v7 h
theorem om{a b:Int}(h:I64 (a*b)):cE .i64 a b=a*b:=v7 h
theorem dc{n j:Nat}:inb (j:Int) n=decide (j<n):=by
 unfold inb;simp
theorem Wwr{α:Type}{a b:Bool}{x y:α}:(bif a&&b then x else y)=bif a then(bif b then x else y)else y:=by cases a<;>rfl
def d5{α V R:Type}(body:Int->α->V->(V->Option R)->Option R)(K:Int->V->Option R):List α->Nat->V->Option R
 | [],j,v=>K j v
 |x::l,j,v=>body j x v (d5 body K l (j+1))
end Go.Sx
