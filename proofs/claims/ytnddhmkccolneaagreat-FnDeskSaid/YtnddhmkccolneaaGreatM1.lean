/- Plain laws. -/
import Derived.Test.YtnddhmkccolneaaGreatEng3

namespace Go.Sx
set_option linter.unusedVariables false
set_option linter.unusedSimpArgs false
def I64(n:Int):Prop:=-9223372036854775808<=n/\n<=9223372036854775807
theorem pt{n}(h:I64 n):IntKind.wrap .i64 n=n:=by
 unfold I64 at h;show(if(true&&decide (n%18446744073709551616>=9223372036854775808))=true then n%18446744073709551616-18446744073709551616 else n%18446744073709551616)=n;simp only[Bool.true_and,Wh];split<;>omega
theorem Wyl{p:Nat}(h:p<=9223372036854775807):I64 (p:Int):=by unfold I64;omega
theorem WA{a b}(h:I64 (a+b)):Wj .i64 a b=a+b:=pt h
theorem WJ{a b}(h:I64 (a-b)):Wz .i64 a b=a-b:=pt h
theorem kk{a b}(h:I64 (a*b)):bw .i64 a b=a*b:=pt h
theorem WH{n j:Nat}:inb (j:Int) n=decide (j<n):=by
 unfold inb;simp
theorem WvP{α:Type}{a b}{x y:α}:(bif a&&b then x else y)=bif a then(bif b then x else y)else y:=by cases a<;>rfl
def cX{α V R:Type}(body:Int->α->V->(V->Option R)->Option R)(K:Int->V->Option R):List α->Nat->V->Option R
 | [],j,v=>K j v
 |x::l,j,v=>body j x v (cX body K l (j+1))
end Go.Sx
