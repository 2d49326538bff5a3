/- Plain laws. -/
import Derived.Test.YtiagkodiffhaoaaGreatEng3

namespace Go.Sx
set_option linter.unusedVariables false
set_option linter.unusedSimpArgs false
def I64(n:Int):Prop:=-9223372036854775808<=n/\n<=9223372036854775807
theorem Λ{p:Prop}(h:p:=by unfold I64;omega):p:=h
theorem Dq{n}(h:I64 n):IntKind.wrap .i64 n=n:=by
 unfold I64 at h;show(if(true&&decide (n%18446744073709551616>=9223372036854775808))=true then n%18446744073709551616-18446744073709551616 else n%18446744073709551616)=n;simp only[Bool.true_and,Wg];split<;>omega
theorem WBQ{p:Nat}(h:p<=9223372036854775807):I64 (p:Int):=Λ
theorem WB{a b}(h:I64 (a+b)):Ws .i64 a b=a+b:=Dq h
theorem eh{a b}(h:I64 (a-b)):ah .i64 a b=a-b:=Dq h
theorem Aj{a b}(h:I64 (a*b)):fg .i64 a b=a*b:=Dq h
theorem d8{n j:Nat}:inb (j:Int) n=decide (j<n):=by
 unfold inb;simp
theorem WyQ{a:Type}{c b}{x y:a}:(bif c&&b then x else y)=bif c then(bif b then x else y)else y:=by cases c<;>rfl
def eP{b V R:Type}(a:Int->b->V->(V->Option R)->Option R)(K:Int->V->Option R):List b->Nat->V->Option R
 | [],j,v=>K j v
 |x::l,j,v=>a j x v (eP a K l (j+1))
end Go.Sx
