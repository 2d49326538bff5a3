/- Plain laws. -/
import Derived.Test.YtpfdembammnpcaaGreatEng3

namespace Go.Sx
set_option linter.unusedVariables false
set_option linter.unusedSimpArgs false
def I64(n:Int):Prop:=-9223372036854775808<=n/\n<=9223372036854775807
theorem ua{n:Int}(h:I64 n):IntKind.wrap .i64 n=n:=by
 unfold I64 at h;show(if(true&&decide (n%18446744073709551616>=9223372036854775808))=true then n%18446744073709551616-18446744073709551616 else n%18446744073709551616)=n;simp only[Bool.true_and,Wg];split<;>omega
theorem WD{a b:Int}(h:I64 (a+b)):Wj .i64 a b=a+b:=ua h
theorem WM{a b:Int}(h:I64 (a-b)):Wv .i64 a b=a-b:=ua h
theorem qK{a b:Int}(h:I64 (a*b)):ea .i64 a b=a*b:=ua h
theorem WH{n j:Nat}:inb (j:Int) n=decide (j<n):=by
 unfold inb;simp
theorem Wvj{α:Type}{a b:Bool}{x y:α}:(bif a&&b then x else y)=bif a then(bif b then x else y)else y:=by cases a<;>rfl
def cY{α V R:Type}(body:Int->α->V->(V->Option R)->Option R)(K:Int->V->Option R):List α->Nat->V->Option R
 | [],j,v=>K j v
 |x::l,j,v=>body j x v (cY body K l (j+1))
end Go.Sx
