/- Plain laws. -/
import Derived.Test.YtceijnpnofmkkaaGreatEng3

namespace Go.Sx
set_option linter.unusedVariables false
set_option linter.unusedSimpArgs false
def I64(n:Int):Prop:=-9223372036854775808<=n/\n<=9223372036854775807
theorem wrap_i64{n:Int}(h:I64 n):IntKind.wrap .i64 n=n:=by
 unfold I64 at h;show(if(true&&decide (n%18446744073709551616>=9223372036854775808))=true then n%18446744073709551616-18446744073709551616 else n%18446744073709551616)=n;simp only[Bool.true_and,Wh];split<;>omega
theorem WqD{p:Nat}(h:p<=9223372036854775807):I64 (p:Int):=by unfold I64;omega
theorem WJ{a b:Int}(h:I64 (a+b)):Wm .i64 a b=a+b:=wrap_i64 h
theorem Wam{a b:Int}(h:I64 (a-b)):WZ .i64 a b=a-b:=wrap_i64 h
theorem WeP{a b:Int}(h:I64 (a*b)):Wet .i64 a b=a*b:=wrap_i64 h
theorem Wag{n j:Nat}:inb (j:Int) n=decide (j<n):=by
 unfold inb;simp
theorem Wvu{α:Type}{a b:Bool}{x y:α}:(bif a&&b then x else y)=bif a then(bif b then x else y)else y:=by cases a<;>rfl
def Wbw{α V R:Type}(body:Int->α->V->(V->Option R)->Option R)(K:Int->V->Option R):List α->Nat->V->Option R
 | [],j,v=>K j v
 |x::l,j,v=>body j x v (Wbw body K l (j+1))
theorem WgB{a:Nat}(h:a<9223372036854775808):(BitVec.ofInt 64 (a:Int)).toNat=a:=by
 grind
theorem WtG{a b:Nat}(ha:a<9223372036854775808)(hb:b<9223372036854775808):ior .i64 (a:Int) (b:Int)=((a|||b:Nat):Int):=by
 unfold ior;show IntKind.wrap .i64 ((BitVec.ofInt 64 (a:Int)|||BitVec.ofInt 64 (b:Int)).toNat:Int)=_;rw[BitVec.toNat_or,WgB ha,WgB hb];have:a|||b<2^63:=Nat.or_lt_two_pow (by omega) (by omega)
 grind [wrap_i64,I64]
theorem Wk8{a b:Nat}(ha:a<9223372036854775808)(hb:b<9223372036854775808):WhY .i64 (a:Int) (b:Int)=((a&&&b:Nat):Int):=by
 unfold WhY;show IntKind.wrap .i64 ((BitVec.ofInt 64 (a:Int)&&&BitVec.ofInt 64 (b:Int)).toNat:Int)=_
 grind [BitVec.toNat_and,WgB,Nat.and_le_left,wrap_i64,I64]
end Go.Sx
