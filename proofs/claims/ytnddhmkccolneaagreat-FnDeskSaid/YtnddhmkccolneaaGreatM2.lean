/- Plain laws. -/
import Derived.Test.YtnddhmkccolneaaGreatM1
open Int renaming toNat→Xb
open List renaming mem_cons_self→Xl,mem_cons_of_mem→Xg
namespace Go.Sx
set_option linter.unusedVariables false
set_option linter.unusedSimpArgs false
section
variable{α:Type}{l:List α}{j:Nat}
theorem WF(h:j<l.length):decide ((j:Int)<Wi l)=true:=by simp[Wi];exact h
theorem WN(h:l.length<=j):decide ((j:Int)<Wi l)=false:=by simp[Wi];exact h
theorem Wq(h:j<l.length):inb (j:Int) l.length=true:=by rw[WH];simp_all
theorem Wu(h)(d):List.getD l (Xb (j:Int)) d=l[j]:=by simp[h]
theorem Wl(h:j<4611686018427387904):Wj .i64 (j:Int) 1=((j+1:Nat):Int):=by grind [WA,I64]
theorem X2{V R}{lp:Nat->Int->V->Option R}{body}{K}
  (c:∀n (j) v (h:j<l.length),lp (n+1) (j:Int) v=body j l[j] v (λb=>lp n ((j+1:Nat):Int) b))
  (d:∀n v,lp (n+1) (l.length:Int) v=K l.length v):∀(n j) (v),j<=l.length->l.length-j<n->lp n (j:Int) v=cX body K (l.drop j) j v
 |0,j,v,_,h2=>by omega
 |n+1,j,v,e,h2=>by
  by_cases a:j<l.length
  .rw[c n j v a,List.drop_eq_getElem_cons a,cX];congr 1;funext b;exact X2 c d n (j+1) b a (by omega)
  grind [List.drop_length,cX]
theorem WC{V R}{lp:Nat->Int->V->Option R}{body}{K}{n}(d:l.length<n)
  (b:∀n (j) v (h:j<l.length),lp (n+1) (j:Int) v=body j l[j] v (λc=>lp n ((j+1:Nat):Int) c))
  (a:∀n v,lp (n+1) (l.length:Int) v=K l.length v) (v):lp n 0 v=cX body K l 0 v:=by
 have:=X2 b a n 0 v (Nat.zero_le _) (by omega)
 rwa [List.drop_zero]at this
end
abbrev ret{α:Type}(v:α):Option (Unit×(α×Unit)):=some ((),(v,()))
theorem rL{α:Type}{b}{x y:α}:(bif b then x else y)=if b=true then x else y:=by cases b<;>rfl
section
variable{α V R:Type}{body:Int->α->V->(V->Option R)->Option R}{K:Int->V->Option R}
theorem fG{p}{E:V->Option R}:∀(l) (j) (v),(∀(j:Nat) x v k,x∈l->body j x v k=bif p x then E v else k v)->
  cX body K l j v=bif l.any p then E v else K ((j+l.length:Nat):Int) v
 | [],j,v,_=>rfl
 |x::l,j,v,h=>by
  rw[cX,h j x v _ (Xl ..),fG l (j+1) v λj y v k a=>h j y v k (Xg _ a),List.any_cons]
  grind
theorem Dd{f}:∀(l) (j) (v),(∀(j:Nat) x v k,x∈l->body j x v k=k (f v x))->cX body K l j v=K ((j+l.length:Nat):Int) (l.foldl f v)
 | [],j,v,_=>rfl
 |x::l,j,v,h=>by
  rw[cX,h j x v _ (Xl ..),Dd l (j+1) _ λj y v k a=>h j y v k (Xg _ a),List.foldl_cons,List.length_cons];rw[show j+1+l.length=j+(l.length+1) by omega]
end
theorem Wj1{β:Type}(a)(b)(r)(y:β):(a++b::r).set a.length y=a++y::r:=by
 simp_all
theorem Wre{x y:Int}:(x !=y)= !decide (x=y):=by
 by_cases h:x=y<;>simp[h]
theorem Wp{n}(h:n<=1073741824):Wx n=true:=by grind [Wx]
theorem XT{α}(l:List α)(h:l.length<=1073741824):(((decide ((0:Int)<=Wi l))&&(decide (Wi l<=Wi l)))&&(Wx (Xb (Wi l))))=true:=by
 simp only[Wi,Wx,Int.toNat_natCast,Int.natCast_nonneg,decide_true,Int.le_refl,Bool.and_self,Bool.true_and];simp_all
theorem TC{α}(l:List α):Xb (Wi l)=l.length:=by simp[Wi]
end Go.Sx
