/- Plain laws. -/
import Derived.Test.YtiagkodiffhaoaaGreatM1
open Int renaming toNat->Xb
open List renaming mem_cons_self->Xg,mem_cons_of_mem->Xe
namespace Go.Sx
set_option linter.unusedVariables false
set_option linter.unusedSimpArgs false
section
variable{a:Type}{l:List a}{j:Nat}
theorem WM(h:j<l.length):decide ((j:Int)<Wi l)=true:=by simp[Wi];exact h
theorem W0(h:l.length<=j):decide ((j:Int)<Wi l)=false:=by simp[Wi];exact h
theorem Wp(h:j<l.length):inb (j:Int) l.length=true:=by rw[d8];simp_all
theorem Wu(h)(d):List.getD l (Xb (j:Int)) d=l[j]:=by simp[h]
theorem Wl(h:j<4611686018427387904:=by omega):Ws .i64 (j:Int) 1=((j+1:Nat):Int):=by grind [WB,I64]
theorem Wvj{V R}{b:Nat->Int->V->Option R}{g}{K}
  (c:∀n (j) v (h:j<l.length),b (n+1) (j:Int) v=g j l[j] v (λf=>b n ((j+1:Nat):Int) f))
  (d:∀n v,b (n+1) (l.length:Int) v=K l.length v):∀(n j) (v),j<=l.length->l.length-j<n->b n (j:Int) v=eP g K (l.drop j) j v
 |0,j,v,_,h2=>Ω
 |n+1,j,v,e,h2=>by
  by_cases a:j<l.length
  .rw[c n j v a,List.drop_eq_getElem_cons a,eP];congr 1;funext f;exact Wvj c d n (j+1) f a Ω
  grind [List.drop_length,eP]
theorem WF{V R}{c:Nat->Int->V->Option R}{b}{K}{n}(d:l.length<n)
  (e:∀n (j) v (h:j<l.length),c (n+1) (j:Int) v=b j l[j] v (λf=>c n ((j+1:Nat):Int) f))
  (a:∀n v,c (n+1) (l.length:Int) v=K l.length v) (v):c n 0 v=eP b K l 0 v:=by
 have:=Wvj e a n 0 v (Nat.zero_le _) Ω
 rwa [List.drop_zero]at this
end
abbrev ret{a:Type}(v:a):Option (Unit×(a×Unit)):=some ((),(v,()))
theorem K2{a:Type}{b}{x y:a}:(bif b then x else y)=if b=true then x else y:=by cases b<;>rfl
section
variable{a V R:Type}{b:Int->a->V->(V->Option R)->Option R}{K:Int->V->Option R}
theorem kF{p}{E:V->Option R}:∀(l) (j) (v),(∀(j:Nat) x v k,x∈l->b j x v k=bif p x then E v else k v)->
  eP b K l j v=bif l.any p then E v else K ((j+l.length:Nat):Int) v
 | [],j,v,_=>rfl
 |x::l,j,v,h=>by
  rw[eP,h j x v _ (Xg ..),kF l (j+1) v λj y v k a=>h j y v k (Xe _ a),List.any_cons]
  grind
theorem zv{f}:∀(l) (j) (v),(∀(j:Nat) x v k,x∈l->b j x v k=k (f v x))->eP b K l j v=K ((j+l.length:Nat):Int) (l.foldl f v)
 | [],j,v,_=>rfl
 |x::l,j,v,h=>by
  rw[eP,h j x v _ (Xg ..),zv l (j+1) _ λj y v k a=>h j y v k (Xe _ a),List.foldl_cons,List.length_cons];rw[show j+1+l.length=j+(l.length+1) by omega]
end
theorem Wlq{a:Type}(c)(b)(r)(y:a):(c++b::r).set c.length y=c++y::r:=by
 simp_all
theorem Ws6{x y:Int}:(x !=y)= !decide (x=y):=by
 by_cases h:x=y<;>simp[h]
theorem Ww{n}(h:n<=1073741824):WH n=true:=by grind [WH]
theorem Rh{a}(l:List a)(h:l.length<=1073741824):(((decide ((0:Int)<=Wi l))&&(decide (Wi l<=Wi l)))&&(WH (Xb (Wi l))))=true:=by
 simp only[Wi,WH,Int.toNat_natCast,Int.natCast_nonneg,decide_true,Int.le_refl,Bool.and_self,Bool.true_and];simp_all
theorem Pu{a}(l:List a):Xb (Wi l)=l.length:=by simp[Wi]
end Go.Sx
