/- Plain laws. -/
import Derived.Test.YtnkbflecplbceaaGreatM1
open Int renaming toNat→Xb
open List renaming mem_cons_self→Xi,mem_cons_of_mem→Xe,length_cons→Xu
namespace Go.Sx
set_option linter.unusedVariables false
set_option linter.unusedSimpArgs false
section
variable{α:Type}{l:List α}{j:Nat}
theorem Wao(h:j<l.length):decide ((j:Int)<Wb l)=true:=by simp[Wb];exact h
theorem WaH(h:l.length<=j):decide ((j:Int)<Wb l)=false:=by simp[Wb];exact h
theorem Wv(h:j<l.length):inb (j:Int) l.length=true:=by rw[Wac];exact decide_eq_true h
theorem WB(h:j<l.length)(d:α):List.getD l (Xb (j:Int)) d=l[j]:=by simp[h]
theorem Wk(h:j<4611686018427387904):We .i64 (j:Int) 1=((j+1:Nat):Int):=by rw[Ww (by unfold I64;omega)];rfl
theorem WsI{V R:Type}{lp:Nat->Int->V->Option R}{body:Int->α->V->(V->Option R)->Option R}{K:Int->V->Option R}
  (hs:∀n (j:Nat) v (h:j<l.length),lp (n+1) (j:Int) v=body j l[j] v (λv'=>lp n ((j+1:Nat):Int) v'))
  (he:∀n v,lp (n+1) (l.length:Int) v=K l.length v):∀(n j:Nat) (v:V),j<=l.length->l.length-j<n->lp n (j:Int) v=Wcg body K (l.drop j) j v
 |0,j,v,_,h2=>by omega
 |n+1,j,v,h1,h2=>by
  by_cases hj:j<l.length
  .rw[hs n j v hj,List.drop_eq_getElem_cons hj,Wcg];congr 1;funext v';exact WsI hs he n (j+1) v' hj (by omega)
  .have:j=l.length:=by omega
   subst this;rw[he,List.drop_length,Wcg]
theorem WO{V R:Type}{lp:Nat->Int->V->Option R}{body:Int->α->V->(V->Option R)->Option R}{K:Int->V->Option R}{n:Nat}(hn:l.length<n)
  (hs:∀n (j:Nat) v (h:j<l.length),lp (n+1) (j:Int) v=body j l[j] v (λv'=>lp n ((j+1:Nat):Int) v'))
  (he:∀n v,lp (n+1) (l.length:Int) v=K l.length v) (v:V):lp n 0 v=Wcg body K l 0 v:=by
 have:=WsI hs he n 0 v (Nat.zero_le _) (by omega)
 rwa [List.drop_zero]at this
end
abbrev ret{α:Type}(v:α):Option (Unit×(α×Unit)):=some ((),(v,()))
theorem WhP{α:Type}{b:Bool}{x y:α}:(bif b then x else y)=if b=true then x else y:=by cases b<;>rfl
section
variable{α V R:Type}{body:Int->α->V->(V->Option R)->Option R}{K:Int->V->Option R}
theorem WaK{p:α->Bool}{E:V->Option R}:∀(l:List α) (j:Nat) (v:V),(∀(j:Nat) x v k,x∈l->body j x v k=bif p x then E v else k v)->
  Wcg body K l j v=bif l.any p then E v else K ((j+l.length:Nat):Int) v
 | [],j,v,_=>rfl
 |x::l,j,v,h=>by
  rw[Wcg,h j x v _ (Xi ..),WaK l (j+1) v λj y v k hy=>h j y v k (Xe _ hy),List.any_cons];cases p x
  .simp only[cond_false,Bool.false_or,Xu];rw[show j+1+l.length=j+(l.length+1) by omega]
  .rfl
theorem WjB{f:V->α->V}:∀(l:List α) (j:Nat) (v:V),(∀(j:Nat) x v k,x∈l->body j x v k=k (f v x))->Wcg body K l j v=K ((j+l.length:Nat):Int) (l.foldl f v)
 | [],j,v,_=>rfl
 |x::l,j,v,h=>by
  rw[Wcg,h j x v _ (Xi ..),WjB l (j+1) _ λj y v k hy=>h j y v k (Xe _ hy),List.foldl_cons,Xu];rw[show j+1+l.length=j+(l.length+1) by omega]
end
theorem Wdk{β:Type}(a:List β)(b:β)(r:List β)(y:β):(a++b::r).set a.length y=a++y::r:=by
 induction a with
 |nil=>rfl
 |cons x a ih=>simp[ih]
theorem WC{n:Nat}(h:n<=1073741824):WG n=true:=by unfold WG;simpa using h
theorem Wvn{α:Type}(l:List α)(h:l.length<=1073741824):(((decide ((0:Int)<=Wb l))&&(decide (Wb l<=Wb l)))&&(WG (Xb (Wb l))))=true:=by
 simp only[Wb,WG,Int.toNat_natCast,Int.natCast_nonneg,decide_true,Int.le_refl,Bool.and_self,Bool.true_and];exact decide_eq_true h
theorem WpZ{α:Type}(l:List α):Xb (Wb l)=l.length:=by simp[Wb]
end Go.Sx
