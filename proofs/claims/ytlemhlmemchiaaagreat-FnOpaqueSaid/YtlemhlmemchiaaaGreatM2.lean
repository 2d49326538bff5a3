/- Plain laws. -/
import Derived.Test.YtlemhlmemchiaaaGreatM1
open Int renaming toNat→Xa
open List renaming mem_cons_self→Xh,mem_cons_of_mem→Xe,length_cons→Xw
namespace Go.Sx
set_option linter.unusedVariables false
set_option linter.unusedSimpArgs false
section
variable{α:Type}{l:List α}{j:Nat}
theorem WN(h:j<l.length):decide ((j:Int)<Wb l)=true:=by simp[Wb];exact h
theorem WV(h:l.length<=j):decide ((j:Int)<Wb l)=false:=by simp[Wb];exact h
theorem Wg(h:j<l.length):inb (j:Int) l.length=true:=by rw[W5];exact decide_eq_true h
theorem Wj(h:j<l.length)(d:α):List.getD l (Xa (j:Int)) d=l[j]:=by simp[h]
theorem Wf(h:j<4611686018427387904):We .i64 (j:Int) 1=((j+1:Nat):Int):=by rw[WC (by unfold I64;omega)];rfl
theorem Wqw{V R:Type}{lp:Nat->Int->V->Option R}{body:Int->α->V->(V->Option R)->Option R}{K:Int->V->Option R}
  (hs:∀n (j:Nat) v (h:j<l.length),lp (n+1) (j:Int) v=body j l[j] v (λv'=>lp n ((j+1:Nat):Int) v'))
  (he:∀n v,lp (n+1) (l.length:Int) v=K l.length v):∀(n j:Nat) (v:V),j<=l.length->l.length-j<n->lp n (j:Int) v=WbW body K (l.drop j) j v
 |0,j,v,_,h2=>by omega
 |n+1,j,v,h1,h2=>by
  by_cases hj:j<l.length
  .rw[hs n j v hj,List.drop_eq_getElem_cons hj,WbW];congr 1;funext v';exact Wqw hs he n (j+1) v' hj (by omega)
  .have:j=l.length:=by omega
   subst this;rw[he,List.drop_length,WbW]
theorem Wq{V R:Type}{lp:Nat->Int->V->Option R}{body:Int->α->V->(V->Option R)->Option R}{K:Int->V->Option R}{n:Nat}(hn:l.length<n)
  (hs:∀n (j:Nat) v (h:j<l.length),lp (n+1) (j:Int) v=body j l[j] v (λv'=>lp n ((j+1:Nat):Int) v'))
  (he:∀n v,lp (n+1) (l.length:Int) v=K l.length v) (v:V):lp n 0 v=WbW body K l 0 v:=by
 have:=Wqw hs he n 0 v (Nat.zero_le _) (by omega)
 rwa [List.drop_zero]at this
end
abbrev ret{α:Type}(v:α):Option (Unit×(α×Unit)):=some ((),(v,()))
theorem Whs{α:Type}{b:Bool}{x y:α}:(bif b then x else y)=if b=true then x else y:=by cases b<;>rfl
section
variable{α V R:Type}{body:Int->α->V->(V->Option R)->Option R}{K:Int->V->Option R}
theorem Was{p:α->Bool}{E:V->Option R}:∀(l:List α) (j:Nat) (v:V),(∀(j:Nat) x v k,x∈l->body j x v k=bif p x then E v else k v)->
  WbW body K l j v=bif l.any p then E v else K ((j+l.length:Nat):Int) v
 | [],j,v,_=>rfl
 |x::l,j,v,h=>by
  rw[WbW,h j x v _ (Xh ..),Was l (j+1) v λj y v k hy=>h j y v k (Xe _ hy),List.any_cons];cases p x
  .simp only[cond_false,Bool.false_or,Xw];rw[show j+1+l.length=j+(l.length+1) by omega]
  .rfl
theorem Wa9{f:V->α->V}:∀(l:List α) (j:Nat) (v:V),(∀(j:Nat) x v k,x∈l->body j x v k=k (f v x))->WbW body K l j v=K ((j+l.length:Nat):Int) (l.foldl f v)
 | [],j,v,_=>rfl
 |x::l,j,v,h=>by
  rw[WbW,h j x v _ (Xh ..),Wa9 l (j+1) _ λj y v k hy=>h j y v k (Xe _ hy),List.foldl_cons,Xw];rw[show j+1+l.length=j+(l.length+1) by omega]
end
theorem Wdb{β:Type}(a:List β)(b:β)(r:List β)(y:β):(a++b::r).set a.length y=a++y::r:=by
 induction a with
 |nil=>rfl
 |cons x a ih=>simp[ih]
theorem Ww{n:Nat}(h:n<=1073741824):WA n=true:=by unfold WA;simpa using h
theorem WuV{α:Type}(l:List α)(h:l.length<=1073741824):(((decide ((0:Int)<=Wb l))&&(decide (Wb l<=Wb l)))&&(WA (Xa (Wb l))))=true:=by
 simp only[Wb,WA,Int.toNat_natCast,Int.natCast_nonneg,decide_true,Int.le_refl,Bool.and_self,Bool.true_and];exact decide_eq_true h
theorem Wo1{α:Type}(l:List α):Xa (Wb l)=l.length:=by simp[Wb]
end Go.Sx
