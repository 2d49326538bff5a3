/- Plain laws. -/
import Derived.Test.YtlemhlmemchiaaaGreatM1
open List renaming mem_cons_self→Xh,mem_cons_of_mem→Xe,length_cons→Xt
namespace Go.Sx
set_option linter.unusedVariables false
set_option linter.unusedSimpArgs false
section
variable{α:Type}{l:List α}{j:Nat}
theorem Waa(h:j<l.length):decide ((j:Int)<We l)=true:=by simp[We];exact h
theorem Was(h:l.length<=j):decide ((j:Int)<We l)=false:=by simp[We];exact h
theorem Wt(h:j<l.length):inb (j:Int) l.length=true:=by rw[Wbe];exact decide_eq_true h
theorem Wz(h:j<l.length)(d:α):List.getD l (Int.toNat (j:Int)) d=l[j]:=by simp[h]
theorem Wj(h:j<4611686018427387904):Wf .i64 (j:Int) 1=((j+1:Nat):Int):=by rw[WI (by unfold I64;omega)];rfl
theorem WnE{V R:Type}{lp:Nat->Int->V->Option R}{body:Int->α->V->(V->Option R)->Option R}{K:Int->V->Option R}
  (hs:∀n (j:Nat) v (h:j<l.length),lp (n+1) (j:Int) v=body j l[j] v (λv'=>lp n ((j+1:Nat):Int) v'))
  (he:∀n v,lp (n+1) (l.length:Int) v=K l.length v):∀(n j:Nat) (v:V),j<=l.length->l.length-j<n->lp n (j:Int) v=WbL body K (l.drop j) j v
 |0,j,v,_,h2=>by omega
 |n+1,j,v,h1,h2=>by
  by_cases hj:j<l.length
  .rw[hs n j v hj,List.drop_eq_getElem_cons hj,WbL];congr 1;funext v';exact WnE hs he n (j+1) v' hj (by omega)
  .have:j=l.length:=by omega
   subst this;rw[he,List.drop_length,WbL]
theorem WG{V R:Type}{lp:Nat->Int->V->Option R}{body:Int->α->V->(V->Option R)->Option R}{K:Int->V->Option R}{n:Nat}(hn:l.length<n)
  (hs:∀n (j:Nat) v (h:j<l.length),lp (n+1) (j:Int) v=body j l[j] v (λv'=>lp n ((j+1:Nat):Int) v'))
  (he:∀n v,lp (n+1) (l.length:Int) v=K l.length v) (v:V):lp n 0 v=WbL body K l 0 v:=by
 have:=WnE hs he n 0 v (Nat.zero_le _) (by omega)
 rwa [List.drop_zero]at this
end
abbrev ret{α:Type}(v:α):Option (Unit×(α×Unit)):=some ((),(v,()))
theorem Wpd{α:Type}{b:Bool}{x y:α}:(bif b then x else y)=if b=true then x else y:=by cases b<;>rfl
section
variable{α V R:Type}{body:Int->α->V->(V->Option R)->Option R}{K:Int->V->Option R}
theorem Way{p:α->Bool}{E:V->Option R}:∀(l:List α) (j:Nat) (v:V),(∀(j:Nat) x v k,x∈l->body j x v k=bif p x then E v else k v)->
  WbL body K l j v=bif l.any p then E v else K ((j+l.length:Nat):Int) v
 | [],j,v,_=>rfl
 |x::l,j,v,h=>by
  rw[WbL,h j x v _ (Xh ..),Way l (j+1) v λj y v k hy=>h j y v k (Xe _ hy),List.any_cons];cases p x
  .simp only[cond_false,Bool.false_or,Xt];rw[show j+1+l.length=j+(l.length+1) by omega]
  .rfl
theorem WeR{f:V->α->V}:∀(l:List α) (j:Nat) (v:V),(∀(j:Nat) x v k,x∈l->body j x v k=k (f v x))->WbL body K l j v=K ((j+l.length:Nat):Int) (l.foldl f v)
 | [],j,v,_=>rfl
 |x::l,j,v,h=>by
  rw[WbL,h j x v _ (Xh ..),WeR l (j+1) _ λj y v k hy=>h j y v k (Xe _ hy),List.foldl_cons,Xt];rw[show j+1+l.length=j+(l.length+1) by omega]
end
theorem WgE{β:Type}(a:List β)(b:β)(r:List β)(y:β):(a++b::r).set a.length y=a++y::r:=by
 induction a with
 |nil=>rfl
 |cons x a ih=>simp[ih]
theorem Wy{n:Nat}(h:n<=1073741824):WB n=true:=by unfold WB;simpa using h
end Go.Sx
