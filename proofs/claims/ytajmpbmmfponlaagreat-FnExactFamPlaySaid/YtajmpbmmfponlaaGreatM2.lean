/- Plain laws. -/
import Derived.Test.YtajmpbmmfponlaaGreatM1
open Int renaming toNat→Xa,toNat_natCast→Xu
open List renaming mem_cons_self→Xg,mem_cons_of_mem→Xe,length_cons→Xq,append_assoc→Xbk,replicate→Xy
namespace Go.Sx
set_option linter.unusedVariables false
set_option linter.unusedSimpArgs false
section
variable{α:Type}{l:List α}{j:Nat}
theorem WX(h:j<l.length):decide ((j:Int)<Wc l)=true:=by simp[Wc];exact h
theorem Wac(h:l.length<=j):decide ((j:Int)<Wc l)=false:=by simp[Wc];exact h
theorem Wn(h:j<l.length):inb (j:Int) l.length=true:=by rw[Waf];exact decide_eq_true h
theorem Wv(h:j<l.length)(d:α):List.getD l (Xa (j:Int)) d=l[j]:=by simp[h]
theorem Wh(h:j<4611686018427387904):Wf .i64 (j:Int) 1=((j+1:Nat):Int):=by rw[W3 (by unfold I64;omega)];rfl
theorem Wne{V R:Type}{lp:Nat->Int->V->Option R}{body:Int->α->V->(V->Option R)->Option R}{K:Int->V->Option R}
  (hs:∀n (j:Nat) v (h:j<l.length),lp (n+1) (j:Int) v=body j l[j] v (λv'=>lp n ((j+1:Nat):Int) v'))
  (he:∀n v,lp (n+1) (l.length:Int) v=K l.length v):∀(n j:Nat) (v:V),j<=l.length->l.length-j<n->lp n (j:Int) v=WbC body K (l.drop j) j v
 |0,j,v,_,h2=>by omega
 |n+1,j,v,h1,h2=>by
  by_cases hj:j<l.length
  .rw[hs n j v hj,List.drop_eq_getElem_cons hj,WbC];congr 1;funext v';exact Wne hs he n (j+1) v' hj (by omega)
  .have:j=l.length:=by omega
   subst this;rw[he,List.drop_length,WbC]
theorem Wp{V R:Type}{lp:Nat->Int->V->Option R}{body:Int->α->V->(V->Option R)->Option R}{K:Int->V->Option R}{n:Nat}(hn:l.length<n)
  (hs:∀n (j:Nat) v (h:j<l.length),lp (n+1) (j:Int) v=body j l[j] v (λv'=>lp n ((j+1:Nat):Int) v'))
  (he:∀n v,lp (n+1) (l.length:Int) v=K l.length v) (v:V):lp n 0 v=WbC body K l 0 v:=by
 have:=Wne hs he n 0 v (Nat.zero_le _) (by omega)
 rwa [List.drop_zero]at this
end
abbrev ret{α:Type}(v:α):Option (Unit×(α×Unit)):=some ((),(v,()))
theorem Wn8{α:Type}{b:Bool}{x y:α}:(bif b then x else y)=if b=true then x else y:=by cases b<;>rfl
section
variable{α V R:Type}{body:Int->α->V->(V->Option R)->Option R}{K:Int->V->Option R}
theorem War{p:α->Bool}{E:V->Option R}:∀(l:List α) (j:Nat) (v:V),(∀(j:Nat) x v k,x∈l->body j x v k=bif p x then E v else k v)->
  WbC body K l j v=bif l.any p then E v else K ((j+l.length:Nat):Int) v
 | [],j,v,_=>rfl
 |x::l,j,v,h=>by
  rw[WbC,h j x v _ (Xg ..),War l (j+1) v λj y v k hy=>h j y v k (Xe _ hy),List.any_cons];cases p x
  .simp only[cond_false,Bool.false_or,Xq];rw[show j+1+l.length=j+(l.length+1) by omega]
  .rfl
theorem Whh{f:V->α->V}:∀(l:List α) (j:Nat) (v:V),(∀(j:Nat) x v k,x∈l->body j x v k=k (f v x))->WbC body K l j v=K ((j+l.length:Nat):Int) (l.foldl f v)
 | [],j,v,_=>rfl
 |x::l,j,v,h=>by
  rw[WbC,h j x v _ (Xg ..),Whh l (j+1) _ λj y v k hy=>h j y v k (Xe _ hy),List.foldl_cons,Xq];rw[show j+1+l.length=j+(l.length+1) by omega]
end
theorem Wgt{β:Type}(a:List β)(b:β)(r:List β)(y:β):(a++b::r).set a.length y=a++y::r:=by
 induction a with
 |nil=>rfl
 |cons x a ih=>simp[ih]
theorem WjA{α β R:Type}{body:Int->α->List β->(List β->Option R)->Option R}{K:Int->List β->Option R}{f:α->β}:∀(l:List α) (d r:List β),r.length=l.length->
  (∀(j:Nat) x (v:List β) k,x∈l->body j x v k=bif inb (j:Int) v.length then k (v.set (j:Int).toNat (f x))else none)->
  WbC body K l d.length (d++r)=K ((d.length+l.length:Nat):Int) (d++l.map f)
 | [],d,r,hr,h=>by
  have:r= []:=List.eq_nil_of_length_eq_zero hr;subst this;simp[WbC]
 |x::l,d,r,hr,h=>by
  cases r with
  |nil=>simp at hr
  |cons b r=>
   rw[WbC,h d.length x _ _ (Xg ..),Waf];have e:decide (d.length<(d++b::r).length)=true:=by simp
   rw[e];simp only[cond_true,Xu];rw[Wgt];have:=WjA (K:=K) l (d++ [f x]) r (by simpa using hr) (λj y v k hy=>h j y v k (Xe _ hy));rw[List.length_append,Xbk]at this;simp only[Xq,List.length_nil,Nat.zero_add,List.singleton_append,Xbk]at this;rw[this,Xq,List.map_cons];rw[show d.length+1+l.length=d.length+(l.length+1) by omega]
theorem Wdl{α β R:Type}{body:Int->α->List β->(List β->Option R)->Option R}{K:Int->List β->Option R}{f:α->β}{z:β}(l:List α)
  (h:∀(j:Nat) x (v:List β) k,x∈l->body j x v k=bif inb (j:Int) v.length then k (v.set (j:Int).toNat (f x))else none):
  WbC body K l 0 (Xy l.length z)=K (l.length:Int) (l.map f):=by
 have:=WjA (body:=body) (K:=K) (f:=f) l [] (Xy l.length z) (by simp) h;simpa using this
theorem Ws{n:Nat}(h:n<=1073741824):WT n=true:=by unfold WT;simpa using h
theorem Wif{α:Type}(l:List α)(h:l.length<=1073741824):(((decide ((0:Int)<=Wc l))&&(decide (Wc l<=Wc l)))&&(WT (Xa (Wc l))))=true:=by
 simp only[Wc,WT,Xu,Int.natCast_nonneg,decide_true,Int.le_refl,Bool.and_self,Bool.true_and];exact decide_eq_true h
theorem Wdc{α:Type}(l:List α):Xa (Wc l)=l.length:=by simp[Wc]
end Go.Sx
