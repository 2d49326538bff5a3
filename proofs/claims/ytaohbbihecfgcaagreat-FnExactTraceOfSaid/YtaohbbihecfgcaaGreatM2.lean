/- Plain laws. -/
import Derived.Test.YtaohbbihecfgcaaGreatM1
open Int renaming toNat→Xa,toNat_natCast→Xk
open List renaming mem_cons_self→Xj,mem_cons_of_mem→Xf,length_cons→Xq,append_assoc→Xaw,replicate→Xp
namespace Go.Sx
set_option linter.unusedVariables false
set_option linter.unusedSimpArgs false
section
variable{α:Type}{l:List α}{j:Nat}
theorem WF(h:j<l.length):decide ((j:Int)<Wh l)=true:=by simp[Wh];exact h
theorem WO(h:l.length<=j):decide ((j:Int)<Wh l)=false:=by simp[Wh];exact h
theorem Wu(h:j<l.length):inb (j:Int) l.length=true:=by rw[WB];simp_all
theorem Ww(h:j<l.length)(d:α):List.getD l (Xa (j:Int)) d=l[j]:=by simp[h]
theorem Wm(h:j<4611686018427387904):Wj .i64 (j:Int) 1=((j+1:Nat):Int):=by grind [WI,I64]
theorem WqP{V R:Type}{lp:Nat->Int->V->Option R}{body:Int->α->V->(V->Option R)->Option R}{K:Int->V->Option R}
  (hs:∀n (j:Nat) v (h:j<l.length),lp (n+1) (j:Int) v=body j l[j] v (λv'=>lp n ((j+1:Nat):Int) v'))
  (he:∀n v,lp (n+1) (l.length:Int) v=K l.length v):∀(n j:Nat) (v:V),j<=l.length->l.length-j<n->lp n (j:Int) v=Wbm body K (l.drop j) j v
 |0,j,v,_,h2=>by omega
 |n+1,j,v,h1,h2=>by
  by_cases hj:j<l.length
  .rw[hs n j v hj,List.drop_eq_getElem_cons hj,Wbm];congr 1;funext v';exact WqP hs he n (j+1) v' hj (by omega)
  grind [List.drop_length,Wbm]
theorem Wy{V R:Type}{lp:Nat->Int->V->Option R}{body:Int->α->V->(V->Option R)->Option R}{K:Int->V->Option R}{n:Nat}(hn:l.length<n)
  (hs:∀n (j:Nat) v (h:j<l.length),lp (n+1) (j:Int) v=body j l[j] v (λv'=>lp n ((j+1:Nat):Int) v'))
  (he:∀n v,lp (n+1) (l.length:Int) v=K l.length v) (v:V):lp n 0 v=Wbm body K l 0 v:=by
 have:=WqP hs he n 0 v (Nat.zero_le _) (by omega)
 rwa [List.drop_zero]at this
end
abbrev ret{α:Type}(v:α):Option (Unit×(α×Unit)):=some ((),(v,()))
theorem Wc4{α:Type}{b:Bool}{x y:α}:(bif b then x else y)=if b=true then x else y:=by cases b<;>rfl
section
variable{α V R:Type}{body:Int->α->V->(V->Option R)->Option R}{K:Int->V->Option R}
theorem W4{p:α->Bool}{E:V->Option R}:∀(l:List α) (j:Nat) (v:V),(∀(j:Nat) x v k,x∈l->body j x v k=bif p x then E v else k v)->
  Wbm body K l j v=bif l.any p then E v else K ((j+l.length:Nat):Int) v
 | [],j,v,_=>rfl
 |x::l,j,v,h=>by
  rw[Wbm,h j x v _ (Xj ..),W4 l (j+1) v λj y v k hy=>h j y v k (Xf _ hy),List.any_cons]
  grind
theorem WjP{f:V->α->V}:∀(l:List α) (j:Nat) (v:V),(∀(j:Nat) x v k,x∈l->body j x v k=k (f v x))->Wbm body K l j v=K ((j+l.length:Nat):Int) (l.foldl f v)
 | [],j,v,_=>rfl
 |x::l,j,v,h=>by
  rw[Wbm,h j x v _ (Xj ..),WjP l (j+1) _ λj y v k hy=>h j y v k (Xf _ hy),List.foldl_cons,Xq];rw[show j+1+l.length=j+(l.length+1) by omega]
end
theorem Wfb{β:Type}(a:List β)(b:β)(r:List β)(y:β):(a++b::r).set a.length y=a++y::r:=by
 simp_all
theorem Wmg{α β R:Type}{body:Int->α->List β->(List β->Option R)->Option R}{K:Int->List β->Option R}{f:α->β}:∀(l:List α) (d r:List β),r.length=l.length->
  (∀(j:Nat) x (v:List β) k,x∈l->body j x v k=bif inb (j:Int) v.length then k (v.set (j:Int).toNat (f x))else none)->
  Wbm body K l d.length (d++r)=K ((d.length+l.length:Nat):Int) (d++l.map f)
 | [],d,r,hr,h=>by
  grind [List.eq_nil_of_length_eq_zero,Wbm]
 |x::l,d,r,hr,h=>by
  cases r with
  |nil=>simp at hr
  |cons b r=>
   rw[Wbm,h d.length x _ _ (Xj ..),WB];have e:decide (d.length<(d++b::r).length)=true:=by simp
   rw[e];simp only[Wa,Xk];rw[Wfb];have:=Wmg (K:=K) l (d++ [f x]) r (by simp_all) (λj y v k hy=>h j y v k (Xf _ hy));rw[List.length_append,Xaw]at this;simp only[Xq,List.length_nil,Nat.zero_add,List.singleton_append,Xaw]at this;rw[this,Xq,List.map_cons];rw[show d.length+1+l.length=d.length+(l.length+1) by omega]
theorem Wdt{α β R:Type}{body:Int->α->List β->(List β->Option R)->Option R}{K:Int->List β->Option R}{f:α->β}{z:β}(l:List α)
  (h:∀(j:Nat) x (v:List β) k,x∈l->body j x v k=bif inb (j:Int) v.length then k (v.set (j:Int).toNat (f x))else none):
  Wbm body K l 0 (Xp l.length z)=K (l.length:Int) (l.map f):=by
 have:=Wmg (body:=body) (K:=K) (f:=f) l [] (Xp l.length z) (by simp) h;simp_all
theorem Wt{n:Nat}(h:n<=1073741824):Wz n=true:=by grind [Wz]
theorem WgK{α:Type}(l:List α)(h:l.length<=1073741824):(((decide ((0:Int)<=Wh l))&&(decide (Wh l<=Wh l)))&&(Wz (Xa (Wh l))))=true:=by
 simp only[Wh,Wz,Xk,Int.natCast_nonneg,decide_true,Int.le_refl,Bool.and_self,Bool.true_and];simp_all
theorem Wcw{α:Type}(l:List α):Xa (Wh l)=l.length:=by simp[Wh]
end Go.Sx
