/- Plain laws. -/
import Derived.Test.YtjcmdagkabkicaaGreatM1
open Int renaming toNat→Xa,toNat_natCast→Xl
open List renaming mem_cons_self→Xj,mem_cons_of_mem→Xf,length_cons→Xr,append_assoc→Xbf,replicate→Xp
namespace Go.Sx
set_option linter.unusedVariables false
set_option linter.unusedSimpArgs false
section
variable{α:Type}{l:List α}{j:Nat}
theorem WL(h:j<l.length):decide ((j:Int)<Wg l)=true:=by simp[Wg];exact h
theorem WW(h:l.length<=j):decide ((j:Int)<Wg l)=false:=by simp[Wg];exact h
theorem Ww(h:j<l.length):inb (j:Int) l.length=true:=by rw[WE];simp_all
theorem Wt(h:j<l.length)(d:α):List.getD l (Xa (j:Int)) d=l[j]:=by simp[h]
theorem Wp(h:j<4611686018427387904):Wh .i64 (j:Int) 1=((j+1:Nat):Int):=by grind [WJ,I64]
theorem Wr6{V R:Type}{lp:Nat->Int->V->Option R}{body:Int->α->V->(V->Option R)->Option R}{K:Int->V->Option R}
  (hs:∀n (j:Nat) v (h:j<l.length),lp (n+1) (j:Int) v=body j l[j] v (λv'=>lp n ((j+1:Nat):Int) v'))
  (he:∀n v,lp (n+1) (l.length:Int) v=K l.length v):∀(n j:Nat) (v:V),j<=l.length->l.length-j<n->lp n (j:Int) v=WbT body K (l.drop j) j v
 |0,j,v,_,h2=>by omega
 |n+1,j,v,h1,h2=>by
  by_cases hj:j<l.length
  .rw[hs n j v hj,List.drop_eq_getElem_cons hj,WbT];congr 1;funext v';exact Wr6 hs he n (j+1) v' hj (by omega)
  grind [List.drop_length,WbT]
theorem Wx{V R:Type}{lp:Nat->Int->V->Option R}{body:Int->α->V->(V->Option R)->Option R}{K:Int->V->Option R}{n:Nat}(hn:l.length<n)
  (hs:∀n (j:Nat) v (h:j<l.length),lp (n+1) (j:Int) v=body j l[j] v (λv'=>lp n ((j+1:Nat):Int) v'))
  (he:∀n v,lp (n+1) (l.length:Int) v=K l.length v) (v:V):lp n 0 v=WbT body K l 0 v:=by
 have:=Wr6 hs he n 0 v (Nat.zero_le _) (by omega)
 rwa [List.drop_zero]at this
end
abbrev ret{α:Type}(v:α):Option (Unit×(α×Unit)):=some ((),(v,()))
theorem Wdn{α:Type}{b:Bool}{x y:α}:(bif b then x else y)=if b=true then x else y:=by cases b<;>rfl
section
variable{α V R:Type}{body:Int->α->V->(V->Option R)->Option R}{K:Int->V->Option R}
theorem W7{p:α->Bool}{E:V->Option R}:∀(l:List α) (j:Nat) (v:V),(∀(j:Nat) x v k,x∈l->body j x v k=bif p x then E v else k v)->
  WbT body K l j v=bif l.any p then E v else K ((j+l.length:Nat):Int) v
 | [],j,v,_=>rfl
 |x::l,j,v,h=>by
  rw[WbT,h j x v _ (Xj ..),W7 l (j+1) v λj y v k hy=>h j y v k (Xf _ hy),List.any_cons]
  grind
theorem WkX{f:V->α->V}:∀(l:List α) (j:Nat) (v:V),(∀(j:Nat) x v k,x∈l->body j x v k=k (f v x))->WbT body K l j v=K ((j+l.length:Nat):Int) (l.foldl f v)
 | [],j,v,_=>rfl
 |x::l,j,v,h=>by
  rw[WbT,h j x v _ (Xj ..),WkX l (j+1) _ λj y v k hy=>h j y v k (Xf _ hy),List.foldl_cons,Xr];rw[show j+1+l.length=j+(l.length+1) by omega]
end
theorem WfK{β:Type}(a:List β)(b:β)(r:List β)(y:β):(a++b::r).set a.length y=a++y::r:=by
 simp_all
theorem WmM{α β R:Type}{body:Int->α->List β->(List β->Option R)->Option R}{K:Int->List β->Option R}{f:α->β}:∀(l:List α) (d r:List β),r.length=l.length->
  (∀(j:Nat) x (v:List β) k,x∈l->body j x v k=bif inb (j:Int) v.length then k (v.set (j:Int).toNat (f x))else none)->
  WbT body K l d.length (d++r)=K ((d.length+l.length:Nat):Int) (d++l.map f)
 | [],d,r,hr,h=>by
  grind [List.eq_nil_of_length_eq_zero,WbT]
 |x::l,d,r,hr,h=>by
  cases r with
  |nil=>simp at hr
  |cons b r=>
   rw[WbT,h d.length x _ _ (Xj ..),WE];have e:decide (d.length<(d++b::r).length)=true:=by simp
   rw[e];simp only[Wb,Xl];rw[WfK];have:=WmM (K:=K) l (d++ [f x]) r (by simp_all) (λj y v k hy=>h j y v k (Xf _ hy));rw[List.length_append,Xbf]at this;simp only[Xr,List.length_nil,Nat.zero_add,List.singleton_append,Xbf]at this;rw[this,Xr,List.map_cons];rw[show d.length+1+l.length=d.length+(l.length+1) by omega]
theorem WdG{α β R:Type}{body:Int->α->List β->(List β->Option R)->Option R}{K:Int->List β->Option R}{f:α->β}{z:β}(l:List α)
  (h:∀(j:Nat) x (v:List β) k,x∈l->body j x v k=bif inb (j:Int) v.length then k (v.set (j:Int).toNat (f x))else none):
  WbT body K l 0 (Xp l.length z)=K (l.length:Int) (l.map f):=by
 have:=WmM (body:=body) (K:=K) (f:=f) l [] (Xp l.length z) (by simp) h;simp_all
theorem Wq{n:Nat}(h:n<=1073741824):Wz n=true:=by grind [Wz]
theorem Whg{α:Type}(l:List α)(h:l.length<=1073741824):(((decide ((0:Int)<=Wg l))&&(decide (Wg l<=Wg l)))&&(Wz (Xa (Wg l))))=true:=by
 simp only[Wg,Wz,Xl,Int.natCast_nonneg,decide_true,Int.le_refl,Bool.and_self,Bool.true_and];simp_all
theorem Wc1{α:Type}(l:List α):Xa (Wg l)=l.length:=by simp[Wg]
end Go.Sx
