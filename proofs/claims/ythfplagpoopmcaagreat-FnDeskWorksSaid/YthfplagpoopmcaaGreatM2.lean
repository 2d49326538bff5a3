/- Plain laws. -/
import Derived.Test.YthfplagpoopmcaaGreatM1
open Int renaming toNat→Xa
open List renaming mem_cons_self→Xh,mem_cons_of_mem→Xe
namespace Go.Sx
set_option linter.unusedVariables false
set_option linter.unusedSimpArgs false
section
variable{α:Type}{l:List α}{j:Nat}
theorem Wan(h:j<l.length):decide ((j:Int)<Wh l)=true:=by simp[Wh];exact h
theorem WaC(h:l.length<=j):decide ((j:Int)<Wh l)=false:=by simp[Wh];exact h
theorem WD(h:j<l.length):inb (j:Int) l.length=true:=by rw[WW];simp_all
theorem WH(h:j<l.length)(d:α):List.getD l (Xa (j:Int)) d=l[j]:=by simp[h]
theorem Wt(h:j<4611686018427387904):Wl .i64 (j:Int) 1=((j+1:Nat):Int):=by grind [W3,I64]
theorem Wpf{V R:Type}{lp:Nat->Int->V->Option R}{body:Int->α->V->(V->Option R)->Option R}{K:Int->V->Option R}
  (hs:∀n (j:Nat) v (h:j<l.length),lp (n+1) (j:Int) v=body j l[j] v (λv'=>lp n ((j+1:Nat):Int) v'))
  (he:∀n v,lp (n+1) (l.length:Int) v=K l.length v):∀(n j:Nat) (v:V),j<=l.length->l.length-j<n->lp n (j:Int) v=Wbt body K (l.drop j) j v
 |0,j,v,_,h2=>by omega
 |n+1,j,v,h1,h2=>by
  by_cases hj:j<l.length
  .rw[hs n j v hj,List.drop_eq_getElem_cons hj,Wbt];congr 1;funext v';exact Wpf hs he n (j+1) v' hj (by omega)
  grind [List.drop_length,Wbt]
theorem WT{V R:Type}{lp:Nat->Int->V->Option R}{body:Int->α->V->(V->Option R)->Option R}{K:Int->V->Option R}{n:Nat}(hn:l.length<n)
  (hs:∀n (j:Nat) v (h:j<l.length),lp (n+1) (j:Int) v=body j l[j] v (λv'=>lp n ((j+1:Nat):Int) v'))
  (he:∀n v,lp (n+1) (l.length:Int) v=K l.length v) (v:V):lp n 0 v=Wbt body K l 0 v:=by
 have:=Wpf hs he n 0 v (Nat.zero_le _) (by omega)
 rwa [List.drop_zero]at this
end
abbrev ret{α:Type}(v:α):Option (Unit×(α×Unit)):=some ((),(v,()))
theorem Wgi{α:Type}{b:Bool}{x y:α}:(bif b then x else y)=if b=true then x else y:=by cases b<;>rfl
section
variable{α V R:Type}{body:Int->α->V->(V->Option R)->Option R}{K:Int->V->Option R}
theorem WbH{p:α->Bool}{E:V->Option R}:∀(l:List α) (j:Nat) (v:V),(∀(j:Nat) x v k,x∈l->body j x v k=bif p x then E v else k v)->
  Wbt body K l j v=bif l.any p then E v else K ((j+l.length:Nat):Int) v
 | [],j,v,_=>rfl
 |x::l,j,v,h=>by
  rw[Wbt,h j x v _ (Xh ..),WbH l (j+1) v λj y v k hy=>h j y v k (Xe _ hy),List.any_cons]
  grind
theorem Wii{f:V->α->V}:∀(l:List α) (j:Nat) (v:V),(∀(j:Nat) x v k,x∈l->body j x v k=k (f v x))->Wbt body K l j v=K ((j+l.length:Nat):Int) (l.foldl f v)
 | [],j,v,_=>rfl
 |x::l,j,v,h=>by
  rw[Wbt,h j x v _ (Xh ..),Wii l (j+1) _ λj y v k hy=>h j y v k (Xe _ hy),List.foldl_cons,List.length_cons];rw[show j+1+l.length=j+(l.length+1) by omega]
end
theorem WhP{β:Type}(a:List β)(b:β)(r:List β)(y:β):(a++b::r).set a.length y=a++y::r:=by
 simp_all
theorem WK{n:Nat}(h:n<=1073741824):WV n=true:=by grind [WV]
theorem WrE{α:Type}(l:List α)(h:l.length<=1073741824):(((decide ((0:Int)<=Wh l))&&(decide (Wh l<=Wh l)))&&(WV (Xa (Wh l))))=true:=by
 simp only[Wh,WV,Int.toNat_natCast,Int.natCast_nonneg,decide_true,Int.le_refl,Bool.and_self,Bool.true_and];simp_all
theorem WnM{α:Type}(l:List α):Xa (Wh l)=l.length:=by simp[Wh]
end Go.Sx
