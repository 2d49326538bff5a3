/- Plain laws. -/
import Derived.Test.YtpfdembammnpcaaGreatM1
open Int renaming toNat→Xa
open List renaming mem_cons_self→Xl,mem_cons_of_mem→Xg
namespace Go.Sx
set_option linter.unusedVariables false
set_option linter.unusedSimpArgs false
section
variable{α:Type}{l:List α}{j:Nat}
theorem WG(h:j<l.length):decide ((j:Int)<Wh l)=true:=by simp[Wh];exact h
theorem WP(h:l.length<=j):decide ((j:Int)<Wh l)=false:=by simp[Wh];exact h
theorem Ws(h:j<l.length):inb (j:Int) l.length=true:=by rw[WH];simp_all
theorem Ww(h:j<l.length)(d:α):List.getD l (Xa (j:Int)) d=l[j]:=by simp[h]
theorem Wk(h:j<4611686018427387904):Wj .i64 (j:Int) 1=((j+1:Nat):Int):=by grind [WD,I64]
theorem Vl{V R:Type}{lp:Nat->Int->V->Option R}{body:Int->α->V->(V->Option R)->Option R}{K:Int->V->Option R}
  (c:∀n (j:Nat) v (h:j<l.length),lp (n+1) (j:Int) v=body j l[j] v (λb=>lp n ((j+1:Nat):Int) b))
  (d:∀n v,lp (n+1) (l.length:Int) v=K l.length v):∀(n j:Nat) (v:V),j<=l.length->l.length-j<n->lp n (j:Int) v=cY body K (l.drop j) j v
 |0,j,v,_,h2=>by omega
 |n+1,j,v,e,h2=>by
  by_cases a:j<l.length
  .rw[c n j v a,List.drop_eq_getElem_cons a,cY];congr 1;funext b;exact Vl c d n (j+1) b a (by omega)
  grind [List.drop_length,cY]
theorem WB{V R:Type}{lp:Nat->Int->V->Option R}{body:Int->α->V->(V->Option R)->Option R}{K:Int->V->Option R}{n:Nat}(d:l.length<n)
  (b:∀n (j:Nat) v (h:j<l.length),lp (n+1) (j:Int) v=body j l[j] v (λc=>lp n ((j+1:Nat):Int) c))
  (a:∀n v,lp (n+1) (l.length:Int) v=K l.length v) (v:V):lp n 0 v=cY body K l 0 v:=by
 have:=Vl b a n 0 v (Nat.zero_le _) (by omega)
 rwa [List.drop_zero]at this
end
abbrev ret{α:Type}(v:α):Option (Unit×(α×Unit)):=some ((),(v,()))
theorem qF{α:Type}{b:Bool}{x y:α}:(bif b then x else y)=if b=true then x else y:=by cases b<;>rfl
section
variable{α V R:Type}{body:Int->α->V->(V->Option R)->Option R}{K:Int->V->Option R}
theorem fb{p:α->Bool}{E:V->Option R}:∀(l:List α) (j:Nat) (v:V),(∀(j:Nat) x v k,x∈l->body j x v k=bif p x then E v else k v)->
  cY body K l j v=bif l.any p then E v else K ((j+l.length:Nat):Int) v
 | [],j,v,_=>rfl
 |x::l,j,v,h=>by
  rw[cY,h j x v _ (Xl ..),fb l (j+1) v λj y v k a=>h j y v k (Xg _ a),List.any_cons]
  grind
theorem CY{f:V->α->V}:∀(l:List α) (j:Nat) (v:V),(∀(j:Nat) x v k,x∈l->body j x v k=k (f v x))->cY body K l j v=K ((j+l.length:Nat):Int) (l.foldl f v)
 | [],j,v,_=>rfl
 |x::l,j,v,h=>by
  rw[cY,h j x v _ (Xl ..),CY l (j+1) _ λj y v k a=>h j y v k (Xg _ a),List.foldl_cons,List.length_cons];rw[show j+1+l.length=j+(l.length+1) by omega]
end
theorem Wj2{β:Type}(a:List β)(b:β)(r:List β)(y:β):(a++b::r).set a.length y=a++y::r:=by
 simp_all
theorem WqZ{x y:Int}:(x !=y)= !decide (x=y):=by
 by_cases h:x=y<;>simp[h]
theorem Wn{n:Nat}(h:n<=1073741824):Wx n=true:=by grind [Wx]
theorem VJ{α:Type}(l:List α)(h:l.length<=1073741824):(((decide ((0:Int)<=Wh l))&&(decide (Wh l<=Wh l)))&&(Wx (Xa (Wh l))))=true:=by
 simp only[Wh,Wx,Int.toNat_natCast,Int.natCast_nonneg,decide_true,Int.le_refl,Bool.and_self,Bool.true_and];simp_all
theorem Su{α:Type}(l:List α):Xa (Wh l)=l.length:=by simp[Wh]
end Go.Sx
