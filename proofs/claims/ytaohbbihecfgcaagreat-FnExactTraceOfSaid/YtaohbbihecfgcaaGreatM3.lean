/- Plain laws. -/
import Derived.Test.YtaohbbihecfgcaaGreatM2
open List renaming length_cons→Xq
open Bool renaming eq_iff_iff→Xfs
namespace Go.Sx
set_option linter.unusedVariables false
set_option linter.unusedSimpArgs false
def marks{α:Type}(g:Int->α->α)(c:Nat):Int->List α->List α
 |_,[]=>[]
 |k,x::l=>g k x::marks g c (k+c) l
theorem Wel{left:Int}{z1 z2:Nat}{k:Unit×(Int×Unit)->Option (Unit×(Int×Unit))}(h0:0<=left)
  (hk:(z1:Int)<=left->k ((),(left-z1,()))=ret (if left-z1<(z2:Int)then-1 else left-z1-z2)):
  ((ret (if left<(z1:Int)then(-1:Int)else left-z1)).bind λo=>bif decide (o.2.1<(0:Int))then some ((),((-1:Int),()))else k o)=ret (if left<((z1+z2:Nat):Int)then-1 else left-((z1+z2:Nat):Int)):=by
 grind
theorem Wj9{left:Int}(h:0<=left):some ((),(left,()))=ret (if left<((0:Nat):Int)then-1 else left-((0:Nat):Int)):=by
 grind
theorem Wqm{α:Type}{l:List α}{z:α->Nat}{lp:Nat->Int->Int->Option (Unit×(Int×Unit))}
  (hs:∀n (left:Int) (j:Nat) (h:j<l.length),0<=left->left<=1048576->lp (n+1) left (j:Int)=if left<(z l[j]:Int)then ret (-1)else lp n (left-(z l[j]:Int)) ((j+1:Nat):Int))
  (he:∀n left,lp (n+1) left (l.length:Int)=ret left):∀(r d:List α) (n:Nat) (left:Int),l=d++r->r.length<n->0<=left->left<=1048576->
   lp n left (d.length:Int)=ret (if left<((r.map z).sum:Int)then-1 else left-((r.map z).sum:Int))
 | [],d,0,left,_,h,_,_=>by simp at h
 | [],d,n+1,left,hl,_,h0,_=>by
  grind
 |x::r,d,0,left,_,h,_,_=>by simp at h
 |x::r,d,n+1,left,hl,hn,h0,h1=>by
  have hj:d.length<l.length:=by grind
  have e1:l[d.length]=x:=by simp[hl]
  rw[hs n left d.length hj h0 h1,e1];simp only[Xq]at hn;by_cases h:left<(z x:Int)
  .rw[Wf h,Wf (by simp;omega)]
  .rw[Wb h];have ih:=Wqm hs he r (d++ [x]) n (left-(z x:Int)) (by grind) (by omega) (by omega) (by omega)
   grind
theorem Won{α:Type}{l:List α}{z:α->Nat}{lp:Nat->Int->Int->Option (Unit×(Int×Unit))}
  (hs:∀n (left:Int) (j:Nat) (h:j<l.length),0<=left->left<=1048576->lp (n+1) left (j:Int)=if left<(z l[j]:Int)then ret (-1)else lp n (left-(z l[j]:Int)) ((j+1:Nat):Int))
  (he:∀n left,lp (n+1) left (l.length:Int)=ret left) {n:Nat} {left:Int} (hn:l.length<n) (h0:(l.length:Int)<=left) (h1:left<=1048576):
   lp n (left-(l.length:Int)) 0=ret (if left<((l.length+(l.map z).sum:Nat):Int)then-1 else left-((l.length+(l.map z).sum:Nat):Int)):=by
 refine(Wqm hs he l [] n (left-l.length) rfl hn (by omega) (by omega)).trans ?_
 grind
theorem WgD{α:Type}(f:α->Nat){x:α}:∀{l:List α},x∈l->f x<=(l.map f).sum
 |y::l,h=>by
  rw[List.map_cons,List.sum_cons];rcases List.mem_cons.1 h with h|h
  .grind
  .have:=WgD f h;omega
noncomputable def same{α:Type}(a b:α):Bool:=@decide (a=b) (Classical.propDecidable _)
theorem Wdv{α:Type}(a:α):same a a=true:=by unfold same;simp
theorem WfN{α:Type}{a b:α}:same a b=true↔a=b:=by unfold same;simp
theorem Wdb{α:Type}{a b:α}(h:a≠b):same a b=false:=by unfold same;simp[h]
theorem WqG{α β:Type}(a b:α×β):same a b=(same a.1 b.1&&same a.2 b.2):=by
 rw[Xfs,Bool.and_eq_true,WfN,WfN,WfN,Prod.ext_iff]
theorem WcQ{x y:Int}:(x !=y)= !same x y:=by
 grind [Wdv,Wdb]
theorem WcU{x y:Bool}:beq x y=same x y:=by
 grind [Wdv,Wdb,beq]
theorem Wc9{x y:List UInt8}:seq x y=same x y:=by
 grind [seq,Wdv,Wdb]
theorem WbU{α β:Type}{a b:α×β}{R:Option (Unit×(Bool×Unit))}(h:R=ret (same a.2 b.2)):(bif !same a.1 b.1 then some ((),(false,()))else R)=ret (same a b):=by
 rw[h,WqG];cases same a.1 b.1<;>rfl
theorem Wfw{α:Type}{a b:α}:(bif !same a b then some ((),(false,()))else some ((),(true,())))=ret (same a b):=by
 cases same a b<;>rfl
theorem WbK{α V R:Type}{body:Int->α->V->(V->Option R)->Option R}{K:Int->V->Option R}{E:V->Option R}{z:α}:∀(l:List α) (b:List α) (j:Nat) (v:V),b.length=j+l.length->
  (∀(j:Nat) x (v:V) k,x∈l->body j x v k=bif inb (j:Int) b.length then(bif !same x (b.getD (j:Int).toNat z)then E v else k v)else none)->
  Wbm body K l j v=bif same l (b.drop j)then K ((j+l.length:Nat):Int) v else E v
 | [],b,j,v,hb,h=>by
  have:b.drop j= []:=List.drop_eq_nil_of_le (by simp_all);rw[this,Wdv];rfl
 |x::l,b,j,v,hb,h=>by
  have hj:j<b.length:=by grind
  rw[Wbm,h j x v _ (List.mem_cons_self ..),WB];have e1:decide (j<b.length)=true:=by simp_all
  have e2:b.getD (j:Int).toNat z=b[j]:=by simp[hj]
  have e3:b.drop j=b[j]::b.drop (j+1):=List.drop_eq_getElem_cons hj;rw[e1,e2,e3,WbK l b (j+1) v (by grind) λj y v k hy=>h j y v k (List.mem_cons_of_mem _ hy)];simp only[Wa];by_cases hx:x=b[j]
  .have:same (x::l) (b[j]::b.drop (j+1))=same l (b.drop (j+1)):=by
    rw[Xfs,WfN,WfN,List.cons.injEq];simp_all
   rw[this];have e4:(!same x b[j])=false:=by grind [Wdv]
   rw[e4];simp only[Wc,Xq];rw[show j+1+l.length=j+(l.length+1) by omega]
  grind [same,Wdb,List.cons.inj]
theorem Wgd{α:Type}{l:List α}{j:Nat}(h:j<l.length)(x d:α):(l.set j x).getD j d=x:=by simp[h]
end Go.Sx
