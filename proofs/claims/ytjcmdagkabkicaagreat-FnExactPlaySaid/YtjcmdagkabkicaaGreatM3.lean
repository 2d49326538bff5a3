/- Plain laws. -/
import Derived.Test.YtjcmdagkabkicaaGreatM2

namespace Go.Sx
set_option linter.unusedVariables false
set_option linter.unusedSimpArgs false
def marks{α:Type}(g:Int->α->α)(c:Nat):Int->List α->List α
 |_,[]=>[]
 |k,x::l=>g k x::marks g c (k+c) l
theorem Wez{left:Int}{z1 z2:Nat}{k:Unit×(Int×Unit)->Option (Unit×(Int×Unit))}(h0:0<=left)
  (hk:(z1:Int)<=left->k ((),(left-z1,()))=ret (if left-z1<(z2:Int)then-1 else left-z1-z2)):
  ((ret (if left<(z1:Int)then(-1:Int)else left-z1)).bind λo=>bif decide (o.2.1<(0:Int))then some ((),((-1:Int),()))else k o)=ret (if left<((z1+z2:Nat):Int)then-1 else left-((z1+z2:Nat):Int)):=by
 grind
theorem Wl1{left:Int}(h:0<=left):some ((),(left,()))=ret (if left<((0:Nat):Int)then-1 else left-((0:Nat):Int)):=by
 grind
theorem WsO{α:Type}{l:List α}{z:α->Nat}{lp:Nat->Int->Int->Option (Unit×(Int×Unit))}
  (hs:∀n (left:Int) (j:Nat) (h:j<l.length),0<=left->left<=1048576->lp (n+1) left (j:Int)=if left<(z l[j]:Int)then ret (-1)else lp n (left-(z l[j]:Int)) ((j+1:Nat):Int))
  (he:∀n left,lp (n+1) left (l.length:Int)=ret left):∀(r d:List α) (n:Nat) (left:Int),l=d++r->r.length<n->0<=left->left<=1048576->
   lp n left (d.length:Int)=ret (if left<((r.map z).sum:Int)then-1 else left-((r.map z).sum:Int))
 | [],d,0,left,_,h,_,_=>by simp at h
 | [],d,n+1,left,hl,_,h0,_=>by
  grind
 |x::r,d,0,left,_,h,_,_=>by simp at h
 |x::r,d,n+1,left,hl,hn,h0,h1=>by
  have hj:d.length<l.length:=by grind
  have e1:l[d.length]=x:=by simp[hl]
  rw[hs n left d.length hj h0 h1,e1];simp only[List.length_cons]at hn;by_cases h:left<(z x:Int)
  .rw[Wf h,Wf (by simp;omega)]
  .rw[Wc h];have ih:=WsO hs he r (d++ [x]) n (left-(z x:Int)) (by grind) (by omega) (by omega) (by omega)
   grind
theorem WpM{α:Type}{l:List α}{z:α->Nat}{lp:Nat->Int->Int->Option (Unit×(Int×Unit))}
  (hs:∀n (left:Int) (j:Nat) (h:j<l.length),0<=left->left<=1048576->lp (n+1) left (j:Int)=if left<(z l[j]:Int)then ret (-1)else lp n (left-(z l[j]:Int)) ((j+1:Nat):Int))
  (he:∀n left,lp (n+1) left (l.length:Int)=ret left) {n:Nat} {left:Int} (hn:l.length<n) (h0:(l.length:Int)<=left) (h1:left<=1048576):
   lp n (left-(l.length:Int)) 0=ret (if left<((l.length+(l.map z).sum:Nat):Int)then-1 else left-((l.length+(l.map z).sum:Nat):Int)):=by
 refine(WsO hs he l [] n (left-l.length) rfl hn (by omega) (by omega)).trans ?_
 grind
theorem WbL{α:Type}(f:α->Nat){x:α}:∀{l:List α},x∈l->f x<=(l.map f).sum
 |y::l,h=>by
  rw[List.map_cons,List.sum_cons];rcases List.mem_cons.1 h with h|h
  .grind
  .have:=WbL f h;omega
noncomputable def same{α:Type}(a b:α):Bool:=@decide (a=b) (Classical.propDecidable _)
theorem WgB{α:Type}{l:List α}{j:Nat}(h:j<l.length)(x d:α):(l.set j x).getD j d=x:=by simp[h]
end Go.Sx
