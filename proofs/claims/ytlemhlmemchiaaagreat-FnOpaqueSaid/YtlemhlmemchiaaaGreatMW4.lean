/- Plain laws of the Lean functions. -/
import Derived.Test.YtlemhlmemchiaaaGreatMW3
open List renaming map_cons→Xam,sum_cons→Xdb,mem_cons_of_mem→Xe,mem_cons_self→Xh,length_cons→Xw,getElem_set→Xao,length_set→Xaf,getElem_mem→Xo,getElem_replicate→Xbh,foldl_append→Xen,foldl_cons→Xau,getElem_of_mem→Xbs,mem_append→Xl,mem_singleton→Xx,getElem?_eq_getElem→Xp,getElem?_set_self→Xds,getElem?_set_ne→Xda,take_succ_eq_append_getElem→Xbk,take_length→Xdc,pairwise_cons→Xz,mem_cons→Xq,map_congr_left→Xdp,mem_of_mem_take→Xbw,getD_eq_getElem?_getD→Xac,take_of_length_le→Xbx,map_append→Xr,flatten_append→Xgg,append_assoc→Xbn,getElem_set_self→Xfx,set→Xm,mem_map→Xv,mem_iff_getElem→Xco,getD→Xb,length_map→Xy
open Int renaming le_refl→Xu,toNat_natCast→Xj,toNat→Xa
open Nat renaming le_refl→Xn
open Option renaming bind_some→Xd
open Bool renaming not_true→Xs
namespace Go.Sx
set_option linter.unusedVariables false
set_option linter.unusedSimpArgs false
section
def WcQ(x:Kd):Int:=if x.phase=3 then 0 else 1
def WbZ(c:Int)(x:Kd):Int:=if x.phase≠3/\x.since<c then 1 else 0
def W4(c:Int)(x:Kd):Int:=Wcl x+26*WbZ c x
def Whe(g:Kd->Int)(l:List Kd):Int:=(l.map g).sum
def tri(u:Int):Int:=if u<=1 then 0 else if u=2 then 1 else 3
def Wm9(f:Fm):Int:=Whe WcQ f.kids
def fQ(f:Fm):Int:=Whe (W4 f.clock) f.kids+26*tri (Wm9 f)
def fP(f:Fm)(x:Kd):Int:=Wbd x+75*(WbZ f.clock x+(Wm9 f-1))
theorem WcW{g:Kd->Int}{y:Kd}:∀{l:List Kd} {k:Nat} (h:k<l.length),Whe g (l.set k y)=Whe g l-g l[k]+g y
 |x::l,0,h=>by simp[Whe];omega
 |x::l,k+1,h=>by
  have:=WcW (g:=g) (y:=y) (l:=l) (k:=k) (by simpa using h);simp only[Whe,List.set_cons_succ,Xam,Xdb,List.getElem_cons_succ]at*;omega
theorem Wq5{g h:Kd->Int}:∀{l:List Kd},(∀x∈l,g x<=h x)->Whe g l<=Whe h l
 | [],_=>by simp[Whe]
 |x::l,hl=>by
  have:=Wq5 (l:=l) λy hy=>hl y (Xe _ hy);have:=hl x (Xh ..);simp only[Whe,Xam,Xdb]at*;omega
theorem WnU{g h:Kd->Int}{a:Int}:∀{l:List Kd},Whe (λx=>g x+a*h x) l=Whe g l+a*Whe h l
 | []=>by simp[Whe]
 |x::l=>by
  have:=WnU (g:=g) (h:=h) (a:=a) (l:=l);simp only[Whe,Xam,Xdb,Int.mul_add]at*;omega
theorem Wn7(x:Kd):0<=WcQ x/\WcQ x<=1:=by unfold WcQ;split<;>omega
theorem Wge(c:Int)(x:Kd):0<=WbZ c x/\WbZ c x<=WcQ x:=by
 unfold WbZ WcQ;by_cases h:x.phase=3
 .rw[if_neg (by omega),if_pos h];omega
 .rw[if_neg h];split<;>omega
theorem Wqi(f:Fm):0<=Wm9 f/\Wm9 f<=f.kids.length:=by
 unfold Wm9;have:∀l:List Kd,0<=Whe WcQ l/\Whe WcQ l<=l.length:=λl=>by
  induction l with
  |nil=>simp[Whe]
  |cons x l ih=>
   have:=Wn7 x;simp only[Whe,Xam,Xdb,Xw]at*;omega
 exact this f.kids
theorem Wqx{code:List Opn}{c n:Int}{x:Kd}(h:KOk code c n x)(hl:code.length<=24):0<=Wcl x/\Wcl x<=26/\(x.phase=2->1<=Wcl x/\Wcl x<=25)/\((x.phase=0\/x.phase=1)->Wcl x=26):=by
 have hp:=h.pos;have hs:=h.sl;have bf:=h.pc;have bQ:=h.phase;unfold Wcl;split
 .omega
 .split<;>omega
theorem WtH{code:List Opn}{c n:Int}{x:Kd}(h:KOk code c n x)(hl:code.length<=24)(hb:x.busy=true->x.pb.2.1=1\/x.pb.2.1=2):0<=Wbd x/\Wbd x<=75/\(x.phase=0->1<=Wbd x):=by
 have bf:=h.pc;unfold Wbd;split
 .split
  .have:=hb ‹_›;omega
  .omega
 .omega
structure KD(f:Fm)(k:Nat)(q:Fm×Kd):Prop where
 le:fQ (Fm.put q k)<=fQ f
 p:∀(j:Nat) (h:j<f.kids.length) (h':j<(Fm.put q k).kids.length),WcQ (Fm.put q k).kids[j]=1->fP (Fm.put q k) (Fm.put q k).kids[j]<=fP f f.kids[j]/\WcQ f.kids[j]=1
variable{codes:List (List Opn)}{n:Int}{f:Fm}{x y:Kd}{k:Nat}{q:Fm×Kd}{code:List Opn}
theorem WkF(h:k<f.kids.length)(hk:q.1.kids=f.kids){j:Nat}(hj:j<f.kids.length)(h':j<(Fm.put q k).kids.length):(Fm.put q k).kids[j]=if k=j then q.2 else f.kids[j]:=by
 show(q.1.kids.set k q.2)[j]=_;simp only[hk,Xao]
theorem Wfg(hk:k<f.kids.length)(h1:q.1.kids=f.kids)(hc:q.1.clock=f.clock)(hu:WcQ q.2=WcQ f.kids[k])(hs:W4 f.clock q.2<=W4 f.clock f.kids[k])(hp:WcQ q.2=1->Wbd q.2+75*WbZ f.clock q.2<=Wbd f.kids[k]+75*WbZ f.clock f.kids[k]):
  KD f k q/\Wm9 (Fm.put q k)=Wm9 f/\fQ (Fm.put q k)=fQ f-W4 f.clock f.kids[k]+W4 f.clock q.2:=by
 have e1:(Fm.put q k).kids=f.kids.set k q.2:=by show q.1.kids.set k q.2=_;rw[h1]
 have e2:(Fm.put q k).clock=f.clock:=hc;have e3:Wm9 (Fm.put q k)=Wm9 f:=by unfold Wm9;rw[e1,WcW hk,hu];omega
 have e4:fQ (Fm.put q k)=fQ f-W4 f.clock f.kids[k]+W4 f.clock q.2:=by unfold fQ;rw[e1,e2,e3,WcW hk];omega
 refine⟨⟨by rw[e4];omega,λj h h' hj=>?_⟩,e3,e4⟩;have hg:=WkF hk h1 h h';rw[hg]at hj⊢;unfold fP;rw[e2,e3];by_cases he:k=j
 .subst he;rw[if_pos rfl]at hj⊢;have:=hp hj;rw[hu]at hj;exact⟨by omega,hj⟩
 .rw[if_neg he]at hj⊢;exact⟨Xu _,hj⟩
end
section
structure KE(f:Fm)(k:Nat)(x:Kd)(q:Fm×Kd):Prop where
 d:KD f k q
 s0:x.phase=0->WcQ q.2=1->fP (Fm.put q k) q.2<fP f x
 s2:x.phase=2->fQ (Fm.put q k)<fQ f
 s1:x.phase=1->f.owner=0->fQ (Fm.put q k)<fQ f
 own:q.1.owner=f.owner\/q.1.owner=0\/(q.1.owner=(k:Int)+1/\x.phase=1/\f.owner=0)
 kids:q.1.kids=f.kids
 kt:∀(j:Nat) (h:j<(Fm.put q k).kids.length),KT (Fm.put q k) j (Fm.put q k).kids[j]
variable{codes:List (List Opn)}{n:Int}{f:Fm}{x y:Kd}{k:Nat}{q:Fm×Kd}{code:List Opn}{m:Mm}
theorem WqN(h:q.1.kids=f.kids):(Fm.put q k).kids.length=f.kids.length:=by show(q.1.kids.set k q.2).length=_;rw[h,Xaf]
theorem Wfm(hk:k<f.kids.length)(hT:∀(j:Nat) (h:j<f.kids.length),KT f j f.kids[j])(h1:q.1.kids=f.kids)(hc:q.1.clock=f.clock)(hb:q.1.buf=f.buf)(ho:∀j:Nat,j≠k->(q.1.owner=(j:Int)+1↔f.owner=(j:Int)+1))(hy:KT q.1 k q.2):
  ∀(j:Nat) (h:j<(Fm.put q k).kids.length),KT (Fm.put q k) j (Fm.put q k).kids[j]:=λj h=>by
 have hj:j<f.kids.length:=by rw[WqN h1]at h;exact h
 rw[WkF hk h1 hj h];by_cases he:k=j
 .subst he;rw[if_pos rfl];exact⟨hy.pb,hy.own,hy.seen⟩
 .rw[if_neg he];have ht:=hT j hj;refine⟨ht.pb,?_,λhs e dg=>?_⟩
  .show q.1.owner=(j:Int)+1↔_;rw[ho j (λh=>he h.symm)];exact ht.own
  .show Wt9 q.1.buf e.1=e.2.2;rw[hb];exact ht.seen (hs.trans hc) e dg
theorem Wc2(h:x.phase≠3):WcQ x=1:=by unfold WcQ;rw[if_neg h]
theorem Wky(h:x.phase≠3)(hy:y.phase≠3)(hs:y.since=x.since)(c:Int):WbZ c y=WbZ c x:=by
 unfold WbZ;rw[hs];by_cases hh:x.since<c
 .rw[if_pos ⟨hy,hh⟩,if_pos ⟨h,hh⟩]
 .rw[if_neg (λz=>hh z.2),if_neg (λz=>hh z.2)]
theorem Wb4:WbZ f.clock (f.again x)=0:=by unfold WbZ Fm.again;simp
theorem WfA:Wbd (f.again x)=75:=by unfold Wbd Fm.again;simp
theorem Wef:Wcl (f.again x)=26:=by unfold Wcl Fm.again;simp
theorem WqE(h:x.phase≠3)(hs:x.since<f.clock):WbZ f.clock x=1:=by unfold WbZ;rw[if_pos ⟨h,hs⟩]
theorem Woz{c:Int}:∀{l:List Kd},Whe (W4 (c+1)) l<=Whe (W4 c) l+26*Whe WcQ l:=λ{l}=>by
 have h1:Whe (W4 (c+1)) l<=Whe (λx=>W4 c x+26*WcQ x) l:=Wq5 λx _=>by
  have a:=Wge (c+1) x;have b:=Wge c x;unfold W4;omega
 rw[WnU]at h1;exact h1
theorem Ws6{u:Int}(h:1<=u/\u<=3):tri u=tri (u-1)+(u-1):=by
 unfold tri;have:u=1\/u=2\/u=3:=by omega
 rcases this with rfl|rfl|rfl<;>decide
theorem Wwl(hk:k<f.kids.length)(h3:f.kids.length<=3)(hl:∀c∈codes,c.length<=24)(hF:FOk codes n f)(hT:∀(j:Nat) (h:j<f.kids.length),KT f j f.kids[j])(hx:f.kids[k]=x)(ho:KO f k x q):
  q.1.lost=true\/KE f k x q:=by
 have hlen:(codes.getD k []).length<=24:=by
  have d6:k<codes.length:=by rw[←hF.len];exact hk
  rw[Wh d6];exact hl _ (Xo _)
 have hK:=hF.kid k hk;rw[hx]at hK;have ht:=hT k hk;rw[hx]at ht;obtain⟨c1,c2,c3,c4⟩:=Wqx hK hlen;obtain⟨l1,l2,l3⟩:=WtH hK hlen ht.pb;have we:=Wge f.clock x;cases ho with
 |lost h=>exact .inl h
 |run h0 hs hp hlt hb hse=>
  rename_i y;refine .inr ?_;have uf:y.phase≠3:=by omega
  have eA:x.phase≠3:=by omega
  have aM:=Wky eA uf hs f.clock;have hch:Wcl y=26:=by unfold Wcl;rw[if_neg uf,if_neg (by omega)]
  obtain⟨d1,d2,d3⟩:=Wfg (q:=(f,y)) hk rfl rfl (by rw[hx];rw[Wc2 eA];exact Wc2 uf) (by rw[hx];show W4 f.clock y<=_;unfold W4;rw[aM];omega) (λ_=>by rw[hx];show Wbd y+75*WbZ f.clock y<=_;rw[aM];omega);refine⟨d1,λ_ _=>?_,λh=>by omega,λh=>by omega,.inl rfl,rfl,Wfm hk hT rfl rfl rfl (λ_ _=>Iff.rfl) ⟨hb,?_,λh=>hse (hs▸h)⟩⟩
  .unfold fP;rw[d2];show Wbd y+75*(WbZ f.clock y+_)<_;rw[aM];omega
  .show f.owner=(k:Int)+1↔y.phase=2;rw[ht.own];omega
 |again h0 hs=>
  refine .inr ?_;have eA:x.phase≠3:=by omega
  have lP:=WqE eA hs;obtain⟨d1,d2,d3⟩:=Wfg (q:=(f,f.again x)) hk rfl rfl (by rw[hx];rw[Wc2 eA];exact Wc2 (by show(0:Int)≠3;omega)) (by rw[hx];show W4 f.clock (f.again x)<=_;unfold W4;rw[Wb4,Wef];omega) (λ_=>by rw[hx];show Wbd (f.again x)+75*WbZ f.clock (f.again x)<=_;rw[Wb4,WfA];omega);refine⟨d1,λ_ _=>?_,λh=>by omega,λh=>by omega,.inl rfl,rfl,Wfm hk hT rfl rfl rfl (λ_ _=>Iff.rfl) ⟨(λh=>by cases h),?_,(λh e he=>by cases he)⟩⟩
  .unfold fP;rw[d2];show Wbd (f.again x)+75*(WbZ f.clock (f.again x)+_)<_;rw[Wb4,WfA];have:=l3 h0;omega
  .show f.owner=(k:Int)+1↔(0:Int)=2;rw[ht.own];omega
 |fail h2 hs=>
  refine .inr ?_;have eA:x.phase≠3:=by omega
  have lP:=WqE eA hs;have c:=c3 h2;obtain⟨d1,d2,d3⟩:=Wfg (q:=({f with owner:=0},f.again x)) hk rfl rfl (by rw[hx];rw[Wc2 eA];exact Wc2 (by show(0:Int)≠3;omega)) (by rw[hx];show W4 f.clock (f.again x)<=_;unfold W4;rw[Wb4,Wef];omega) (λ_=>by rw[hx];show Wbd (f.again x)+75*WbZ f.clock (f.again x)<=_;rw[Wb4,WfA];omega);have rZ:=ht.own.2 h2;refine⟨d1,λh=>by omega,λ_=>?_,λh=>by omega,.inr (.inl rfl),rfl,Wfm hk hT rfl rfl rfl (λj hj=>?_) ⟨(λh=>by cases h),?_,(λh e he=>by cases he)⟩⟩
  .rw[d3,hx];show fQ f-W4 f.clock x+W4 f.clock (f.again x)<fQ f;unfold W4;rw[Wb4,Wef];omega
  .show(0:Int)=(j:Int)+1↔f.owner=(j:Int)+1;omega
  .show(0:Int)=(k:Int)+1↔(0:Int)=2;omega
 |ask h1 h0=>
  refine .inr ?_;have eA:x.phase≠3:=by omega
  have aM:WbZ f.clock ({x with phase:=2}:Kd)=WbZ f.clock x:=Wky (x:=x) (y:={x with phase:=2}) eA (by show(2:Int)≠3;omega) rfl _;have hp:=hK.pos;have hch:Wcl ({x with phase:=2}:Kd)=25-x.pos:=rfl;have yo:=c4 (.inr h1);have lY:Wbd ({x with phase:=2}:Kd)=0:=rfl;obtain⟨d1,d2,d3⟩:=Wfg (q:=({f with owner:=(k:Int)+1},{x with phase:=2})) hk rfl rfl (by rw[hx];rw[Wc2 eA];rfl) (by rw[hx];show W4 f.clock ({x with phase:=2}:Kd)<=_;unfold W4;rw[aM,hch];omega) (λ_=>by rw[hx];show Wbd ({x with phase:=2}:Kd)+75*WbZ f.clock ({x with phase:=2}:Kd)<=_;rw[aM,lY];omega);refine⟨d1,λh=>by omega,λh=>by omega,λ_ _=>?_,.inr (.inr ⟨rfl,h1,h0⟩),rfl,Wfm hk hT rfl rfl rfl (λj hj=>?_) ⟨ht.pb,?_,ht.seen⟩⟩
  .rw[d3,hx];show fQ f-W4 f.clock x+W4 f.clock ({x with phase:=2}:Kd)<fQ f;unfold W4;rw[aM,hch];omega
  .show(k:Int)+1=(j:Int)+1↔f.owner=(j:Int)+1;omega
  .show(k:Int)+1=(k:Int)+1↔(2:Int)=2;simp
 |wait h1 h0=>
  refine .inr ?_;have eA:x.phase≠3:=by omega
  obtain⟨d1,d2,d3⟩:=Wfg (q:=(f,x)) hk rfl rfl (by rw[hx]) (by rw[hx];exact Xu _) (λ_=>by rw[hx];exact Xu _);exact⟨d1,λh=>by omega,λh=>by omega,λ_ h=>absurd h h0,.inl rfl,rfl,Wfm hk hT rfl rfl rfl (λ_ _=>Iff.rfl) ht⟩
 |done cX=>
  refine .inr ?_;obtain⟨d1,d2,d3⟩:=Wfg (q:=(f,x)) hk rfl rfl (by rw[hx]) (by rw[hx];exact Xu _) (λ_=>by rw[hx];exact Xu _);exact⟨d1,λh=>by omega,λh=>by omega,λh=>by omega,.inl rfl,rfl,Wfm hk hT rfl rfl rfl (λ_ _=>Iff.rfl) ht⟩
 |look h2 hlt=>
  refine .inr ?_;have eA:x.phase≠3:=by omega
  have aM:WbZ f.clock ({x with pos:=x.pos+1}:Kd)=WbZ f.clock x:=Wky eA eA rfl _;have hch:Wcl ({x with pos:=x.pos+1}:Kd)=Wcl x-1:=by
   unfold Wcl;show(if x.phase=3 then 0 else if x.phase=2 then 25-(x.pos+1)else 26)=_;rw[if_neg eA,if_neg eA,if_pos h2,if_pos h2];omega
  have lY:Wbd ({x with pos:=x.pos+1}:Kd)=Wbd x:=rfl;obtain⟨d1,d2,d3⟩:=Wfg (q:=(f,{x with pos:=x.pos+1})) hk rfl rfl (by rw[hx];rfl) (by rw[hx];show W4 f.clock ({x with pos:=x.pos+1}:Kd)<=_;unfold W4;rw[aM,hch];omega) (λ_=>by rw[hx];show Wbd ({x with pos:=x.pos+1}:Kd)+75*WbZ f.clock ({x with pos:=x.pos+1}:Kd)<=_;rw[aM,lY];omega);refine⟨d1,λh=>by omega,λ_=>?_,λh=>by omega,.inl rfl,rfl,Wfm hk hT rfl rfl rfl (λ_ _=>Iff.rfl) ⟨ht.pb,ht.own,ht.seen⟩⟩;rw[d3,hx];show fQ f-W4 f.clock x+W4 f.clock ({x with pos:=x.pos+1}:Kd)<fQ f;unfold W4;rw[aM,hch];omega
 |merge h2=>
  refine .inr ?_;have eA:x.phase≠3:=by omega
  have c:=c3 h2;obtain⟨z,hz⟩:∃z,z=(Wa1 f x k).2:=⟨_,rfl⟩;have z3:z.phase=3:=by rw[hz];rfl
  have ug:WcQ z=0:=by unfold WcQ;rw[if_pos z3]
  have rN:WcQ x=1:=Wc2 eA;have e1:(Fm.put (Wa1 f x k) k).kids=f.kids.set k z:=by rw[hz];rfl
  have e2:(Fm.put (Wa1 f x k) k).clock=f.clock+1:=rfl;have e3:Wm9 (Fm.put (Wa1 f x k) k)=Wm9 f-1:=by unfold Wm9;rw[e1,WcW hk,hx,ug,rN];omega
  have hs0:W4 (f.clock+1) z=0:=by unfold W4 Wcl WbZ;rw[if_pos z3,if_neg (by omega)];rfl
  have hub:=Wqi f;have uh:=Wqi (Fm.put (Wa1 f x k) k);rw[e3]at uh;have e4:fQ (Fm.put (Wa1 f x k) k)<fQ f:=by
   unfold fQ;rw[e1,e2,e3,WcW hk,hs0,hx];have yp:=Woz (c:=f.clock) (l:=f.kids);have h1:=Woz (c:=f.clock) (l:=f.kids.set k z);rw[WcW hk,WcW hk,WcW hk,hx,hs0,ug,rN]at h1;have ua:W4 f.clock z=0:=by unfold W4 Wcl WbZ;rw[if_pos z3,if_neg (by omega)];rfl
   rw[ua]at h1;have q7:=Ws6 (u:=Wm9 f) (by omega);have hsh:1<=W4 f.clock x:=by unfold W4;omega
   have ku:Whe WcQ f.kids=Wm9 f:=rfl;rw[ku]at h1;omega
  refine⟨⟨Int.le_of_lt e4,λj h h' hj=>?_⟩,λh=>by omega,λ_=>e4,λh=>by omega,.inr (.inl rfl),rfl,λj h=>?_⟩
  .have hg:=WkF (q:=Wa1 f x k) hk rfl h h';rw[hg]at hj⊢;by_cases he:k=j
   .rw[if_pos he,←hz,ug]at hj;omega
   .rw[if_neg he]at hj⊢;refine⟨?_,hj⟩;unfold fP;rw[e2,e3];have a:=Wge (f.clock+1) f.kids[j];have b:=Wge f.clock f.kids[j];have:=Wn7 f.kids[j];omega
  .have hj:j<f.kids.length:=by rw[WqN (q:=Wa1 f x k) rfl]at h;exact h
   rw[WkF (q:=Wa1 f x k) hk rfl hj h];have rZ:=ht.own.2 h2;by_cases he:k=j
   .subst he;rw[if_pos rfl];refine⟨ht.pb,?_,λhs=>?_⟩
    .show(0:Int)=(k:Int)+1↔(3:Int)=2;omega
    .have:=hK.since;change x.since=f.clock+1 at hs;omega
   .rw[if_neg he];have wu:=hT j hj;refine⟨wu.pb,?_,λhs=>?_⟩
    .show(0:Int)=(j:Int)+1↔_;rw[←wu.own];omega
    .have:=(hF.kid j hj).since;change f.kids[j].since=f.clock+1 at hs;omega
end
section
variable{codes:List (List Opn)}{n:Int}{f g:Fm}{m:Mm}{k:Nat}
theorem Wje{code:List Opn}(h:f.lost=true):WaI m f k code=f:=by unfold WaI;rw[if_pos h]
end
section
section
variable{c:Cm}{m:Mm}{n ph:Int}
end
end
section
variable{codes:List (List Opn)}{n:Int}{f g:Fm}{m:Mm}
end
section
structure RT(x:Rt):Prop where
 pb:x.busy=true->x.pb.2.1=1\/x.pb.2.1=2
 fam:x.phase=2->x.fam.lost=true\/∀(j:Nat) (h:j<x.fam.kids.length),KT x.fam j x.fam.kids[j]
 cm:x.phase=5->x.cm.phase≠6/\x.cm.phase≠8
variable{w:Wo}{x y:Rt}{k:Nat}{p:Pg}{n:Int}{o:Opn}
end
section
variable{w:Wo}{x y:Rt}{k:Nat}{p:Pg}{n:Int}{o:Opn}
end
section
variable{w:Wo}{x y:Rt}{k:Nat}{p:Pg}{n:Int}{o:Opn}
end
section
variable{w:Wo}{x y:Rt}{k:Nat}{p:Pg}{n:Int}{o:Opn}
theorem RT.of(h:RT x)(hb:y.busy=x.busy)(hp:y.pb=x.pb)(h2:y.phase≠2)(h5:y.phase≠5):RT y:=
 ⟨λhy=>by rw[hp];exact h.pb (hb▸hy),λhy=>absurd hy h2,λhy=>absurd hy h5⟩
theorem RT.no(hb:y.busy=false)(h2:y.phase≠2)(h5:y.phase≠5):RT y:=
 ⟨(λhy=>by rw[hb]at hy;cases hy),λhy=>absurd hy h2,λhy=>absurd hy h5⟩
theorem WeH:RT (Wdd x):=RT.no rfl (by show(6:Int)≠2;omega) (by show(6:Int)≠5;omega)
theorem WgL:RT (W0 x):=by
 unfold W0;split
 .exact WeH
 .exact RT.no rfl (by show(3:Int)≠2;omega) (by show(3:Int)≠5;omega)
theorem Wmq(h:RT x){out:Int}:RT (WbS w x k out).2:=by
 unfold WbS;simp only;generalize (if out=2 then []else x.writes)=rows;split
 .exact h.of rfl rfl (by show(8:Int)≠2;omega) (by show(8:Int)≠5;omega)
 .refine⟨h.pb,λhy=>by(change (5:Int)=2 at hy;omega),λ_=>?_⟩;have e:(Wcv ((k:Int)+1) x.rv rows x.reads).phase=if(WbR rows).length=0 then 2 else 1:=rfl;show(Wcv ((k:Int)+1) x.rv rows x.reads).phase≠6/\(Wcv ((k:Int)+1) x.rv rows x.reads).phase≠8;rw[e];split<;>omega
theorem Wsr(h:RT x)(h1:x.phase=1):RT (Weu w x o):=by
 have hn:∀y:Rt,y.phase=1->y.phase≠2/\y.phase≠5:=λy hy=>by omega
 unfold Weu;cases WaH x.writes o.2.2.1 with
 |some v=>exact h.of rfl rfl (hn _ h1).1 (hn _ h1).2
 |none=>
  simp only;have hq:0<=(if x.busy=true then x.pb else(o.2.2.1,0,0,0)).2.1/\(if x.busy=true then x.pb else(o.2.2.1,0,0,0)).2.1<=2:=by
   split
   .have:=h.pb ‹_›;omega
   .simp
  have hs:=WrT (m:=w.mem) (rv:=x.rv) hq;generalize (if x.busy=true then x.pb else(o.2.2.1,0,0,0))=q0 at*;generalize WO w.mem x.rv q0=q at*;split
  .exact WgL
  .split
   .exact RT.no rfl (hn _ h1).1 (hn _ h1).2
   .exact⟨λ_=>by show q.2.1=1\/q.2.1=2;omega,λhy=>absurd hy (hn _ h1).1,λhy=>absurd hy (hn _ h1).2⟩
theorem Wqt{rv:Int}{regs:List Int}{writes:List Rw}{u:Nat}(j:Nat)(h:j<(WaZ rv regs writes u).kids.length):KT (WaZ rv regs writes u) j (WaZ rv regs writes u).kids[j]:=by
 have e:(WaZ rv regs writes u).kids[j]={regs:=regs}:=by simp only[WaZ,Xbh]
 rw[e];refine⟨(λh=>by cases h),?_,λ_ e he=>by cases he⟩;show(0:Int)=(j:Int)+1↔(0:Int)=2;omega
theorem Wvd(h:RT x)(h1:x.phase=1):RT (Wk5 w x k p).2:=by
 have hn:∀y:Rt,y.phase=1->y.phase≠2/\y.phase≠5:=λy hy=>by omega
 unfold Wk5;split
 .exact Wmq h
 .simp only;generalize opN p.1 x.pc=o;split
  .exact Wsr h h1
  .split
   .unfold Wdg;split
    .exact Wmq h
    .split
     .exact h.of rfl rfl (hn _ h1).1 (hn _ h1).2
     .exact h.of rfl rfl (hn _ h1).1 (hn _ h1).2
   .split
    .exact⟨h.pb,λ_=>.inr λj hj=>Wqt j hj,λhy=>by(change (2:Int)=5 at hy;omega)⟩
    .split
     .unfold Wc4;cases Wb0 w.holds ((k:Int)+1) (WbN o).1 (WbN o).2 with
      |none=>exact WgL
      |some hs=>exact h.of rfl rfl (hn _ h1).1 (hn _ h1).2
     .repeat' split
      all_goals exact h.of rfl rfl (hn _ h1).1 (hn _ h1).2
theorem Wpx(h:RT x)(h5:x.phase=5):RT (Waz w x k).2:=by
 unfold Waz;split
 .simp only;split
  .exact WeH
  .rename_i h8;refine⟨h.pb,λhy=>by(change x.phase=2 at hy;omega),λ_=>⟨?_,h8⟩⟩;have:=(h.cm h5).1;show(W6 x.cm).phase≠6;unfold W6 Wam
   repeat' split
   all_goals first|(simp only;omega)|exact this
 .show RT (Wbm {x with cm:=(Ws w.mem x.cm).2});generalize (Ws w.mem x.cm).2=c;unfold Wbm;split
  .exact WeH
  .rename_i h8;split
   .have:(if x.fate=2 then(6:Int)else 7)≠2/\(if x.fate=2 then(6:Int)else 7)≠5:=by split<;>omega
    exact h.of rfl rfl this.1 this.2
   .rename_i h6;exact⟨h.pb,λhy=>by(change x.phase=2 at hy;omega),λ_=>⟨h6,h8⟩⟩
theorem Wsv(h:RT x):RT (Wai w x k p).2:=by
 unfold Wai;by_cases hd:x.doomed=true/\1<=x.phase/\x.phase<=4
 .rw[if_pos hd];exact WeH
 rw[if_neg hd];by_cases h0:x.phase=0
 .rw[if_pos h0];unfold Weh;split
  .exact h
  .split
   .exact h
   .split
    .exact h
    .exact RT.no rfl (by show(1:Int)≠2;omega) (by show(1:Int)≠5;omega)
 rw[if_neg h0];by_cases h1:x.phase=1
 .rw[if_pos h1];exact Wvd h h1
 rw[if_neg h1];by_cases h2:x.phase=2
 .rw[if_pos h2];show RT (Wd5 x);unfold Wd5;split
  .exact WeH
  .split
   .exact h.of rfl rfl (by show(1:Int)≠2;omega) (by show(1:Int)≠5;omega)
   .exact h
 rw[if_neg h2];by_cases h3:x.phase=3
 .rw[if_pos h3];unfold WbG;split
  .exact h.of rfl rfl (by show x.phase≠2;omega) (by show x.phase≠5;omega)
  .exact h.of rfl rfl (by show(4:Int)≠2;omega) (by show(4:Int)≠5;omega)
 rw[if_neg h3];by_cases h4:x.phase=4
 .rw[if_pos h4];show RT (Wa5 w x);unfold Wa5;simp only;split
  .split
   .exact WeH
   .exact h.of rfl rfl (by show x.phase≠2;omega) (by show x.phase≠5;omega)
  .exact h.of rfl rfl (by show(1:Int)≠2;omega) (by show(1:Int)≠5;omega)
 rw[if_neg h4];by_cases h5:x.phase=5
 .rw[if_pos h5];exact Wpx h h5
 rw[if_neg h5];by_cases h6:x.phase=6
 .rw[if_pos h6];by_cases hz:x.undos.length>0
  .rw[if_pos hz];exact h.of rfl rfl (by show x.phase≠2;omega) (by show x.phase≠5;omega)
  .rw[if_neg hz];exact h.of rfl rfl (by show(7:Int)≠2;omega) (by show(7:Int)≠5;omega)
 rw[if_neg h6];by_cases h7:x.phase=7
 .rw[if_pos h7];by_cases hf:x.fate=0
  .rw[if_pos hf];exact RT.no rfl (by show(0:Int)≠2;omega) (by show(0:Int)≠5;omega)
  .rw[if_neg hf];exact h.of rfl rfl (by show(8:Int)≠2;omega) (by show(8:Int)≠5;omega)
 .rw[if_neg h7];exact h
end
section
variable{w:Wo}{x y:Rt}{k:Nat}{p:Pg}{n:Int}{o:Opn}{f:Fm}{codes:List (List Opn)}
end
section
def Wwy(m:Mm)(rv:Int):Prop:=∀i,0<=i->i<=7->(Wm m i).2.2=0/\(Wm m i).2.1<=rv
def pbV(m:Mm)(b:Bool)(q:Pb):Prop:=b=true->(0<=q.1/\q.1<=7)/\q.2.2.1=(Wm m q.1).2.1
variable{m:Mm}{rv:Int}{q:Pb}{o:Opn}{x:Kd}{f:Fm}{k:Nat}{code:List Opn}{codes:List (List Opn)}{n:Int}
structure FGd(m:Mm)(f:Fm):Prop where
 lost:f.lost=false
 free:Wwy m f.rv
 kid:∀(k:Nat) (h:k<f.kids.length),pbV m f.kids[k].busy f.kids[k].pb
end
section
structure CGd(m:Mm)(c:Cm):Prop where
 ph:1<=c.phase/\c.phase<=5
 sole:∀i,0<=i->i<=7->owner m i=0\/owner m i=c.who
 ver:c.phase<=3->∀i,0<=i->i<=7->(Wm m i).2.1<=c.rv
variable{m:Mm}{c:Cm}
end
section
structure RGd(m:Mm)(x:Rt):Prop where
 dm:x.doomed=false
 sp:x.spare=0
 ph:x.phase=1\/x.phase=2\/x.phase=5\/x.phase=6\/x.phase=7
 run:x.phase=1\/x.phase=2->Wwy m x.rv/\pbV m x.busy x.pb
 fam:x.phase=2->FGd m x.fam
 cm:x.phase=5->CGd m x.cm
 ft:x.phase=5\/x.phase=6\/x.phase=7->x.fate≠0
variable{w:Wo}{x y:Rt}{k:Nat}{p:Pg}{n:Int}{o:Opn}
theorem RGd.on{m:Mm}(h:RGd m x)(h1:x.phase=1)(hy:y.phase=1)(hd:y.doomed=x.doomed)(hs:y.spare=x.spare)(hr:y.rv=x.rv)(hv:pbV m y.busy y.pb):RGd m y:=
 ⟨hd.trans h.dm,hs.trans h.sp,.inl hy,λ_=>⟨by rw[hr];exact(h.run (.inl h1)).1,hv⟩,λh2=>by omega,λh2=>by omega,λh2=>by omega⟩
end
section
variable{s:Sc}{w v:Wo}{n:Int}{a:Ac}{x y:Rt}{k:Nat}{p:Pg}{f:Fm}{codes:List (List Opn)}{m:Mm}
theorem WtB(hm:WZ m=true)(bD:∀c∈codes,KC c)(h3:codes.length<=3)(hF:FOk codes n f)(hT:∀(j:Nat) (h:j<f.kids.length),KT f j f.kids[j])(hk:k<codes.length):
  (WaI m f k (codes.getD k [])).lost=true\/∀(j:Nat) (h:j<(WaI m f k (codes.getD k [])).kids.length),KT (WaI m f k (codes.getD k [])) j (WaI m f k (codes.getD k [])).kids[j]:=by
 have hlen:=hF.len;have d6:k<f.kids.length:=by omega
 by_cases hlost:f.lost=true
 .exact .inl (by rw[Wje hlost];exact hlost)
 have aC:codes.getD k []=codes[k]:=Wh hk _;have hKO:=hF.kid k d6;rw[aC]at hKO;have ho:=Wut (m:=m) (bD _ (Xo hk)) hF hKO (hT k d6);have hE:=Wwl d6 (by omega) (λc hc=>(bD c hc).toCC.len) hF hT rfl ho;have aM:WaI m f k (codes.getD k [])=Fm.put (Wbc m f f.kids[k] k codes[k]) k:=by
  unfold WaI;rw[if_neg hlost,aC,show f.kids.getD k {}=f.kids[k]from Wh d6 _]
 rw[aM];rcases hE with hE|hE
 .exact .inl hE
 .exact .inr hE.kt
theorem Wpv{c:Cm}(hm:WZ m=true):(Ws m c).1.1<=m.1+1:=by
 have ht:(tick m).1.1<=m.1+1:=by unfold tick;split<;>(simp only;omega)
 unfold Ws;simp only;by_cases p1:c.phase=1
 .rw[if_pos p1];split<;>(show m.1<=m.1+1;omega)
 rw[if_neg p1];by_cases p2:c.phase=2
 .rw[if_pos p2];split<;>exact ht
 rw[if_neg p2];by_cases p3:c.phase=3
 .rw[if_pos p3];split<;>(show m.1<=m.1+1;omega)
 rw[if_neg p3];by_cases p4:c.phase=4
 .rw[if_pos p4];unfold WbT;split<;>(show m.1<=m.1+1;omega)
 rw[if_neg p4];by_cases p5:c.phase=5
 .rw[if_pos p5];unfold War;split<;>(show m.1<=m.1+1;omega)
 rw[if_neg p5];by_cases p7:c.phase=7
 .rw[if_pos p7];unfold War;split<;>(show m.1<=m.1+1;omega)
 rw[if_neg p7];show m.1<=m.1+1;omega
theorem Wi9{out:Int}:(WbS w x k out).1.mem=w.mem:=by
 unfold WbS;simp only;generalize (if out=2 then []else x.writes)=rows;split<;>rfl
theorem Wrb:(Wai w x k p).1.mem=w.mem\/(x.phase=5/\(Wai w x k p).1.mem=(Ws w.mem x.cm).1):=by
 unfold Wai;by_cases hd:x.doomed=true/\1<=x.phase/\x.phase<=4
 .rw[if_pos hd];exact .inl rfl
 rw[if_neg hd];by_cases h0:x.phase=0
 .rw[if_pos h0];left;unfold Weh;repeat' split
  all_goals rfl
 rw[if_neg h0];by_cases h1:x.phase=1
 .rw[if_pos h1];left;unfold Wk5;split
  .exact Wi9
  .simp only;generalize opN p.1 x.pc=o;split
   .rfl
   .split
    .unfold Wdg;split
     .exact Wi9
     .split<;>rfl
    .split
     .rfl
     .split
      .unfold Wc4;cases Wb0 w.holds ((k:Int)+1) (WbN o).1 (WbN o).2<;>rfl
      .repeat' split
       all_goals rfl
 rw[if_neg h1];by_cases h2:x.phase=2
 .rw[if_pos h2];exact .inl rfl
 rw[if_neg h2];by_cases h3:x.phase=3
 .rw[if_pos h3];left;unfold WbG;split<;>rfl
 rw[if_neg h3];by_cases h4:x.phase=4
 .rw[if_pos h4];exact .inl rfl
 rw[if_neg h4];by_cases h5:x.phase=5
 .rw[if_pos h5];unfold Waz;split
  .exact .inl rfl
  .exact .inr ⟨h5,rfl⟩
 rw[if_neg h5];left;by_cases h6:x.phase=6
 .rw[if_pos h6];split<;>rfl
 rw[if_neg h6];by_cases h7:x.phase=7
 .rw[if_pos h7];split<;>rfl
 .rw[if_neg h7]
structure WT(w:Wo):Prop where
 root:∀(k:Nat) (h:k<w.roots.length),RT w.roots[k]
 clk:w.mem.1<=w.now
theorem Wp6{w0:Wo}{q:Wo×Rt}(hx:WT w0)(hr:q.1.roots=w0.roots)(hq:RT q.2)(hc:q.1.mem.1<=q.1.now):WT (Wo.put q k):=by
 refine⟨λi hi=>?_,hc⟩;change i<(q.1.roots.set k q.2).length at hi;have rY:i<w0.roots.length:=by rw[Xaf,hr]at hi;exact hi
 show RT ((q.1.roots.set k q.2)[i]'hi);rw[Xao];split
 .exact hq
 .simp only[hr];exact hx.root i rY
theorem Wvc(h:WOk s.2.1 n w)(hx:WT w):WT (Wgu s w a):=by
 have ey:WT {w with now:=w.now+1}:=⟨hx.root,by have:=hx.clk;show w.mem.1<=w.now+1;omega⟩;unfold Wgu;simp only;split
 .rename_i hb;have hk:a.2.1.toNat<w.roots.length:=by omega
  have hR:=hx.root _ hk;have nZ:a.2.1.toNat<s.2.1.length:=by rw[←h.len];exact hk
  rw[Wh hk];split
  .unfold Wkx;rw[Wh (show a.2.1.toNat<({w with now:=w.now+1}:Wo).roots.length from hk)];have aM:=WkS (w:={w with now:=w.now+1}) (k:=a.2.1.toNat) (Wly h.progs nZ) ⟨h.mem,h.shelf,h.holds⟩ (h.root _ hk) (by have:=h.l4;omega) h.n0;refine Wp6 ey (Wjo h hk) (Wsv hR) ?_;have q8:(Wai {w with now:=w.now+1} w.roots[a.2.1.toNat] a.2.1.toNat (s.2.1.getD a.2.1.toNat pg0)).1.now=w.now+1:=aM.now;rw[q8];have cA:=hx.clk;rcases Wrb (w:={w with now:=w.now+1}) (x:=w.roots[a.2.1.toNat]) (k:=a.2.1.toNat) (p:=s.2.1.getD a.2.1.toNat pg0)with e|⟨_,e⟩
   .rw[e];show w.mem.1<=w.now+1;omega
   .rw[e];have:=Wpv (m:=w.mem) (c:=w.roots[a.2.1.toNat].cm) h.mem;show(Ws w.mem w.roots[a.2.1.toNat].cm).1.1<=w.now+1;omega
  .split
   .split
    .rename_i hc;unfold Wwt;refine Wp6 (w0:={w with now:=w.now+1}) ey rfl ?_ ey.clk;refine⟨hR.pb,λ_=>?_,λh5=>by(change w.roots[a.2.1.toNat].phase=5 at h5;omega)⟩;have hp:=Wly h.progs nZ;have hF:=((h.root _ hk).live (by omega)).fork hc.1;rcases hR.fam hc.1 with hl|hT
     .left;show(WaI w.mem w.roots[a.2.1.toNat].fam a.2.2.toNat _).lost=true;rw[Wje hl];exact hl
     .exact WtB h.mem hp.kids hp.k3 hF.2.2 hT (by omega)
    .exact ey
   .split
    .split
     .exact Wp6 (w0:={w with now:=w.now+1}) ey rfl ⟨hR.pb,hR.fam,hR.cm⟩ ey.clk
     .exact ey
    .exact ey
 .exact ey
theorem WuZ:WT (Wgg s):=⟨λi h=>by
 simp only[Wgg,Xbh];exact RT.no rfl (by show(0:Int)≠2;omega) (by show(0:Int)≠5;omega),Xu _⟩
end
section
def pick(l:List Rw)(i:Int):Option Int:=(l.find? λr=>decide (r.1=i)).map (·.2)
def Wei(i v:Int)(r:Int×Int)(h:Wr):Int×Int:=match pick h.2.2 i with
 |some x=>if h.1<=v/\r.1<h.1 then(h.1,x)else r
 |none=>r
def bst(b i v:Int)(H:List Wr):Int×Int:=H.foldl (Wei i v) (0,b)
def top(b i:Int)(H:List Wr):Int×Int:=bst b i 2000000 H
section
variable{b i v v':Int}{H:List Wr}{h:Wr}{l:List Rw}
theorem WjH:bst b i v (H++ [h])=Wei i v (bst b i v H) h:=by unfold bst;rw[Xen];rfl
theorem Wi7(r:Int×Int):Wei i v r h=r\/(∃x,pick h.2.2 i=some x/\h.1<=v/\r.1<h.1/\Wei i v r h=(h.1,x)):=by
 unfold Wei;cases hp:pick h.2.2 i with
 |none=>exact .inl rfl
 |some x=>
  simp only;split
  .rename_i hc;exact .inr ⟨x,rfl,hc.1,hc.2,rfl⟩
  .exact .inl rfl
theorem WvN(hv:0<=v):0<=(bst b i v H).1/\(bst b i v H).1<=v/\((bst b i v H).1=0\/∃h∈H,h.1=(bst b i v H).1):=by
 have key:∀(l:List Wr) (r:Int×Int),0<=r.1->r.1<=v->0<=(l.foldl (Wei i v) r).1/\(l.foldl (Wei i v) r).1<=v/\((l.foldl (Wei i v) r).1=r.1\/∃h∈l,h.1=(l.foldl (Wei i v) r).1):=by
  intro l
  induction l with
  |nil=>intro r h0 h1;exact⟨h0,h1,.inl rfl⟩
  |cons h l ih=>
   intro r h0 h1;rw[Xau];rcases Wi7 (i:=i) (v:=v) (h:=h) r with e|⟨x,_,e1,e2,e3⟩
   .rw[e];obtain⟨a,c,d⟩:=ih r h0 h1;refine⟨a,c,d.imp_right λ⟨g,hg,e⟩=>⟨g,Xe _ hg,e⟩⟩
   .rw[e3];obtain⟨a,c,d⟩:=ih (h.1,x) (by show 0<=h.1;omega) e1;refine⟨a,c,.inr ?_⟩;rcases d with d|⟨g,hg,e⟩
    .exact⟨h,Xh ..,d.symm⟩
    .exact⟨g,Xe _ hg,e⟩
 exact key H (0,b) (Xu _) hv
theorem WkI(hv:v<=v'):∀(H:List Wr),(bst b i v' H).1<=v->bst b i v H=bst b i v' H:=by
 have key:∀(l:List Wr) (r r':Int×Int),(r.1<=r'.1)->(r'.1<=v->r=r')->(l.foldl (Wei i v') r').1<=v->l.foldl (Wei i v) r=l.foldl (Wei i v') r':=by
  intro l
  induction l with
  |nil=>intro r r' _ h hle;exact h hle
  |cons h l ih=>
   intro r r' h1 h2 hle;rw[Xau,Xau];rw[Xau]at hle;refine ih _ _ ?_ ?_ hle
   .unfold Wei;cases pick h.2.2 i with
    |none=>exact h1
    |some x=>
     simp only;split<;>split<;>(try simp only)<;>omega
   .unfold Wei;cases pick h.2.2 i with
    |none=>exact h2
    |some x=>
     simp only;intro hle;split at hle
     .rename_i hc;simp only at hle;rw[if_pos hc,if_pos ⟨hle,by omega⟩]
     .rename_i hc;rw[if_neg hc,if_neg (by have:=h2 hle;rw[this];intro hz;exact hc ⟨by omega,hz.2⟩)];exact h2 hle
 intro H hle;exact key H (0,b) (0,b) (Xu _) (λ_=>rfl) hle
theorem Whr{x:Int}(h:pick l i=some x):(i,x)∈l:=by
 unfold pick at h;cases hf:l.find? λr=>decide (r.1=i)with
 |none=>rw[hf]at h;cases h
 |some r=>
  rw[hf]at h;have h1:=List.find?_some hf;have h2:=List.mem_of_find?_eq_some hf;simp only[decide_eq_true_eq]at h1;cases h;obtain⟨a,d⟩:=r;simp only at h1;subst h1;exact h2
structure CmR(c:Cm):Prop where
 rows:WcP c.puts
 pup:c.puts.Pairwise λa b=>a.1<b.1
theorem CmOk.r{c:Cm}(h:CmOk c):CmR c:=⟨h.rows,h.pup⟩
theorem CmR.inj{c:Cm}(h:CmR c){a b:Nat}(ha:a<c.puts.length)(hb:b<c.puts.length)(e:c.puts[a].1=c.puts[b].1):a=b:=by
 have hp:=List.pairwise_iff_getElem.1 h.pup;rcases Nat.lt_trichotomy a b with h1|h1|h1
 .have:=hp a b ha hb h1;omega
 .exact h1
 .have:=hp b a hb ha h1;omega
theorem Wuv{c:Cm}(h:CmR c){j:Nat}(hj:j<c.puts.length):pick c.puts c.puts[j].1=some c.puts[j].2:=by
 cases hp:pick c.puts c.puts[j].1 with
 |none=>
  unfold pick at hp;rw[Option.map_eq_none_iff,List.find?_eq_none]at hp;exact absurd (by simp) (hp _ (Xo hj))
 |some x=>
  obtain⟨l,hl,e⟩:=Xbs (Whr hp);have:=h.inj hl hj (by rw[e]);subst this;rw[e]
end
structure MI(b:Int->Int)(m:Mm)(H:List Wr)(C:Nat->Option Cm):Prop where
 st:∀h∈H,1<=h.1/\h.1<=m.1
 fr:∀k c,C k=some c->c.phase=3->1<=c.wv/\c.wv<=m.1/\∀h∈H,h.1≠c.wv
 fr2:∀k k' c c',k≠k'->C k=some c->C k'=some c'->c.phase=3->c'.phase=3->c.wv≠c'.wv
 cell:∀i,0<=i->i<=7->(∀k c,C k=some c->c.phase=4\/c.phase=5->¬lkd c i)->(Wm m i).1=(top (b i) i H).2/\(Wm m i).2.1=(top (b i) i H).1
 sto:∀k c,C k=some c->c.phase=4\/c.phase=5->∀(j:Nat) (hj:j<c.puts.length),lkA c j->top (b c.puts[j].1) c.puts[j].1 H=(c.wv,c.puts[j].2)/\(Wm m c.puts[j].1).2.1<c.wv/\(c.phase=5\/(j:Int)<c.pos->(Wm m c.puts[j].1).1=c.puts[j].2)
def CL2(m:Mm)(C:Nat->Option Cm):Prop:=∀k c,C k=some c->CmR c/\c.who=(k:Int)+1/\CmLk m c
structure RC(b:Int->Int)(m:Mm)(H:List Wr)(C:Nat->Option Cm)(v i x:Int):Prop where
 val:x=(bst (b i) i v H).2
 clk:v<=m.1
 no:∀k c,C k=some c->c.phase=3->c.wv<=v->pick c.puts i=none
def WdX(C:Nat->Option Cm)(k:Nat)(o:Option Cm):Nat->Option Cm:=λj=>if j=k then o else C j
section
variable{b:Int->Int}{m m':Mm}{H:List Wr}{C:Nat->Option Cm}{k:Nat}{c c':Cm}{o:Option Cm}{v i x:Int}
theorem Wat:WdX C k o k=o:=if_pos rfl
theorem WP{j:Nat}(h:j≠k):WdX C k o j=C j:=if_neg h
theorem MI.k1(h:MI b m H C)(hc:∀c,C k=some c->c.phase≠4/\c.phase≠5)(ho:∀c',o=some c'->c'.phase≠3/\c'.phase≠4/\c'.phase≠5)
  (h1:m'.1=m.1) (hm:∀i,0<=i->i<=7->(Wm m' i).1=(Wm m i).1/\(Wm m' i).2.1=(Wm m i).2.1) (hr:∀k c,C k=some c->CmR c):MI b m' H (WdX C k o):=by
 have key:∀j d,WdX C k o j=some d->d.phase=3\/d.phase=4\/d.phase=5->j≠k/\C j=some d:=λj d hj hp=>by
  by_cases e:j=k
  .subst e;rw[Wat]at hj;have:=ho d hj;omega
  .rw[WP e]at hj;exact⟨e,hj⟩
 refine⟨λg hg=>by rw[h1];exact h.st g hg,λj d hj h3=>?_,λj j' d d' hne hj hj' h3 cX=>?_,λi h0 h7 cG=>?_,λj d hj hp l hl ha=>?_⟩
 .rw[h1];exact h.fr j d (key j d hj (.inl h3)).2 h3
 .exact h.fr2 j j' d d' hne (key j d hj (.inl h3)).2 (key j' d' hj' (.inl cX)).2 h3 cX
 .obtain⟨e1,e2⟩:=hm i h0 h7;rw[e1,e2];refine h.cell i h0 h7 λj d hj hp=>?_;by_cases e:j=k
  .subst e;have:=hc d hj;omega
  .exact cG j d (by rw[WP e];exact hj) hp
 .have hk:=(key j d hj (.inr hp)).2;have hrow:=(hr j d hk).rows _ (Xo hl);obtain⟨e1,e2⟩:=hm _ hrow.1.1 hrow.1.2;rw[e1,e2];exact h.sto j d hk hp l hl ha
theorem RC.k1(h:RC b m H C v i x)(ho:∀c',o=some c'->c'.phase≠3)(h1:m'.1=m.1):RC b m' H (WdX C k o) v i x:=
 ⟨h.val,by rw[h1];exact h.clk,λj d hj h3 hw=>by
  by_cases e:j=k
  .subst e;rw[Wat]at hj;exact absurd h3 (ho d hj)
  .rw[WP e]at hj;exact h.no j d hj h3 hw⟩
theorem MI.k2(h:MI b m H C)(hc:C k=some c)(h2:c.phase=2)(h3:c'.phase=3)(hw:c'.wv=m.1+1)(h0:0<=m.1):MI b (m.1+1,m.2) H (WdX C k (some c')):=by
 have aq:∀i,Wm (m.1+1,m.2) i=Wm m i:=λ_=>rfl;refine⟨λg hg=>by have:=h.st g hg;show 1<=g.1/\g.1<=m.1+1;omega,λj d hj cX=>?_,λj j' d d' hne hj hj' h3 cX=>?_,λi h0 h7 cG=>?_,λj d hj hp l hl ha=>?_⟩
 .by_cases e:j=k
  .subst e;rw[Wat]at hj;cases hj;refine⟨by omega,by show c'.wv<=m.1+1;omega,λg hg=>by have:=h.st g hg;omega⟩
  .rw[WP e]at hj;have:=h.fr j d hj cX;exact⟨this.1,by show d.wv<=m.1+1;omega,this.2.2⟩
 .have w1:∀j d,WdX C k (some c') j=some d->d.phase=3->j≠k->d.wv<=m.1:=λj d hj h3 e=>by
   rw[WP e]at hj;exact(h.fr j d hj h3).2.1
  by_cases e:j=k
  .have e':j'≠k:=λz=>hne (e.trans z.symm);have:=w1 j' d' hj' cX e';subst e;rw[Wat]at hj;cases hj;omega
  .by_cases e':j'=k
   .have:=w1 j d hj h3 e;subst e';rw[Wat]at hj';cases hj';omega
   .rw[WP e]at hj;rw[WP e']at hj';exact h.fr2 j j' d d' hne hj hj' h3 cX
 .rw[aq];refine h.cell i h0 h7 λj d hj hp=>?_;by_cases e:j=k
  .subst e;rw[hc]at hj;cases hj;omega
  .exact cG j d (by rw[WP e];exact hj) hp
 .by_cases e:j=k
  .subst e;rw[Wat]at hj;cases hj;omega
  .rw[WP e]at hj;rw[aq];exact h.sto j d hj hp l hl ha
theorem RC.k2(h:RC b m H C v i x)(hw:c'.wv=m.1+1):RC b (m.1+1,m.2) H (WdX C k (some c')) v i x:=
 ⟨h.val,by have:=h.clk;show v<=m.1+1;omega,λj d hj h3 hv=>by
  by_cases e:j=k
  .subst e;rw[Wat]at hj;cases hj;have:=h.clk;omega
  .rw[WP e]at hj;exact h.no j d hj h3 hv⟩
theorem MI.k3(h:MI b m H C)(hc:C k=some c)(h2:c.phase=3)(h3:c'.phase=3)(hw:c'.wv=c.wv):MI b m H (WdX C k (some c')):=by
 refine⟨h.st,λj d hj cX=>?_,λj j' d d' hne hj hj' h3 cX=>?_,λi h0 h7 cG=>?_,λj d hj hp l hl ha=>?_⟩
 .by_cases e:j=k
  .subst e;rw[Wat]at hj;cases hj;rw[hw];exact h.fr j c hc h2
  .rw[WP e]at hj;exact h.fr j d hj cX
 .by_cases e:j=k
  .have e':j'≠k:=λz=>hne (e.trans z.symm);rw[WP e']at hj';subst e;rw[Wat]at hj;cases hj;rw[hw];exact h.fr2 j j' c d' hne hc hj' h2 cX
  .rw[WP e]at hj;by_cases e':j'=k
   .subst e';rw[Wat]at hj';cases hj';rw[hw];exact h.fr2 j j' d c hne hj hc h3 h2
   .rw[WP e']at hj';exact h.fr2 j j' d d' hne hj hj' h3 cX
 .refine h.cell i h0 h7 λj d hj hp=>?_;by_cases e:j=k
  .subst e;rw[hc]at hj;cases hj;omega
  .exact cG j d (by rw[WP e];exact hj) hp
 .by_cases e:j=k
  .subst e;rw[Wat]at hj;cases hj;omega
  .rw[WP e]at hj;exact h.sto j d hj hp l hl ha
theorem RC.k3(h:RC b m H C v i x)(hc:C k=some c)(h2:c.phase=3)(hw:c'.wv=c.wv)(hp:c'.puts=c.puts):RC b m H (WdX C k (some c')) v i x:=
 ⟨h.val,h.clk,λj d hj h3 hv=>by
  by_cases e:j=k
  .subst e;rw[Wat]at hj;cases hj;rw[hp];exact h.no j c hc h2 (by omega)
  .rw[WP e]at hj;exact h.no j d hj h3 hv⟩
theorem MI.k4(h:MI b m H C)(hl:CL2 m C)(hm:m.1<=1000000)(hc:C k=some c)(h2:c.phase=3)(h3:c'.phase=4)(iC:c'.pos=0)(hw:c'.wv=c.wv)(hp:c'.puts=c.puts){who:Int}:MI b m (H++ [(c.wv,who,c.puts)]) (WdX C k (some c')):=by
 obtain⟨ok,lQ,fv⟩:=hl k c hc;obtain⟨f1,f2,f3⟩:=h.fr k c hc h2;have fI:∀l:Nat,lkA c l:=λl=>by unfold lkA;omega
 have cG:∀i,0<=i->i<=7->(∃(j:Nat) (hj:j<c.puts.length),c.puts[j].1=i)->∀j d,C j=some d->d.phase=4\/d.phase=5->¬lkd d i:=λi h0 h7 ⟨l,bK,e⟩ j d hj iT hZ=>by
  obtain⟨ww,rc,iU⟩:=hl j d hj;have o1:=(fv.own i h0 h7).2 ⟨l,bK,e,fI l⟩;have o2:=(iU.own i h0 h7).2 hZ;have:j=k:=by omega
  subst this;rw[hc]at hj;cases hj;omega
 have re:∀i,pick c.puts i=none->top (b i) i (H++ [(c.wv,who,c.puts)])=top (b i) i H:=λi hn=>by
  unfold top;rw[WjH];unfold Wei;simp only[hn]
 have rf:∀(l:Nat) (hl:l<c.puts.length),(Wm m c.puts[l].1).2.1<c.wv/\top (b c.puts[l].1) c.puts[l].1 (H++ [(c.wv,who,c.puts)])=(c.wv,c.puts[l].2):=λl bK=>by
  have hrow:=(ok.rows _ (Xo bK)).1;obtain⟨c1,c2⟩:=h.cell _ hrow.1 hrow.2 (cG _ hrow.1 hrow.2 ⟨l,bK,rfl⟩);have hv:=(fv.ver (.inl h2)).2 c.puts[l].1 ⟨l,bK,rfl,fI l⟩;have hb:=(WvN (b:=b c.puts[l].1) (i:=c.puts[l].1) (v:=2000000) (H:=H) (by omega)).2.2;have hlt:(top (b c.puts[l].1) c.puts[l].1 H).1<c.wv:=by
   unfold top at c2⊢;rcases hb with e|⟨g,hg,e⟩
   .omega
   .have:=f3 g hg;omega
  refine⟨by omega,?_⟩;unfold top at hlt⊢;rw[WjH];unfold Wei;simp only[Wuv ok bK];rw[if_pos ⟨by omega,hlt⟩]
 have mE:∀i x,pick c.puts i=some x->∃(j:Nat) (hj:j<c.puts.length),c.puts[j].1=i:=λi x hx=>by
  obtain⟨l,hl,e⟩:=Xbs (Whr hx);exact⟨l,hl,by rw[e]⟩
 refine⟨λg hg=>?_,λj d hj cX=>?_,λj j' d d' hne hj hj' h3 cX=>?_,λi h0 h7 hn=>?_,λj d hj iT l bK ha=>?_⟩
 .rcases Xl.1 hg with hg|hg
  .exact h.st g hg
  .rw[Xx]at hg;subst hg;exact⟨f1,f2⟩
 .by_cases e:j=k
  .subst e;rw[Wat]at hj;cases hj;omega
  .rw[WP e]at hj;obtain⟨g1,g2,g3⟩:=h.fr j d hj cX;refine⟨g1,g2,λg hg=>?_⟩;rcases Xl.1 hg with hg|hg
   .exact g3 g hg
   .rw[Xx]at hg;subst hg;exact h.fr2 k j c d (λz=>e z.symm) hc hj h2 cX
 .by_cases e:j=k
  .subst e;rw[Wat]at hj;cases hj;omega
  .rw[WP e]at hj;by_cases e':j'=k
   .subst e';rw[Wat]at hj';cases hj';omega
   .rw[WP e']at hj';exact h.fr2 j j' d d' hne hj hj' h3 cX
 .have oU:pick c.puts i=none:=by
   cases hx:pick c.puts i with
   |none=>rfl
   |some x=>
    obtain⟨l,bK,e⟩:=mE i x hx;refine absurd ⟨l,by rw[hp];exact bK,by simp only[hp];exact e,?_⟩ (hn k c' Wat (.inl h3));unfold lkA;omega
  rw[re i oU];refine h.cell i h0 h7 λj d hj iT=>?_;by_cases e:j=k
  .subst e;rw[hc]at hj;cases hj;omega
  .exact hn j d (by rw[WP e];exact hj) iT
 .by_cases e:j=k
  .subst e;rw[Wat]at hj;cases hj;have eS:l<c.puts.length:=by rw[←hp];exact bK
   obtain⟨t1,t2⟩:=rf l eS;simp only[hp,hw];exact⟨t2,t1,λhz=>by omega⟩
  .rw[WP e]at hj;obtain⟨ww,rc,iU⟩:=hl j d hj;have hrow:=(ww.rows _ (Xo bK)).1;have oU:pick c.puts d.puts[l].1=none:=by
    cases hx:pick c.puts d.puts[l].1 with
    |none=>rfl
    |some x=>
     obtain⟨l2,eS,e2⟩:=mE _ x hx;exact absurd ⟨l,bK,rfl,ha⟩ (cG d.puts[l].1 hrow.1 hrow.2 ⟨l2,eS,e2⟩ j d hj iT)
   rw[re _ oU];exact h.sto j d hj iT l bK ha
theorem RC.k4(h:RC b m H C v i x)(hc:C k=some c)(h2:c.phase=3)(h3:c'.phase=4){who:Int}:RC b m (H++ [(c.wv,who,c.puts)]) (WdX C k (some c')) v i x:=by
 refine⟨?_,h.clk,λj d hj cX hv=>?_⟩
 .rw[WjH,h.val];unfold Wei;by_cases hv:c.wv<=v
  .simp only[h.no k c hc h2 hv]
  .cases pick c.puts i with
   |none=>rfl
   |some y=>simp only;rw[if_neg (λhz=>hv hz.1)]
 .by_cases e:j=k
  .subst e;rw[Wat]at hj;cases hj;omega
  .rw[WP e]at hj;exact h.no j d hj cX hv
theorem MI.k5(h:MI b m H C)(hl:CL2 m C)(hm:WZ m=true)(hc:C k=some c)(h4:c.phase=4){j:Nat}(hj:j<c.puts.length)(hpos:c.pos=j)(hp:c'.puts=c.puts)(hw:c'.wv=c.wv)(bQ:c'.phase=4/\c'.pos=j+1\/c'.phase=5/\c'.pos=0/\j+1=c.puts.length):
  MI b (WbT m c.puts[j].1 c.who c.puts[j].2) H (WdX C k (some c')):=by
 obtain⟨ok,lQ,fv⟩:=hl k c hc;have fI:∀l:Nat,lkA c l:=λl=>by unfold lkA;omega
 have mF:∀l:Nat,lkA c' l:=λl=>by unfold lkA;omega
 have hrow:=(ok.rows _ (Xo hj)).1;have hown:=(fv.own _ hrow.1 hrow.2).2 ⟨j,hj,rfl,fI j⟩;have aM:WbT m c.puts[j].1 c.who c.puts[j].2=WmO m c.puts[j].1 (c.puts[j].2,(Wm m c.puts[j].1).2):=by
  unfold WbT;rw[if_pos (show(Wm m c.puts[j].1).2.2=c.who from hown)]
 rw[aM];have aq:∀i,0<=i->i<=7->Wm (WmO m c.puts[j].1 (c.puts[j].2,(Wm m c.puts[j].1).2)) i=if i=c.puts[j].1 then(c.puts[j].2,(Wm m c.puts[j].1).2)else Wm m i:=λi h0 h7=>Wbr hm hrow ⟨h0,h7⟩;have oa:∀l d,l≠k->C l=some d->∀(a:Nat) (ha:a<d.puts.length),lkA d a->d.puts[a].1≠c.puts[j].1:=λl d hne hd a ha kM he=>by
  obtain⟨yq,rh,iU⟩:=hl l d hd;have:=(iU.own _ hrow.1 hrow.2).2 ⟨a,ha,he,kM⟩;omega
 refine⟨h.st,λl d hd cX=>?_,λl l' d d' hne hd cP h3 cX=>?_,λi h0 h7 hn=>?_,λl d hd iT a ha kM=>?_⟩
 .by_cases e:l=k
  .subst e;rw[Wat]at hd;cases hd;omega
  .rw[WP e]at hd;exact h.fr l d hd cX
 .by_cases e:l=k
  .subst e;rw[Wat]at hd;cases hd;omega
  .rw[WP e]at hd;by_cases e':l'=k
   .subst e';rw[Wat]at cP;cases cP;omega
   .rw[WP e']at cP;exact h.fr2 l l' d d' hne hd cP h3 cX
 .have sS:i≠c.puts[j].1:=λhe=>hn k c' Wat (by omega) ⟨j,by rw[hp];exact hj,by simp only[hp];exact he.symm,mF j⟩;rw[aq i h0 h7,if_neg sS];refine h.cell i h0 h7 λl d hd iT hZ=>?_;by_cases e:l=k
  .subst e;rw[hc]at hd;cases hd;obtain⟨a,ha,e1,e2⟩:=hZ;exact hn l c' Wat (by omega) ⟨a,by rw[hp];exact ha,by simp only[hp];exact e1,mF a⟩
  .exact hn l d (by rw[WP e];exact hd) iT hZ
 .by_cases e:l=k
  .subst e;rw[Wat]at hd;cases hd;have kC:a<c.puts.length:=by rw[←hp];exact ha
   obtain⟨s1,s2,s3⟩:=h.sto l c hc (.inl h4) a kC (fI a);have iV:=(ok.rows _ (Xo kC)).1;simp only[hp,hw];rw[aq _ iV.1 iV.2];by_cases haj:c.puts[a].1=c.puts[j].1
   .have:a=j:=ok.inj kC hj haj;subst this;rw[if_pos rfl];exact⟨s1,s2,λ_=>rfl⟩
   .rw[if_neg haj];have hne:a≠j:=λe=>haj (by subst e;rfl);exact⟨s1,s2,λhz=>s3 (.inr (by omega))⟩
  .rw[WP e]at hd;have iV:=((hl l d hd).1.rows _ (Xo ha)).1;rw[aq _ iV.1 iV.2,if_neg (oa l d e hd a ha kM)];exact h.sto l d hd iT a ha kM
theorem MI.k6(h:MI b m H C)(hl:CL2 m C)(hm:WZ m=true)(hc:C k=some c)(h5:c.phase=5){j:Nat}(hj:j<c.puts.length)(hpos:c.pos=j)(ho:(∃c',o=some c'/\c'.puts=c.puts/\c'.wv=c.wv/\c'.phase=5/\c'.pos=j+1)\/(o=none/\j+1=c.puts.length)):
  MI b (War m c.puts[j].1 c.who c.wv) H (WdX C k o):=by
 obtain⟨ok,lQ,fv⟩:=hl k c hc;have hrow:=(ok.rows _ (Xo hj)).1;have kL:lkA c j:=by unfold lkA;omega
 have hown:=(fv.own _ hrow.1 hrow.2).2 ⟨j,hj,rfl,kL⟩;obtain⟨v1,v2⟩:=fv.ver (.inr (.inr h5));obtain⟨yr,sj2,yt⟩:=h.sto k c hc (.inr h5) j hj kL;have aM:War m c.puts[j].1 c.who c.wv=WmO m c.puts[j].1 ((Wm m c.puts[j].1).1,c.wv,0):=by
  unfold War;rw[if_pos ⟨hown,v2 _ ⟨j,hj,rfl,kL⟩,v1⟩]
 rw[aM];have aq:∀i,0<=i->i<=7->Wm (WmO m c.puts[j].1 ((Wm m c.puts[j].1).1,c.wv,0)) i=if i=c.puts[j].1 then((Wm m c.puts[j].1).1,c.wv,0)else Wm m i:=λi h0 h7=>Wbr hm hrow ⟨h0,h7⟩;have oa:∀l d,l≠k->C l=some d->∀(a:Nat) (ha:a<d.puts.length),lkA d a->d.puts[a].1≠c.puts[j].1:=λl d hne hd a ha kM he=>by
  obtain⟨yq,rh,iU⟩:=hl l d hd;have:=(iU.own _ hrow.1 hrow.2).2 ⟨a,ha,he,kM⟩;omega
 have nY:∀d,WdX C k o k=some d->d.phase=5/\d.puts=c.puts/\d.wv=c.wv/\d.pos=j+1:=λd hd=>by
  rw[Wat]at hd;rcases ho with⟨c',e,e1,e2,e3,e4⟩|⟨e,_⟩
  .rw[e]at hd;cases hd;exact⟨e3,e1,e2,e4⟩
  .rw[e]at hd;cases hd
 refine⟨h.st,λl d hd cX=>?_,λl l' d d' hne hd cP h3 cX=>?_,λi h0 h7 hn=>?_,λl d hd iT a ha kM=>?_⟩
 .by_cases e:l=k
  .subst e;have:=nY d hd;omega
  .rw[WP e]at hd;exact h.fr l d hd cX
 .by_cases e:l=k
  .subst e;have:=nY d hd;omega
  .rw[WP e]at hd;by_cases e':l'=k
   .subst e';have:=nY d' cP;omega
   .rw[WP e']at cP;exact h.fr2 l l' d d' hne hd cP h3 cX
 .rw[aq i h0 h7];by_cases hi:i=c.puts[j].1
  .subst hi;rw[if_pos rfl,yr];exact⟨yt (.inl h5),rfl⟩
  .rw[if_neg hi];refine h.cell i h0 h7 λl d hd iT hZ=>?_;by_cases e:l=k
   .subst e;rw[hc]at hd;cases hd;obtain⟨a,ha,e1,e2⟩:=hZ;have hne:a≠j:=λe=>hi (by subst e;exact e1.symm);have fb:(c.pos<=a):=by unfold lkA at e2;omega
    rcases ho with⟨c',eo,q1,q2,q3,q4⟩|⟨eo,q1⟩
    .refine hn l c' (by rw[Wat];exact eo) (.inr q3) ⟨a,by rw[q1];exact ha,by simp only[q1];exact e1,?_⟩;unfold lkA;omega
    .omega
   .exact hn l d (by rw[WP e];exact hd) iT hZ
 .by_cases e:l=k
  .subst e;obtain⟨q3,q1,q2,q4⟩:=nY d hd;have kC:a<c.puts.length:=by rw[←q1];exact ha
   have ri:lkA c a/\a≠j:=by unfold lkA at kM⊢;omega
   obtain⟨s1,s2,s3⟩:=h.sto l c hc (.inr h5) a kC ri.1;have iV:=(ok.rows _ (Xo kC)).1;simp only[q1,q2];rw[aq _ iV.1 iV.2,if_neg (λhe=>ri.2 (ok.inj kC hj he))];exact⟨s1,s2,λ_=>s3 (.inl h5)⟩
  .rw[WP e]at hd;have iV:=((hl l d hd).1.rows _ (Xo ha)).1;rw[aq _ iV.1 iV.2,if_neg (oa l d e hd a ha kM)];exact h.sto l d hd iT a ha kM
end
end
section
variable{b:Int->Int}{m m':Mm}{H:List Wr}{C:Nat->Option Cm}{k:Nat}{c c':Cm}{o o':Option Cm}{v i x:Int}
def cmO(c:Cm):Option Cm:=if c.phase=6\/c.phase=8 then none else some c
def WaU(k:Nat)(c:Cm)(q:Cm)(H:List Wr):List Wr:=if c.phase<=3/\q.phase=4 then H++ [(q.wv,(k:Int)+1,q.puts)]else H
theorem WlU:WdX (WdX C k o) k o'=WdX C k o':=by
 funext j;unfold WdX;split<;>rfl
theorem WkU(h:cmO c=some c'):c'=c/\c.phase≠6/\c.phase≠8:=by
 unfold cmO at h;split at h
 .cases h
 .cases h;exact⟨rfl,by omega,by omega⟩
def Keep(b:Int->Int)(m:Mm)(H:List Wr)(C:Nat->Option Cm)(m':Mm)(H':List Wr)(C':Nat->Option Cm):Prop:=MI b m' H' C'/\∀v i x,RC b m H C v i x->RC b m' H' C' v i x
theorem Keep.k1(h:MI b m H C)(hc:∀c,C k=some c->c.phase≠4/\c.phase≠5)(ho:∀c',o=some c'->c'.phase≠3/\c'.phase≠4/\c'.phase≠5)
  (h1:m'.1=m.1) (hm:∀i,0<=i->i<=7->(Wm m' i).1=(Wm m i).1/\(Wm m' i).2.1=(Wm m i).2.1) (hr:∀k c,C k=some c->CmR c):Keep b m H C m' H (WdX C k o):=
 ⟨h.k1 hc ho h1 hm hr,λv i x hx=>hx.k1 (λc' e=>(ho c' e).1) h1⟩
theorem MI.step(h:MI b m H C)(hl:CL2 m C)(aX:CmOk c)(hm:WZ m=true)(cA:m.1<1000000)(hc:C k=some c)(h68:c.phase≠6/\c.phase≠8):
  Keep b m H C (Ws m c).1 (WaU k c (Ws m c).2 H) (WdX C k (cmO (Ws m c).2)):=by
 have hr:∀k c,C k=some c->CmR c:=λk c e=>(hl k c e).1;have mC:∀d,C k=some d->d=c:=λd e=>by rw[hc]at e;cases e;rfl
 obtain⟨okr,lQ,fv⟩:=hl k c hc;have bQ:=aX.phase;have aM:c.phase=1\/c.phase=4\/c.phase=5\/c.phase=7->c.steps=c.puts.length:=λhp=>by unfold Cm.steps;rw[if_pos hp]
 have h0:=(WK hm).2.1;have back:∀n:Int,c.phase≠4/\c.phase≠5->Keep b m H C m (WaU k c (Wam c n) H) (WdX C k (cmO (Wam c n))):=λn hp=>by
  have e:WaU k c (Wam c n) H=H:=by unfold WaU;rw[if_neg (by rcases Wdc c n with e|e<;>omega)]
  rw[e];refine Keep.k1 h (λd hd=>by rw[mC d hd];exact hp) (λd hd=>?_) rfl (λ_ _ _=>⟨rfl,rfl⟩) hr;obtain⟨e,_⟩:=WkU hd;subst e;rcases Wdc c n with e|e<;>omega
 by_cases h1:c.phase=1
 .unfold Ws;simp only;rw[if_pos h1];obtain⟨j,hj,e1,e2,e3,e4⟩:=aX.put (by omega);rw[e2];split
  .have hp:(Wu c 2).phase=1\/(Wu c 2).phase=2:=by
    unfold Wu;split
    .right;show Wa6 c 2=2;unfold Wa6;rw[if_neg (by omega),if_neg (by omega)]
    .left;exact h1
   have e:WaU k c (Wu c 2) H=H:=by unfold WaU;rw[if_neg (λz=>by have:=z.2;omega)]
   show Keep b m H C _ (WaU k c (Wu c 2) H) _;rw[e];refine Keep.k1 h (λd hd=>by rw[mC d hd];omega) (λd hd=>?_) rfl (λi a z=>?_) hr
   .obtain⟨e,_⟩:=WkU hd;rw[show d=Wu c 2 from e];omega
   .show(Wm (Wj3 m c.puts[j].1 c.who) i).1=_/\_;unfold Wj3;rw[Wbr hm e3 ⟨a,z⟩];split
    .rename_i he;subst he;exact⟨rfl,rfl⟩
    .exact⟨rfl,rfl⟩
  .exact back _ (by omega)
 by_cases h2:c.phase=2
 .have et:tick m=((m.1+1,m.2),m.1+1):=by unfold tick;rw[if_pos cA]
  unfold Ws;simp only;rw[if_neg h1,if_pos h2,et];simp only;rw[if_neg (by omega)];generalize ep:({c with wv:=m.1+1,phase:=3,pos:=0}:Cm)=c2;have p3:c2.phase=3:=by rw[←ep]
  have pw:c2.wv=m.1+1:=by rw[←ep]
  have pp:c2.puts=c.puts:=by rw[←ep]
  have pwho:c2.who=c.who:=by rw[←ep]
  have k2:MI b (m.1+1,m.2) H (WdX C k (some c2)):=h.k2 hc h2 p3 pw h0;have ui:∀v i x,RC b m H C v i x->RC b (m.1+1,m.2) H (WdX C k (some c2)) v i x:=λv i x hx=>hx.k2 pw;have eS:CL2 (m.1+1,m.2) (WdX C k (some c2)):=λj d hd=>by
   by_cases e:j=k
   .subst e;rw[Wat]at hd;cases hd;have rj:∀i,lkd c2 i↔lkd c i:=λi=>Wdq pp λj hj=>by unfold lkA;omega
    refine⟨⟨by rw[pp];exact okr.rows,by rw[pp];exact okr.pup⟩,by rw[pwho];exact lQ,λi a z=>?_,λ_=>⟨by rw[pw];exact Xu _,λi hi=>?_⟩⟩
    .rw[pwho,rj];exact fv.own i a z
    .rw[pw];obtain⟨l,bK,a,_⟩:=(rj i).1 hi;have r9:=(okr.rows _ (Xo bK)).1;have hcl:=Wc5.1 (WeP hm r9);rw[←a];show(Wm m c.puts[l].1).2.1<=m.1+1;omega
   .rw[WP e]at hd;obtain⟨a,z,q⟩:=hl j d hd;exact⟨a,z,q.own,λhz=>⟨by have:=(q.ver hz).1;show d.wv<=m.1+1;omega,(q.ver hz).2⟩⟩
  have hq:∀a,Wa6 {c with wv:=m.1+1} 3=a->Wdh {c with wv:=m.1+1} 3={c with wv:=m.1+1,phase:=a,pos:=0}:=λa e=>by unfold Wdh;rw[e]
  by_cases mf:c.reads.length=0
  .by_cases iC:c.puts.length=0
   .rw[hq 6 (by unfold Wa6;rw[if_pos ⟨.inl ⟨rfl,mf⟩,iC⟩])];have e:WaU k c {c with wv:=m.1+1,phase:=6,pos:=0} H=H:=by unfold WaU;rw[if_neg (λz=>by have:=z.2;simp only at this;omega)]
    have eo:cmO {c with wv:=m.1+1,phase:=6,pos:=0}=none:=by unfold cmO;rw[if_pos (.inl rfl)]
    rw[e,eo,←WlU (C:=C) (k:=k) (o:=some c2)];refine⟨k2.k1 (λd hd=>?_) (λd hd=>by cases hd) rfl (λ_ _ _=>⟨rfl,rfl⟩) (λj d hd=>(eS j d hd).1),λv i x hx=>(ui v i x hx).k1 (λd hd=>by cases hd) rfl⟩;rw[Wat]at hd;cases hd;omega
   .rw[hq 4 (by unfold Wa6;rw[if_neg (λz=>iC z.2),if_pos ⟨rfl,mf⟩])];have e:WaU k c {c with wv:=m.1+1,phase:=4,pos:=0} H=H++ [(c2.wv,(k:Int)+1,c2.puts)]:=by unfold WaU;rw[if_pos ⟨by omega,rfl⟩,pw,pp]
    have eo:cmO {c with wv:=m.1+1,phase:=4,pos:=0}=some {c with wv:=m.1+1,phase:=4,pos:=0}:=by unfold cmO;rw[if_neg (by simp)]
    rw[e,eo,←WlU (C:=C) (k:=k) (o:=some c2)];exact⟨k2.k4 (c':={c with wv:=m.1+1,phase:=4,pos:=0}) eS (by show m.1+1<=1000000;omega) Wat p3 rfl rfl pw.symm pp.symm,λv i x hx=>(ui v i x hx).k4 Wat p3 rfl⟩
  .have e3:Wdh {c with wv:=m.1+1} 3=c2:=by
    rw[hq 3 (by unfold Wa6;rw[if_neg (λz=>by rcases z.1 with y|y;exact mf y.2;omega),if_neg (λz=>mf z.2)]),←ep]
   rw[e3];have e:WaU k c c2 H=H:=by unfold WaU;rw[if_neg (λz=>by have:=z.2;omega)]
   have eo:cmO c2=some c2:=by unfold cmO;rw[if_neg (by omega)]
   rw[e,eo];exact⟨k2,ui⟩
 by_cases h3:c.phase=3
 .unfold Ws;simp only;rw[if_neg h1,if_neg h2,if_pos h3];split
  .exact back _ (by omega)
  .by_cases dc:c.pos+1=c.steps
   .have en:Wu c 4={c with phase:=Wa6 c 4,pos:=0}:=by unfold Wu;rw[if_pos dc];rfl
    by_cases iC:c.puts.length=0
    .have ea:Wa6 c 4=6:=by unfold Wa6;rw[if_pos ⟨.inr rfl,iC⟩]
     rw[en,ea];have e:WaU k c {c with phase:=6,pos:=0} H=H:=by unfold WaU;rw[if_neg (λz=>by have:=z.2;simp only at this;omega)]
     have eo:cmO {c with phase:=6,pos:=0}=none:=by unfold cmO;rw[if_pos (.inl rfl)]
     show Keep b m H C m (WaU k c {c with phase:=6,pos:=0} H) (WdX C k (cmO {c with phase:=6,pos:=0}));rw[e,eo];exact Keep.k1 h (λd hd=>by rw[mC d hd];omega) (λd hd=>by cases hd) rfl (λ_ _ _=>⟨rfl,rfl⟩) hr
    .have ea:Wa6 c 4=4:=by unfold Wa6;rw[if_neg (λz=>iC z.2),if_neg (by omega)]
     rw[en,ea];have e:WaU k c {c with phase:=4,pos:=0} H=H++ [(c.wv,(k:Int)+1,c.puts)]:=by unfold WaU;rw[if_pos ⟨by omega,rfl⟩]
     have eo:cmO {c with phase:=4,pos:=0}=some {c with phase:=4,pos:=0}:=by unfold cmO;rw[if_neg (by simp)]
     show Keep b m H C m (WaU k c {c with phase:=4,pos:=0} H) (WdX C k (cmO {c with phase:=4,pos:=0}));rw[e,eo];exact⟨h.k4 (c':={c with phase:=4,pos:=0}) hl (by omega) hc h3 rfl rfl rfl rfl,λv i x hx=>hx.k4 hc h3 rfl⟩
   .have en:Wu c 4={c with pos:=c.pos+1}:=by unfold Wu;rw[if_neg dc]
    rw[en];have e:WaU k c {c with pos:=c.pos+1} H=H:=by unfold WaU;rw[if_neg (λz=>by have:=z.2;simp only at this;omega)]
    have eo:cmO {c with pos:=c.pos+1}=some {c with pos:=c.pos+1}:=by unfold cmO;rw[if_neg (by simp only;omega)]
    show Keep b m H C m (WaU k c {c with pos:=c.pos+1} H) (WdX C k (cmO {c with pos:=c.pos+1}));rw[e,eo];exact⟨h.k3 hc h3 h3 rfl,λv i x hx=>hx.k3 hc h3 rfl rfl⟩
 by_cases h4:c.phase=4
 .obtain⟨j,hj,e1,e2,e3,e4⟩:=aX.put (by omega);have hs:=aM (by omega);unfold Ws;simp only;rw[if_neg h1,if_neg h2,if_neg h3,if_pos h4,e2];have e:WaU k c (Wu c 5) H=H:=by unfold WaU;rw[if_neg (λz=>by have:=z.1;omega)]
  obtain⟨p1,p2,p3⟩:=WaN c 5;have bQ:(Wu c 5).phase=4/\(Wu c 5).pos=(j:Int)+1\/(Wu c 5).phase=5/\(Wu c 5).pos=0/\j+1=c.puts.length:=by
   unfold Wu;split
   .exact .inr ⟨Wrk c,rfl,by omega⟩
   .exact .inl ⟨h4,by show c.pos+1=_;omega⟩
  have eo:cmO (Wu c 5)=some (Wu c 5):=by unfold cmO;rw[if_neg (by omega)]
  show Keep b m H C (WbT m c.puts[j].1 c.who c.puts[j].2) (WaU k c (Wu c 5) H) (WdX C k (cmO (Wu c 5)));rw[e,eo];refine⟨h.k5 hl hm hc h4 hj e1 p1 p3 bQ,λv i x hx=>hx.k1 (λd hd=>by cases hd;omega) ?_⟩;unfold WbT;split<;>rfl
 by_cases h5:c.phase=5
 .obtain⟨j,hj,e1,e2,e3,e4⟩:=aX.put (by omega);have hs:=aM (by omega);unfold Ws;simp only;rw[if_neg h1,if_neg h2,if_neg h3,if_neg h4,if_pos h5,e2];have e:WaU k c (Wu c 6) H=H:=by unfold WaU;rw[if_neg (λz=>by have:=z.1;omega)]
  obtain⟨p1,p2,p3⟩:=WaN c 6;have ho:(∃c',cmO (Wu c 6)=some c'/\c'.puts=c.puts/\c'.wv=c.wv/\c'.phase=5/\c'.pos=(j:Int)+1)\/(cmO (Wu c 6)=none/\j+1=c.puts.length):=by
   by_cases dc:c.pos+1=c.steps
   .right;have:(Wu c 6).phase=6:=by unfold Wu;rw[if_pos dc];exact WrJ c
    exact⟨by unfold cmO;rw[if_pos (.inl this)],by omega⟩
   .left;have en:Wu c 6={c with pos:=c.pos+1}:=by unfold Wu;rw[if_neg dc]
    refine⟨Wu c 6,by unfold cmO;rw[if_neg (by rw[en];simp only;omega)],p1,p3,by rw[en];exact h5,by rw[en];show c.pos+1=_;omega⟩
  show Keep b m H C (War m c.puts[j].1 c.who c.wv) (WaU k c (Wu c 6) H) (WdX C k (cmO (Wu c 6)));rw[e];refine⟨h.k6 hl hm hc h5 hj e1 ho,λv i x hx=>hx.k1 (λd hd=>?_) ?_⟩
  .rcases ho with⟨c',q,_,_,q3,_⟩|⟨q,_⟩
   .rw[q]at hd;cases hd;omega
   .rw[q]at hd;cases hd
  .unfold War;split<;>rfl
 .have h7:c.phase=7:=by omega
  obtain⟨j,hj,e1,e2,e3,e4⟩:=aX.put (by omega);unfold Ws;simp only;rw[if_neg h1,if_neg h2,if_neg h3,if_neg h4,if_neg h5,if_pos h7,e2];have e:WaU k c (Wam c c.pos) H=H:=by unfold WaU;rw[if_neg (λz=>by have:=z.1;omega)]
  show Keep b m H C (War m c.puts[j].1 c.who (Wm m c.puts[j].1).2.1) (WaU k c (Wam c c.pos) H) (WdX C k (cmO (Wam c c.pos)));rw[e];refine Keep.k1 h (λd hd=>by rw[mC d hd];omega) (λd hd=>?_) (by unfold War;split<;>rfl) (λi a z=>?_) hr
  .obtain⟨e,_⟩:=WkU hd;subst e;rcases Wdc c c.pos with e|e<;>omega
  .unfold War;split
   .rw[Wbr hm e3 ⟨a,z⟩];split
    .rename_i he;subst he;exact⟨rfl,rfl⟩
    .exact⟨rfl,rfl⟩
   .exact⟨rfl,rfl⟩
end
section
variable{b:Int->Int}{s:Sc}{w v:Wo}{n:Int}{x y:Rt}{k:Nat}{p:Pg}{o:Opn}{a:Ac}
def cmX(x:Rt):Option Cm:=if x.phase=5 then some x.cm else none
def Wdu(l:List Rt)(k:Nat):Option Cm:=(l[k]?).bind cmX
theorem WjO(h:k<w.roots.length):Wdu w.roots k=cmX w.roots[k]:=by unfold Wdu;rw[Xp h];rfl
theorem Wk0{l:List Rt}(h:k<l.length):Wdu (l.set k y)=WdX (Wdu l) k (cmX y):=by
 funext j;unfold Wdu WdX;by_cases e:j=k
 .subst e;rw[if_pos rfl,Xds h];rfl
 .rw[if_neg e,Xda (λz=>e z.symm)]
theorem WjR{c:Cm}(h:cmX x=some c):x.phase=5/\c=x.cm:=by
 unfold cmX at h;split at h
 .cases h;exact⟨‹_›,rfl⟩
 .cases h
theorem WmG{l:List Rt}{c:Cm}(h:Wdu l k=some c):∃hk:k<l.length,l[k].phase=5/\c=l[k].cm:=by
 by_cases hk:k<l.length
 .unfold Wdu at h;rw[Xp hk]at h;exact⟨hk,WjR h⟩
 .unfold Wdu at h;rw[List.getElem?_eq_none (by omega)]at h;cases h
theorem Wt5(h:WOk s.2.1 n w)(hl:LX w):CL2 w.mem (Wdu w.roots):=λk c hc=>by
 obtain⟨hk,h5,e⟩:=WmG hc;subst e;exact⟨((h.root k hk).comm h5).r,((hl.root k hk).cm h5).1,((hl.root k hk).cm h5).2⟩
structure RN(w:Wo)(x:Rt)(q:Wo×Rt):Prop where
 mem:q.1.mem=w.mem
 hist:q.1.hist=w.hist
 cm:q.2.phase=5->q.2.cm.phase=1\/q.2.cm.phase=2
theorem WcT{q:Wo×Rt}(h1:q.1.mem=w.mem)(h2:q.1.hist=w.hist)(h5:q.2.phase≠5):RN w x q:=⟨h1,h2,λh=>absurd h h5⟩
theorem Wmo{out:Int}:RN w x (WbS w x k out):=by
 unfold WbS;simp only;generalize (if out=2 then []else x.writes)=rows;split
 .exact WcT rfl rfl (by show(8:Int)≠5;omega)
 .refine⟨rfl,rfl,λ_=>?_⟩;show(Wcv ((k:Int)+1) x.rv rows x.reads).phase=1\/_;unfold Wcv;simp only;split<;>simp
theorem Whx(h5:x.phase≠5):RN w x (Wai w x k p):=by
 have cf:∀z:Rt,(W0 z).phase≠5:=λz=>Wfc.2.1;unfold Wai;split
 .exact WcT rfl rfl (by show(6:Int)≠5;omega)
 split
 .unfold Weh;split
  .exact WcT rfl rfl h5
  .split
   .exact WcT rfl rfl h5
   .split
    .exact WcT rfl rfl h5
    .exact WcT rfl rfl (by show(1:Int)≠5;omega)
 split
 .rename_i h1;unfold Wk5;split
  .exact Wmo
  .simp only;generalize opN p.1 x.pc=o;split
   .exact WcT rfl rfl (WqH h1).2.1
   .split
    .unfold Wdg;split
     .exact Wmo
     .split
      .exact WcT rfl rfl h5
      .exact WcT rfl rfl h5
    .split
     .exact WcT rfl rfl (by show(2:Int)≠5;omega)
     .split
      .unfold Wc4;cases Wb0 w.holds ((k:Int)+1) (WbN o).1 (WbN o).2 with
       |none=>exact WcT rfl rfl (cf _)
       |some hs=>exact WcT rfl rfl h5
      .repeat' split
       all_goals exact WcT rfl rfl h5
 split
 .refine WcT rfl rfl ?_;show(Wd5 x).phase≠5;unfold Wd5;split
  .show(6:Int)≠5;omega
  .split
   .show(1:Int)≠5;omega
   .exact h5
 split
 .unfold WbG;split
  .exact WcT rfl rfl h5
  .exact WcT rfl rfl (by show(4:Int)≠5;omega)
 split
 .refine WcT rfl rfl ?_;show(Wa5 w x).phase≠5;unfold Wa5;simp only;split
  .split
   .show(6:Int)≠5;omega
   .exact h5
  .show(1:Int)≠5;omega
 split
 .split
  .exact WcT rfl rfl h5
  .exact WcT rfl rfl (by show(7:Int)≠5;omega)
 split
 .split
  .exact WcT rfl rfl (by show(0:Int)≠5;omega)
  .exact WcT rfl rfl (by show(8:Int)≠5;omega)
 .exact WcT rfl rfl h5
theorem Whv(h5:x.phase=5)(hd:x.doomed=false):(Wai w x k p).1.mem=(Ws w.mem x.cm).1/\(Wai w x k p).1.hist=WaU k x.cm (Ws w.mem x.cm).2 w.hist/\(Wai w x k p).2=Wbm {x with cm:=(Ws w.mem x.cm).2}:=by
 have e:Wai w x k p=Waz w x k:=by
  unfold Wai;rw[if_neg (by omega),if_neg (by omega),if_neg (by omega),if_neg (by omega),if_neg (by omega),if_neg (by omega),if_pos h5]
 rw[e];unfold Waz;rw[if_neg (by rw[hd];simp)];exact⟨rfl,rfl,rfl⟩
theorem Wt1{z:Rt}(h:z.phase≠5):cmX z=none:=by unfold cmX;rw[if_neg h]
theorem Wtb(c:Cm):cmX (Wbm {x with cm:=c,phase:=5})=cmO c:=by
 by_cases h8:c.phase=8
 .have e:cmO c=none:=by unfold cmO;rw[if_pos (.inr h8)]
  rw[e];unfold Wbm;rw[if_pos h8];exact Wt1 (by show(6:Int)≠5;omega)
 .by_cases h6:c.phase=6
  .have e:cmO c=none:=by unfold cmO;rw[if_pos (.inl h6)]
   rw[e];unfold Wbm;rw[if_neg h8,if_pos h6];exact Wt1 (by show(if x.fate=2 then(6:Int)else 7)≠5;split<;>omega)
  .have e:cmO c=some c:=by unfold cmO;rw[if_neg (by omega)]
   rw[e];unfold Wbm;rw[if_neg h8,if_neg h6];rfl
def WsV(b:Int->Int)(w v:Wo):Prop:=Keep b w.mem w.hist (Wdu w.roots) v.mem v.hist (Wdu v.roots)
theorem Wdp{l:List Rt}(h:MI b w.mem w.hist (Wdu w.roots))(e:Wdu l=Wdu w.roots):Keep b w.mem w.hist (Wdu w.roots) w.mem w.hist (Wdu l):=by
 rw[e];exact⟨h,λ_ _ _ hx=>hx⟩
theorem WsK{q:Wo×Rt}(h:WOk s.2.1 n w)(hl:LX w)(hx:WX w)(ht:WT w)(hn:n<1000000)(hM:MI b w.mem w.hist (Wdu w.roots))(hk:k<w.roots.length)(hq:q=Wai {w with now:=w.now+1} w.roots[k] k p)(hr:q.1.roots=w.roots):WsV b w (Wo.put q k):=by
 have hcl:=Wt5 h hl;have cA:w.mem.1<1000000:=by have:=ht.clk;have:=h.now;omega
 unfold WsV;show Keep b w.mem w.hist (Wdu w.roots) q.1.mem q.1.hist (Wdu (q.1.roots.set k q.2));rw[hr,Wk0 hk];have oX:=hx k hk;have hCk:=WjO (w:=w) hk;by_cases h5:w.roots[k].phase=5
 .have hC:Wdu w.roots k=some w.roots[k].cm:=by rw[hCk];unfold cmX;rw[if_pos h5]
  have nW:=(ht.root k hk).cm h5;by_cases hd:w.roots[k].doomed=false
  .obtain⟨e1,e2,e3⟩:=Whv (w:={w with now:=w.now+1}) (x:=w.roots[k]) (k:=k) (p:=p) h5 hd;rw[hq,e1,e2,e3];have ex:({w.roots[k]with cm:=(Ws w.mem w.roots[k].cm).2}:Rt)={w.roots[k]with cm:=(Ws w.mem w.roots[k].cm).2,phase:=5}:=by rw[←h5]
   show Keep b w.mem w.hist (Wdu w.roots) (Ws w.mem w.roots[k].cm).1 (WaU k w.roots[k].cm (Ws w.mem w.roots[k].cm).2 w.hist) (WdX (Wdu w.roots) k (cmX (Wbm {w.roots[k]with cm:=(Ws w.mem w.roots[k].cm).2})));rw[ex,Wtb];exact hM.step hcl ((h.root k hk).comm h5) h.mem cA hC nW
  .have cP:w.roots[k].doomed=true:=by simpa using hd
   have oS:w.roots[k].cm.phase<=3:=by
    rcases oX.doom cP with e|e
    .omega
    .exact e.2
   have kx:=((h.root k hk).comm h5).phase;have e:Wai {w with now:=w.now+1} w.roots[k] k p=({w with now:=w.now+1},if(W6 w.roots[k].cm).phase=8 then Wdd w.roots[k]else{w.roots[k]with cm:=W6 w.roots[k].cm,doomed:=false}):=by
    unfold Wai;rw[if_neg (by omega),if_neg (by omega),if_neg (by omega),if_neg (by omega),if_neg (by omega),if_neg (by omega),if_pos h5];unfold Waz;rw[if_pos cP]
   rw[hq,e];refine Keep.k1 hM (λd gL=>by rw[hC]at gL;cases gL;omega) (λd gL=>?_) rfl (λ_ _ _=>⟨rfl,rfl⟩) (λj d e=>(hcl j d e).1);obtain⟨f1,f2⟩:=WjR gL;by_cases h8:(W6 w.roots[k].cm).phase=8
   .simp only[if_pos h8]at f1;exact absurd (show(6:Int)=5 from f1) (by omega)
   .simp only[if_neg h8]at f2;have:d=W6 w.roots[k].cm:=f2;rw[this];unfold W6 at h8⊢;split
    .rcases Wdc w.roots[k].cm w.roots[k].cm.pos with e|e<;>omega
    .split
     .rcases Wdc w.roots[k].cm w.roots[k].cm.puts.length with e|e<;>omega
     .omega
 .have hC:Wdu w.roots k=none:=by rw[hCk];unfold cmX;rw[if_neg h5]
  obtain⟨r1,r2,r3⟩:=Whx (w:={w with now:=w.now+1}) (k:=k) (p:=p) h5;rw[hq,r1,r2];refine Keep.k1 hM (λd gL=>by rw[hC]at gL;cases gL) (λd gL=>?_) rfl (λ_ _ _=>⟨rfl,rfl⟩) (λj d e=>(hcl j d e).1);obtain⟨f1,f2⟩:=WjR gL;have:=r3 f1;rw[f2];omega
theorem WrZ(h:WOk s.2.1 n w)(hl:LX w)(hx:WX w)(ht:WT w)(hn:n<1000000)(hM:MI b w.mem w.hist (Wdu w.roots)):WsV b w (Wgu s w a):=by
 have same:∀(k:Nat) (hk:k<w.roots.length) (y:Rt),cmX y=cmX w.roots[k]->Wdu (w.roots.set k y)=Wdu w.roots:=λk hk y e=>by
  rw[Wk0 hk,e,←WjO hk];funext j;unfold WdX;split
  .rename_i e;rw[e]
  .rfl
 unfold Wgu;simp only;split
 .rename_i hb;have hk:a.2.1.toNat<w.roots.length:=by omega
  rw[Wh hk];split
  .unfold Wkx;rw[Wh (show a.2.1.toNat<({w with now:=w.now+1}:Wo).roots.length from hk)];exact WsK h hl hx ht hn hM hk rfl (Wjo h hk)
  .split
   .split
    .exact Wdp hM (same _ hk _ rfl)
    .exact Wdp hM rfl
   .split
    .split
     .exact Wdp hM (same _ hk _ rfl)
     .exact Wdp hM rfl
    .exact Wdp hM rfl
 .exact Wdp hM rfl
end
section
variable{b:Int->Int}{s:Sc}{w v:Wo}{n:Int}{x y:Rt}{k:Nat}{p:Pg}{o:Opn}{a:Ac}{m m':Mm}{H H':List Wr}{C:Nat->Option Cm}{c:Cm}{i:Int}
structure Mono(b:Int->Int)(m:Mm)(H:List Wr)(m':Mm)(H':List Wr):Prop where
 ver:∀i,0<=i->i<=7->(Wm m i).2.1<=(Wm m' i).2.1
 top:∀i,(top (b i) i H).1<(top (b i) i H').1\/top (b i) i H'=top (b i) i H
theorem Mono.refl:Mono b m H m H:=⟨λ_ _ _=>Xu _,λ_=>.inr rfl⟩
theorem WpE(aX:CmOk c)(hm:WZ m=true):∀i,0<=i->i<=7->(Wm m i).2.1<=(Wm (Ws m c).1 i).2.1:=λi h0 h7=>by
 have bQ:=aX.phase;have oc:c.phase=1\/c.phase=4\/c.phase=5\/c.phase=7->0<=(Wci c.puts c.pos (0,0)).1/\(Wci c.puts c.pos (0,0)).1<=7:=λh=>by
  obtain⟨j,hj,e1,e2,e3,e4⟩:=aX.put h;rw[e2];exact e3
 unfold Ws;simp only;split
 .split
  .show _<=(Wm (Wj3 m _ _) i).2.1;unfold Wj3;rw[Wbr hm (oc (by omega)) ⟨h0,h7⟩];split
   .rename_i e;rw[e];exact Xu _
   .exact Xu _
  .exact Xu _
 split
 .have ht:=WkV hm;have e:∀i,Wm (tick m).1 i=Wm m i:=λi=>by unfold tick;split<;>rfl
  split
  .show _<=(Wm (tick m).1 i).2.1;rw[e];exact Xu _
  .show _<=(Wm (tick m).1 i).2.1;rw[e];exact Xu _
 split
 .split<;>exact Xu _
 split
 .show _<=(Wm (WbT m _ _ _) i).2.1;unfold WbT;split
  .rw[Wbr hm (oc (by omega)) ⟨h0,h7⟩];split
   .rename_i e;rw[e];exact Xu _
   .exact Xu _
  .exact Xu _
 have unl:∀ver,(c.phase=5\/c.phase=7)->(Wm m i).2.1<=(Wm (War m (Wci c.puts c.pos (0,0)).1 c.who ver) i).2.1:=λver h=>by
  unfold War;split
  .rename_i hc;rw[Wbr hm (oc (by omega)) ⟨h0,h7⟩];split
   .rename_i e;rw[e];exact hc.2.1
   .exact Xu _
  .exact Xu _
 split
 .exact unl _ (.inl ‹_›)
 split
 .exact unl _ (.inr ‹_›)
 .exact Xu _
theorem Wp9{q:Cm}:∀i,(top (b i) i H).1<(top (b i) i (WaU k c q H)).1\/top (b i) i (WaU k c q H)=top (b i) i H:=λi=>by
 unfold WaU;split
 .unfold top;rw[WjH];rcases Wi7 (i:=i) (v:=2000000) (h:=(q.wv,(k:Int)+1,q.puts)) (bst (b i) i 2000000 H)with e|⟨x,_,_,e2,e3⟩
  .exact .inr e
  .rw[e3];exact .inl e2
 .exact .inr rfl
theorem WsS{q:Wo×Rt}(h:WOk s.2.1 n w)(hx:WX w)(hk:k<w.roots.length)(hq:q=Wai {w with now:=w.now+1} w.roots[k] k p):Mono b w.mem w.hist q.1.mem q.1.hist:=by
 by_cases h5:w.roots[k].phase=5
 .by_cases hd:w.roots[k].doomed=false
  .obtain⟨e1,e2,e3⟩:=Whv (w:={w with now:=w.now+1}) (x:=w.roots[k]) (k:=k) (p:=p) h5 hd;rw[hq,e1,e2];exact⟨WpE ((h.root k hk).comm h5) h.mem,Wp9⟩
  .have cP:w.roots[k].doomed=true:=by simpa using hd
   have e:(Wai {w with now:=w.now+1} w.roots[k] k p).1={w with now:=w.now+1}:=by
    unfold Wai;rw[if_neg (by omega),if_neg (by omega),if_neg (by omega),if_neg (by omega),if_neg (by omega),if_neg (by omega),if_pos h5];unfold Waz;rw[if_pos cP]
   rw[hq,e];exact Mono.refl
 .obtain⟨r1,r2,_⟩:=Whx (w:={w with now:=w.now+1}) (k:=k) (p:=p) h5;rw[hq,r1,r2];exact Mono.refl
theorem Wod(hM:MI b m H C)(hl:CL2 m C)(h0:0<=i)(h7:i<=7)(ho:owner m i=0):(Wm m i).1=(top (b i) i H).2/\(Wm m i).2.1=(top (b i) i H).1/\∀k c,C k=some c->c.phase=3->pick c.puts i=none:=by
 have cG:∀k c,C k=some c->¬lkd c i:=λk c hc fv=>by
  obtain⟨_,e,q⟩:=hl k c hc;have:=(q.own i h0 h7).2 fv;omega
 obtain⟨e1,e2⟩:=hM.cell i h0 h7 λk c hc _=>cG k c hc;refine⟨e1,e2,λk c hc h3=>?_⟩;cases hp:pick c.puts i with
 |none=>rfl
 |some x=>
  obtain⟨l,bK,e⟩:=Xbs (Whr hp);refine absurd ⟨l,bK,by rw[e],?_⟩ (cG k c hc);unfold lkA;omega
structure PBs(b:Int->Int)(m:Mm)(H:List Wr)(x:Rt):Prop where
 cell:x.busy=true->0<=x.pb.1/\x.pb.1<=7
 rv:x.busy=true->x.pb.2.2.1<=x.rv
 one:x.busy=true->x.pb.2.1=1->x.pb.2.2.1<=(Wm m x.pb.1).2.1
 two:x.busy=true->x.pb.2.1=2->x.pb.2.2.1<=(top (b x.pb.1) x.pb.1 H).1/\((top (b x.pb.1) x.pb.1 H).1=x.pb.2.2.1->x.pb.2.2.2=(top (b x.pb.1) x.pb.1 H).2)
theorem PBs.no(h:x.busy=false):PBs b m H x:=⟨λe=>(by rw[h]at e;cases e),λe=>(by rw[h]at e;cases e),λe=>(by rw[h]at e;cases e),λe=>(by rw[h]at e;cases e)⟩
theorem PBs.mono(h:PBs b m H x)(hm:Mono b m H m' H'):PBs b m' H' x:=by
 refine⟨h.cell,h.rv,λe h1=>?_,λe h2=>?_⟩
 .have:=h.cell e;have:=h.one e h1;have:=hm.ver x.pb.1 (by omega) (by omega);omega
 .obtain⟨a,d⟩:=h.two e h2;rcases hm.top x.pb.1 with t|t
  .exact⟨by omega,λz=>by omega⟩
  .rw[t];exact⟨a,d⟩
end
section
def lst:List Rw->Int->Option Int
 | [],_=>none
 |r::l,c=>match lst l c with
  |some v=>some v
  |none=>if r.1=c then some r.2 else none
theorem WjM(a:List Rw)(b:List Rw)(c:Int):lst (a++b) c=match lst b c with|some v=>some v|none=>lst a c:=by
 induction a with
 |nil=>rw[List.nil_append];cases lst b c<;>rfl
 |cons r a ih=>
  rw[List.cons_append,lst,ih];cases lst b c<;>rfl
theorem WjD{l:List Rw}{c:Int}:∀i,i<=l.length->We1 l c i=lst (l.take i) c
 |0,_=>by simp[We1,lst]
 |i+1,h=>by
  rw[We1,Xbk (by omega),WjM,WjD i (by omega),Wh (show i<l.length by omega)];show _=match(if l[i].1=c then some l[i].2 else none)with|some v=>some v|none=>_
  by_cases h:l[i].1=c
  .rw[if_pos h,if_pos h]
  .rw[if_neg h,if_neg h]
theorem Wav{l:List Rw}(h:WcP l)(hl:l.length<=300):WaL l=true:=by
 unfold WaL;rw[Bool.and_eq_true];exact⟨decide_eq_true hl,Whn.2 h⟩
theorem Wro{l:List Rw}{c:Int}(h:WcP l)(hl:l.length<=300):WaH l c=lst l c:=by
 unfold WaH;rw[if_pos (Wav h hl),WjD _ (Xn _),Xdc]
theorem Wkc{c v:Int}:∀{l:List Rw},lst l c=some v->(c,v)∈l
 | [],h=>by cases h
 |r::l,h=>by
  rw[lst]at h;cases hl:lst l c with
  |some w=>rw[hl]at h;cases h;exact Xe _ (Wkc hl)
  |none=>
   rw[hl]at h;by_cases hc:r.1=c
   .simp only[if_pos hc]at h;cases h;rw[←hc];exact Xh ..
   .simp only[if_neg hc]at h;cases h
theorem Wom{b:List En}{c:Int}{r:Nat×En}(h:ent b c=some r):r.2∈b/\r.2.1=c:=by
 obtain⟨h1,h2,h3,h4⟩:=Wcp h;exact⟨List.mem_of_getElem? h4,by simpa using h1⟩
theorem Woc{b:List En}{c:Int}(h:ent b c=none):∀e∈b,e.1≠c:=λe he=>by
 have:=WfX h e he;simpa using this
theorem Wie{c:Int}{e:En}:∀{rows:List Rw} {b:List En},Ris cfE b->rows.Pairwise (λa b=>a.1<b.1)->
  (e∈WaC c b rows↔(∃r∈rows,e=(r.1,r.2,c))\/(e∈b/\∀r∈rows,r.1≠e.1))
 | [],b,_,_=>by unfold WaC;simp
 |r::rows,b,hb,hr=>by
  obtain⟨gQ,gh⟩:=Xz.1 hr;have:=Wie (c:=c) (e:=e) (rows:=rows) (b:=Wc9 cfE b (r.1,r.2,c)) (WbI WsQ hb) gh;unfold WaC at this⊢;rw[Xau,this,Wa3 WsQ hb];constructor
  .rintro(⟨r',h1,h2⟩|⟨h1|⟨h1,h2⟩,h3⟩)
   .exact .inl ⟨r',Xe _ h1,h2⟩
   .exact .inl ⟨r,Xh ..,h1⟩
   .refine .inr ⟨h1,λr' bh=>?_⟩;rcases Xq.1 bh with rfl|bh
    .rw[apE]at h2;exactλq=>h2 q.symm
    .exact h3 r' bh
  .rintro(⟨r',h1,h2⟩|⟨h1,h2⟩)
   .rcases Xq.1 h1 with rfl|h1
    .refine .inr ⟨.inl h2,λr'' uj=>?_⟩;have:=gQ r'' uj;rw[h2];simp only;omega
    .exact .inl ⟨r',h1,h2⟩
   .refine .inr ⟨.inr ⟨h1,?_⟩,λr' bh=>h2 r' (Xe _ bh)⟩;rw[apE];exactλq=>h2 r (Xh ..) q.symm
def WmM(f:Fm)(k:Int):List Rw:=(f.kids.getD k.toNat {}).writes
def WG(f:Fm)(n:Nat):List Rw:=f.start++((f.order.take n).map (WmM f)).flatten
theorem Wiv{f f':Fm}{n:Nat}(hs:f'.start=f.start)(ho:f'.order.take n=f.order.take n)(hw:∀k∈f.order,WmM f' k=WmM f k):WG f' n=WG f n:=by
 unfold WG;rw[hs,ho];congr 2;exact Xdp λk hk=>hw k (Xbw hk)
def SN(M:Int->Int->Prop)(f:Fm)(x:Kd):Prop:=∀e∈x.seen,
 (e.2.2= -1/\lst (WG f x.since.toNat) e.1=none/\M e.1 e.2.1)\/
 (0<=e.2.2/\e.2.2<=x.since/\lst (WG f e.2.2.toNat) e.1=some e.2.1/\lst (WG f x.since.toNat) e.1=some e.2.1)
structure FT(M:Int->Int->Prop)(f:Fm):Prop where
 buf:∀e∈f.buf,∀n:Nat,e.2.2<=(n:Int)->n<=f.order.length->lst (WG f n) e.1=some e.2.1
 non:∀c:Int,0<=c->c<=7->(∀e∈f.buf,e.1≠c)->∀n:Nat,n<=f.order.length->lst (WG f n) c=none
 sn:∀(k:Nat) (h:k<f.kids.length),SN M f f.kids[k]
 nod:f.order.Nodup
 ord:∀k∈f.order,0<=k/\∃h:k.toNat<f.kids.length,f.kids[k.toNat].phase=3
theorem FT.wk{M M':Int->Int->Prop}{f:Fm}(h:FT M f)(hM:∀c v,M c v->M' c v):FT M' f:=
 ⟨h.buf,h.non,λk hk e he=>(h.sn k hk e he).imp (λ⟨a,b,c⟩=>⟨a,b,hM _ _ c⟩) id,h.nod,h.ord⟩
section
variable{M:Int->Int->Prop}{N:Nat}{codes:List (List Opn)}{n:Int}{f:Fm}{k:Nat}{code:List Opn}{m:Mm}{x y:Kd}
theorem Wvx(hk:k<f.kids.length):f.kids.getD k {}=f.kids[k]:=by rw[Xac,Xp hk];rfl
theorem FT.put(h:FT M f)(hk:k<f.kids.length)(hp:f.kids[k].phase≠3){g:Fm}(hs:g.start=f.start)(ho:g.order=f.order)(hb:g.buf=f.buf)(hg:g.kids=f.kids.set k y)(hy:SN M f y):FT M g:=by
 have hw:∀j∈f.order,WmM g j=WmM f j:=λj hj=>by
  obtain⟨j0,j1,j2⟩:=h.ord j hj;unfold WmM;have hne:k≠j.toNat:=λe=>by subst e;exact hp j2
  rw[hg,Xac,Xac,Xda hne]
 have hr:∀n,WG g n=WG f n:=λn=>Wiv hs (by rw[ho]) hw;refine⟨λe he n h1 h2=>?_,λc c0 c7 hc n hn=>?_,λj hj e he=>?_,by rw[ho];exact h.nod,λj hj=>?_⟩
 .rw[hr];exact h.buf e (by rw[←hb];exact he) n h1 (by rw[←ho];exact h2)
 .rw[hr];exact h.non c c0 c7 (by rw[←hb];exact hc) n (by rw[←ho];exact hn)
 .rw[hr,hr];have hj':j<f.kids.length:=by rw[hg,Xaf]at hj;exact hj
  have cH:g.kids[j]=if k=j then y else f.kids[j]:=by simp only[hg,Xao]
  rw[cH]at he⊢;split at he
  .rename_i e1;rw[if_pos e1];exact hy e he
  .rename_i e1;rw[if_neg e1];exact h.sn j hj' e he
 .rw[ho]at hj;obtain⟨j0,j1,j2⟩:=h.ord j hj;refine⟨j0,by rw[hg,Xaf];exact j1,?_⟩;simp only[hg,Xao];split
  .rename_i e;subst e;exact absurd j2 hp
  .exact j2
theorem SN.nil(h:x.seen= []):SN M f x:=λe he=>by rw[h]at he;cases he
theorem SN.same(h:SN M f x)(hs:y.seen=x.seen)(hq:y.since=x.since):SN M f y:=λe he=>by rw[hq];exact h e (by rw[←hs];exact he)
theorem SN.snoc(h:SN M f x){e:En}(hs:y.seen=x.seen++ [e])(hq:y.since=x.since)(he:(e.2.2= -1/\lst (WG f x.since.toNat) e.1=none/\M e.1 e.2.1)\/(0<=e.2.2/\e.2.2<=x.since/\lst (WG f e.2.2.toNat) e.1=some e.2.1/\lst (WG f x.since.toNat) e.1=some e.2.1)):SN M f y:=λz hz=>by
 rw[hs]at hz;rw[hq];rcases Xl.1 hz with hz|hz
 .exact h z hz
 .rw[Xx.1 hz];exact he
def RdM(M:Int->Int->Prop)(m:Mm)(rv:Int)(x:Kd)(c:Int):Prop:=(WO m rv (if x.busy then x.pb else(c,0,0,0))).2.1=3->M c (WO m rv (if x.busy then x.pb else(c,0,0,0))).2.2.2
theorem WsI(h:FT M f)(hF:FOk codes n f)(hk:k<f.kids.length)(hx:f.kids[k]=x){o:Opn}(ho:0<=o.2.2.1/\o.2.2.1<=7)(gF:RdM M m f.rv x o.2.2.1):SN M f (WbA m f x o).2:=by
 unfold RdM at gF;have hs:SN M f x:=hx▸h.sn k hk;have gt:=hF.kid k hk;rw[hx]at gt;have hcl:=hF.clock;have sa:=gt.since;unfold WbA;cases hl:WaH x.writes o.2.2.1 with
 |some v=>exact hs.same rfl rfl
 |none=>
  cases he:ent f.buf o.2.2.1 with
  |some r=>
   simp only;split
   .exact SN.nil rfl
   .rename_i hv;obtain⟨e1,e2⟩:=Wom he;have sc:=hF.bufE _ e1;refine hs.snoc (e:=r.2) rfl rfl (.inr ⟨sc.2.2.1,by omega,?_,?_⟩)
    .exact h.buf _ e1 _ (by omega) (by omega)
    .exact h.buf _ e1 _ (by omega) (by omega)
  |none=>
   simp only;generalize WO m f.rv (if x.busy then x.pb else(o.2.2.1,0,0,0))=pb at gF;split
   .exact hs.same rfl rfl
   .split
    .rename_i h3;exact hs.snoc (e:=(o.2.2.1,_,-1)) rfl rfl (.inl ⟨rfl,h.non _ ho.1 ho.2 (Woc he) _ (by omega),gF h3⟩)
    .exact hs.same rfl rfl
theorem Wq0(hs:SN M f x):SN M f (Wf3 x code):=by
 unfold Wf3;split
 .exact hs.same rfl rfl
 .exact hs.same rfl rfl
theorem Wry(h:FT M f)(hF:FOk codes n f)(hk:k<f.kids.length)(hx:f.kids[k]=x)(h2:x.phase=2)(bD:code.length<=24)(aC:codes.getD k []=code):FT M (Fm.put (Wa1 f x k) k):=by
 have gt:=hF.kid k hk;rw[hx,aC]at gt;have hcl:=hF.clock;have lL:x.writes.length<=300:=by have:=gt.wl;have:=gt.pc;omega
 have kK:∀c,WaH x.writes c=lst x.writes c:=λc=>Wro gt.rows lL;have yu:(k:Int)∉f.order:=λhmem=>by
  obtain⟨_,j1,j2⟩:=h.ord _ hmem;simp only[Xj]at j2;rw[hx]at j2;omega
 let g:=Fm.put (Wa1 f x k) k
 have g1:g.start=f.start:=rfl;have g2:g.order=f.order++ [(k:Int)]:=rfl;have g3:g.kids=f.kids.set k {x with phase:=3,pos:=0,marks:=[]}:=rfl;have g4:g.buf=WaC (f.clock+1) f.buf (WbR x.writes):=rfl;have hw:∀j∈f.order,WmM g j=WmM f j:=λj hj=>by
  obtain⟨j0,j1,j2⟩:=h.ord j hj;unfold WmM;have hne:k≠j.toNat:=λe=>by subst e;rw[hx]at j2;omega
  rw[g3,Xac,Xac,Xda hne]
 have yv:WmM g k=x.writes:=by
  unfold WmM;rw[Xj,g3,Xac,Xds hk];rfl
 have hr:∀n,n<=f.order.length->WG g n=WG f n:=λn hn=>Wiv g1 (by rw[g2,List.take_append_of_le_length hn]) hw;have gQ:WG g (f.order.length+1)=WG f f.order.length++x.writes:=by
  unfold WG;rw[g1,g2,Xbx (by simp),Xdc,Xr,Xgg,Xbn];congr 2
  .congr 1;exact Xdp hw
  .simp[yv]
 have uk:=Wgs x.writes;have hne:∀c,0<=c->c<=7->(∀r∈WbR x.writes,r.1≠c)->lst x.writes c=none:=λc h0 h7 cG=>by
  cases hl:lst x.writes c with
  |none=>rfl
  |some v=>exact absurd rfl (cG (c,v) (Whl.2 ⟨⟨h0,h7⟩,by rw[kK];exact hl⟩))
 refine⟨λe he n h1 h2=>?_,λc c0 c7 hc n hn=>?_,λj hj e he=>?_,?_,λj hj=>?_⟩
 .have ie:n<=f.order.length+1:=by change n<=g.order.length at h2;rw[g2]at h2;simpa using h2
  show lst (WG g n) e.1=_;have ew:e∈WaC (f.clock+1) f.buf (WbR x.writes):=he;rcases(Wie hF.bufR uk).1 ew with⟨r,bh,rfl⟩|⟨hb,cG⟩
  .simp only at h1;have:n=f.order.length+1:=by omega
   subst this;rw[gQ,WjM];have:=(Whl.1 bh).2;rw[kK]at this;simp only[this]
  .by_cases hn:n<=f.order.length
   .rw[hr n hn];exact h.buf e hb n h1 hn
   .have:n=f.order.length+1:=by omega
    subst this;have sc:=hF.bufE e hb;rw[gQ,WjM,hne e.1 sc.1.1 sc.1.2 cG];exact h.buf e hb _ (by omega) (Xn _)
 .have ie:n<=f.order.length+1:=by change n<=g.order.length at hn;rw[g2]at hn;simpa using hn
  show lst (WG g n) c=_;have fJ:∀e∈WaC (f.clock+1) f.buf (WbR x.writes),e.1≠c:=hc;have cG:∀r∈WbR x.writes,r.1≠c:=λr bh=>fJ _ ((Wie (e:=(r.1,r.2,f.clock+1)) hF.bufR uk).2 (.inl ⟨r,bh,rfl⟩));have od:∀e∈f.buf,e.1≠c:=λe he q=>fJ e ((Wie hF.bufR uk).2 (.inr ⟨he,λr bh=>by rw[q];exact cG r bh⟩)) q;by_cases sq:n<=f.order.length
  .rw[hr n sq];exact h.non c c0 c7 od n sq
  .have:n=f.order.length+1:=by omega
   subst this;rw[gQ,WjM,hne c c0 c7 cG];exact h.non c c0 c7 od _ (Xn _)
 .have hj':j<f.kids.length:=by
   have:(Fm.put (Wa1 f x k) k).kids.length=f.kids.length:=by show(f.kids.set k _).length=_;rw[Xaf]
   omega
  have cH:(Fm.put (Wa1 f x k) k).kids[j]=if k=j then{x with phase:=3,pos:=0,marks:=[]}else f.kids[j]:=by
   have hq:(Fm.put (Wa1 f x k) k).kids=f.kids.set k {x with phase:=3,pos:=0,marks:=[]}:=rfl;simp only[hq,Xao]
  have um:SN M f ((Fm.put (Wa1 f x k) k).kids[j])/\((Fm.put (Wa1 f x k) k).kids[j]).since<=f.clock:=by
   rw[cH];split
   .exact⟨(hx▸h.sn k hk:SN M f x).same rfl rfl,gt.since.2⟩
   .exact⟨h.sn j hj',(hF.kid j hj').since.2⟩
  generalize (Fm.put (Wa1 f x k) k).kids[j]=z at*;show _\/(_/\_/\lst (WG g e.2.2.toNat) _=_/\lst (WG g z.since.toNat) _=_);have uq:=um.1 e he;rcases uq with⟨a,b,c⟩|⟨a,b,c,d⟩
  .left;refine⟨a,?_,c⟩;show lst (WG g _) _=_;rw[hr _ (by omega)];exact b
  .right;rw[hr _ (by omega),hr _ (by omega)];exact⟨a,b,c,d⟩
 .show(f.order++ [(k:Int)]).Nodup;rw[List.nodup_append];refine⟨h.nod,by simp,λa ha b hb=>?_⟩;rw[Xx.1 hb]
  exactλq=>yu (q▸ha)
 .have hj':j∈f.order++ [(k:Int)]:=hj;have hlen:(Fm.put (Wa1 f x k) k).kids=f.kids.set k {x with phase:=3,pos:=0,marks:=[]}:=rfl;rcases Xl.1 hj' with hj'|hj'
  .obtain⟨j0,j1,j2⟩:=h.ord j hj';refine⟨j0,by rw[hlen,Xaf];exact j1,?_⟩;simp only[hlen,Xao];split
   .rfl
   .exact j2
  .rw[Xx.1 hj'];refine⟨by omega,by rw[hlen,Xaf];exact hk,?_⟩;simp only[hlen,Xj,Xfx]
theorem WtD(h:FT M f)(hF:FOk codes n f)(hk:k<f.kids.length)(bD:KC code)(aC:codes.getD k []=code)
  (gF:f.kids[k].phase=0->f.kids[k].pc<code.length->(opN code f.kids[k].pc).1=5->RdM M m f.rv f.kids[k] (opN code f.kids[k].pc).2.2.1):FT M (WaI m f k code):=by
 unfold WaI;split
 .exact h
 .rw[Wvx hk];obtain⟨x,hx⟩:∃x,f.kids[k]=x:=⟨_,rfl⟩;have hs:SN M f x:=hx▸h.sn k hk;have gt:=hF.kid k hk;rw[hx]at gF⊢;rw[hx,aC]at gt;unfold Wbc;by_cases h0:x.phase=0
  .rw[if_pos h0];have hp:f.kids[k].phase≠3:=by rw[hx];omega
   unfold Wl1;split
   .exact h.put hk hp rfl rfl rfl rfl (hs.same rfl rfl)
   .rename_i bf;have bf:=Int.not_le.1 bf;simp only;split
    .rename_i h5;have aq:0<=(opN code x.pc).2.2.1/\(opN code x.pc).2.2.1<=7:=by
      obtain⟨i,hi,e1,e2⟩:=We5 gt.pc.1 bf;have:=(WtZ (bD.ok i hi).1 (by rw[←e2];exact h5)).2;rw[←e2]at this;unfold W2 at this;simp at this;exact this
     have um:=WsI (o:=opN code x.pc) h hF hk hx aq (gF h0 (by omega) h5);have aM:(WbA m f x (opN code x.pc)).1.start=f.start/\(WbA m f x (opN code x.pc)).1.order=f.order/\(WbA m f x (opN code x.pc)).1.buf=f.buf/\(WbA m f x (opN code x.pc)).1.kids=f.kids:=by
      unfold WbA;cases WaH x.writes (opN code x.pc).2.2.1 with
      |some v=>exact⟨rfl,rfl,rfl,rfl⟩
      |none=>
       cases ent f.buf (opN code x.pc).2.2.1 with
       |some r=>simp only;split<;>exact⟨rfl,rfl,rfl,rfl⟩
       |none=>
        simp only;generalize WO m f.rv _=pb;split
        .exact⟨rfl,rfl,rfl,rfl⟩
        .split<;>exact⟨rfl,rfl,rfl,rfl⟩
     exact h.put hk hp aM.1 aM.2.1 aM.2.2.1 (by show Xm (WbA ..).1.kids _ _=_;rw[aM.2.2.2]) um
    .split
     .exact h.put hk hp rfl rfl rfl rfl (Wq0 hs)
     .repeat' split
      all_goals exact h.put hk hp rfl rfl rfl rfl (hs.same rfl rfl)
  .rw[if_neg h0];split
   .have hp:f.kids[k].phase≠3:=by rw[hx];omega
    split
    .exact h.put hk hp rfl rfl rfl rfl (hs.same rfl rfl)
    .exact h.put hk hp rfl rfl rfl rfl (hs.same rfl rfl)
   .split
    .rename_i h2;have hp:f.kids[k].phase≠3:=by rw[hx];omega
     split
     .exact Wry h hF hk hx h2 bD.len aC
     .simp only;split
      .exact h.put hk hp rfl rfl rfl rfl (hs.same rfl rfl)
      .exact h.put hk hp rfl rfl rfl rfl (SN.nil rfl)
    .have e:Fm.put (f,x) k=f:=by
      unfold Fm.put;simp only;rw[←hx,List.set_getElem_self hk]
     rw[e];exact h
theorem Wrz{r:Rw}:∀{l:List Rw},l.Pairwise (λa b=>a.1<b.1)->r∈l->lst l r.1=some r.2
 | [],_,h=>by cases h
 |a::l,hp,hm=>by
  obtain⟨p1,p2⟩:=Xz.1 hp;rw[lst];rcases Xq.1 hm with rfl|hm
  .cases hl:lst l r.1 with
   |some v=>have:=p1 _ (Wkc hl);simp only at this;omega
   |none=>simp
  .rw[Wrz p2 hm]
theorem Wrp{rv:Int}{regs:List Int}{writes:List Rw}{kids:Nat}:FT M (WaZ rv regs writes kids):=by
 have hr:∀n,WG (WaZ rv regs writes kids) n=WbR writes:=λn=>by
  unfold WG WaZ;simp
 have ur:∀r∈WbR writes,lst (WbR writes) r.1=some r.2:=λr bh=>Wrz (Wgs writes) bh;refine⟨λe he n h1 h2=>?_,λc c0 c7 hc n hn=>?_,λj hj e he=>?_,List.nodup_nil,λk hk=>by cases hk⟩
 .rw[hr];obtain⟨r,h3,rfl⟩:=Xv.1 (show e∈(WbR writes).map λr=>((r.1,r.2,0):En)from he);exact ur r h3
 .rw[hr];cases hl:lst (WbR writes) c with
  |none=>rfl
  |some v=>exact absurd rfl (hc (c,v,0) (Xv.2 ⟨(c,v),Wkc hl,rfl⟩))
 .have:(WaZ rv regs writes kids).kids[j]={regs:=regs}:=Xbh ..;rw[this]at he;cases he
end
end
section
noncomputable def mt(l:List Opn)(m:Nat):Nat:=@dite _ (∃k,Mate l m k) (Classical.propDecidable _) (λh=>Classical.choose h) λ_=>0
abbrev Mk:=Int×Int×List Int
structure KS where
 regs:List Int
 cells:List Int
 log:List Rw
 back:Int
 marks:List Mk
 reads:List Int
def zMk:Mk:=(0,0,[])
def WuE(s:KS):Mk:=s.marks.getD (s.marks.length-1) zMk
def Wwh(l:List Opn)(i:Nat):Opn:=l.getD i (0,0,0,0)
noncomputable def WvC(l:List Opn)(pc:Nat)(s:KS)(o:Opn):Bool×Nat×KS:=
 bif o.1==5 then(true,pc+1,{s with regs:=s.regs.set o.2.1.toNat (s.cells.getD o.2.2.1.toNat 0),reads:=bif s.log.any (λr=>r.1==o.2.2.1)then s.reads else s.reads++ [o.2.2.1]})else
 bif o.1==6 then(true,pc+1,{s with cells:=s.cells.set o.2.1.toNat (s.regs.getD o.2.2.1.toNat 0),log:=s.log++ [(o.2.1,s.cells.getD o.2.1.toNat 0)]})else
 bif o.1==7 then(true,bif s.regs.getD o.2.1.toNat 0==0 then pc+1+o.2.2.1.toNat else pc+1,s)else
 bif o.1==8 then(true,pc+1,{s with marks:=s.marks++ [((pc:Int),(s.log.length:Int),s.regs)]})else
 bif o.1==9 then(true,pc+1,{s with marks:=s.marks.take (s.marks.length-1),regs:=s.regs.set (Wwh l (WuE s).1.toNat).2.1.toNat 1})else
 bif o.1==10 then
  (bif s.marks.isEmpty then(false,pc,{s with cells:=Www s.cells s.log,log:=[],back:=s.back+s.log.length})
  else(true,mt l (WuE s).1.toNat+1,{s with cells:=Www s.cells (s.log.drop (WuE s).2.1.toNat),log:=s.log.take (WuE s).2.1.toNat,back:=s.back+s.log.length-(WuE s).2.1,marks:=s.marks.take (s.marks.length-1),regs:=(WuE s).2.2.set (Wwh l (WuE s).1.toNat).2.1.toNat 0}))
 else(true,pc+1,{s with regs:=WmP o s.regs})
noncomputable def Wtj(l:List Opn)(pc:Nat)(s:KS):Bool×Nat×KS:=WvC l pc s (Wwh l pc)
structure KI(l:List Opn)(pc:Nat)(s:KS):Prop where
 pcl:pc<=l.length
 rg:Vals 4 s.regs
 cl:Vals 8 s.cells
 lg:WcP s.log/\s.log.length<=pc
 mp:s.marks.map (·.1)=(stk l pc).map λm:Nat=>(m:Int)
 mr:∀m∈s.marks,Vals 4 m.2.2/\0<=m.2.1/\m.2.1<=s.log.length
 mo:s.marks.Pairwise λa b=>a.2.1<=b.2.1
 bk:0<=s.back/\s.back<=24*pc
 rd:s.reads.length<=pc/\∀x∈s.reads,0<=x/\x<=7
section
variable{l:List Opn}{pc:Nat}{s:KS}
end
noncomputable def WvX(l:List Opn):Nat->Nat->KS->Bool×KS
 |0,_,s=>(false,s)
 |n+1,pc,s=>bif decide (pc<l.length)then(bif (Wtj l pc s).1 then WvX l n (Wtj l pc s).2.1 (Wtj l pc s).2.2 else(true,(Wtj l pc s).2.2))else(false,s)
def ks0(regs cells:List Int):KS:=⟨regs,cells,[],0,[],[]⟩
section
variable{N:Nat}{l:List Opn}{regs cells:List Int}
end
section
variable{N:Nat}{l:List Opn}{R:Type}
end
end
section
def ovl(c:List Int)(rows:List Rw):List Int:=rows.foldl (λc r=>c.set r.1.toNat r.2) c
theorem Wq8(c:List Int)(a b:List Rw):ovl c (a++b)=ovl (ovl c a) b:=by unfold ovl;rw[Xen]
theorem Wc3:∀{l:List Rw} {c:List Int},Vals 8 c->WcP l->Vals 8 (ovl c l)
 | [],c,h,_=>h
 |r::l,c,h,hr=>Wc3 (l:=l) (h.set r.1.toNat (hr r (Xh ..)).2) λx hx=>hr x (Xe _ hx)
theorem WkA{c:Int}:∀{l:List Rw} {A:List Int},Vals 8 A->WcP l->0<=c->c<=7->(ovl A l).getD c.toNat 0=match lst l c with|some v=>v|none=>A.getD c.toNat 0
 | [],A,_,_,_,_=>rfl
 |r::l,A,hA,hr,h0,h7=>by
  have mf:=hr r (Xh ..);have ih:=WkA (c:=c) (l:=l) (A:=A.set r.1.toNat r.2) (hA.set r.1.toNat mf.2) (λx hx=>hr x (Xe _ hx)) h0 h7;show(ovl (A.set r.1.toNat r.2) l).getD c.toNat 0=_;rw[ih,lst];cases lst l c with
  |some v=>rfl
  |none=>
   simp only;by_cases hc:r.1=c
   .rw[if_pos hc,←hc,Xac,Xds (by rw[hA.len];omega)];rfl
   .rw[if_neg hc,Xac,Xac,Xda (by omega)]
def Wwx:List Int->List Rw->List Rw
 |_,[]=>[]
 |A,r::l=>(r.1,A.getD r.1.toNat 0)::Wwx (A.set r.1.toNat r.2) l
structure EM(A:List Int)(x:Kd)(s:KS):Prop where
 regs:s.regs=x.regs
 cells:s.cells=ovl A x.writes
 log:s.log=Wwx A x.writes
 marks:s.marks=x.marks
def Sim(code:List Opn)(r0:List Int)(x:Kd):Prop:=∀A:List Int,Vals 8 A->(∀e∈x.seen,A.getD e.1.toNat 0=e.2.1)->∀F:Nat,25<=F->
 (x.phase=0/\∃(j:Nat) (s:KS),(j:Int)<=x.pc/\EM A x s/\KI code x.pc.toNat s/\WvX code F 0 (ks0 r0 A)=WvX code (F-j) x.pc.toNat s)\/
 (x.phase≠0/\((x.out=1/\∃s:KS,s.regs=x.regs/\s.cells=ovl A x.writes/\WvX code F 0 (ks0 r0 A)=(false,s))\/(x.out=2/\x.writes= []/\∃s,s.cells=A/\WvX code F 0 (ks0 r0 A)=(true,s))))
section
variable{M:Int->Int->Prop}{N:Nat}{codes:List (List Opn)}{n:Int}{f:Fm}{k:Nat}{code:List Opn}{m:Mm}{x y:Kd}{r0:List Int}
theorem Sim.same(h:Sim code r0 x)(h0:y.phase=x.phase)(hp:y.pc=x.pc)(hg:y.regs=x.regs)(hw:y.writes=x.writes)(hm:y.marks=x.marks)(hs:y.seen=x.seen)(ho:y.out=x.out):Sim code r0 y:=λA hA kO F hF=>by
 rcases h A hA (λe he=>kO e (by rw[hs];exact he)) F hF with⟨a,j,s,b,c,d,e⟩|⟨a,⟨b,s,c,c',d⟩|⟨b,c,s,d,e⟩⟩
 .exact .inl ⟨by rw[h0];exact a,j,s,by rw[hp];exact b,⟨by rw[hg];exact c.regs,by rw[hw];exact c.cells,by rw[hw];exact c.log,by rw[hm];exact c.marks⟩,by rw[hp];exact d,by rw[hp];exact e⟩
 .exact .inr ⟨by rw[h0];exact a,.inl ⟨by rw[ho];exact b,s,by rw[hg];exact c,by rw[hw];exact c',d⟩⟩
 .exact .inr ⟨by rw[h0];exact a,.inr ⟨by rw[ho];exact b,by rw[hw];exact c,s,d,e⟩⟩
theorem EM.cell{A:List Int}{s:KS}(h:EM A x s)(hA:Vals 8 A)(hr:WcP x.writes){c:Int}(h0:0<=c)(h7:c<=7):s.cells.getD c.toNat 0=match lst x.writes c with|some v=>v|none=>A.getD c.toNat 0:=by
 rw[h.cells,WkA hA hr h0 h7]
end
end
section
section
variable{M:Int->Int->Prop}{N:Nat}{codes:List (List Opn)}{n:Int}{f g:Fm}{k:Nat}{code:List Opn}{m:Mm}{x y:Kd}{r0:List Int}
def VL(f:Fm)(x:Kd):Prop:=∀j:Nat,(j:Int)<x.pos->∀h:j<x.seen.length,Wt9 f.buf x.seen[j].1=x.seen[j].2.2
structure FV(M:Int->Int->Prop)(codes:List (List Opn))(f:Fm):Prop where
 sim:∀(k:Nat) (h:k<f.kids.length),Sim (codes.getD k []) f.regs f.kids[k]
 own:∀(k:Nat) (h:k<f.kids.length),f.kids[k].phase=2->f.owner=(k:Int)+1
 val:∀(k:Nat) (h:k<f.kids.length),f.kids[k].phase=2->VL f f.kids[k]
 pz:∀(k:Nat) (h:k<f.kids.length),f.kids[k].phase≠2->f.kids[k].pos=0
 mrg:∀(i:Nat) (h:i<f.order.length),∀e∈(f.kids.getD f.order[i].toNat {}).seen,lst (WG f i) e.1=some e.2.1\/(lst (WG f i) e.1=none/\M e.1 e.2.1)
theorem FV.put(hv:FV M codes f)(h:FT M f)(hk:k<f.kids.length)(hp:f.kids[k].phase≠3)(hs:g.start=f.start)(ho:g.order=f.order)(hb:g.buf=f.buf)(hg:g.kids=f.kids.set k y)(hr:g.regs=f.regs)
  (ut:Sim (codes.getD k []) f.regs y) (hown:∀(j:Nat) (hj:j<f.kids.length),j≠k->f.kids[j].phase=2->g.owner=(j:Int)+1) (hy:y.phase=2->g.owner=(k:Int)+1/\VL f y) (yw:y.phase≠2->y.pos=0):FV M codes g:=by
 have cH:∀(j:Nat) (hj:j<g.kids.length) (hj':j<f.kids.length),g.kids[j]=if k=j then y else f.kids[j]:=λj hj hj'=>by simp only[hg,Xao]
 have hlen:g.kids.length=f.kids.length:=by rw[hg,Xaf]
 have hne:∀j∈f.order,k≠j.toNat:=λj hj e=>by
  obtain⟨j0,j1,j2⟩:=h.ord j hj;subst e;exact hp j2
 have oZ:∀j∈f.order,g.kids.getD j.toNat {}=f.kids.getD j.toNat {}:=λj hj=>by
  rw[hg,Xac,Xac,Xda (hne j hj)]
 have iV:∀n,WG g n=WG f n:=λn=>Wiv hs (by rw[ho]) λj hj=>by unfold WmM;rw[oZ j hj]
 refine⟨λj hj=>?_,λj hj dI=>?_,λj hj dI=>?_,λj hj dI=>?_,λi hi e he=>?_⟩
 .rw[cH j hj (by omega),hr];split
  .rename_i e;subst e;exact ut
  .exact hv.sim j (by omega)
 .rw[cH j hj (by omega)]at dI;split at dI
  .rename_i e;subst e;exact(hy dI).1
  .rename_i e;exact hown j (by omega) (λq=>e q.symm) dI
 .rw[cH j hj (by omega)]at dI⊢;unfold VL;rw[hb];split at dI
  .rename_i e;rw[if_pos e];exact(hy dI).2
  .rename_i e;rw[if_neg e];exact hv.val j (by omega) dI
 .rw[cH j hj (by omega)]at dI⊢;split at dI
  .rename_i e;rw[if_pos e];exact yw dI
  .rename_i e;rw[if_neg e];exact hv.pz j (by omega) dI
 .have dy:i<f.order.length:=by rw[←ho];exact hi
  have e1:g.order[i]=f.order[i]:=by simp only[ho]
  rw[e1,oZ _ (Xo dy)]at he;rw[iV];exact hv.mrg i dy e he
end
end
section
section
variable{M:Int->Int->Prop}{Z:Pb->Prop}{N:Nat}{codes:List (List Opn)}{n:Int}{f g:Fm}{k:Nat}{code:List Opn}{m:Mm}{x y:Kd}{rv:Int}
def PK(Z:Pb->Prop)(code:List Opn)(f:Fm)(x:Kd):Prop:=x.busy=true->x.phase=0/\x.pc<code.length/\(opN code x.pc).1=5/\Z x.pb/\x.pb.1=(opN code x.pc).2.2.1/\WaH x.writes (opN code x.pc).2.2.1=none/\∀e∈f.buf,e.1=(opN code x.pc).2.2.1->x.since<e.2.2
def ZS(M:Int->Int->Prop)(Z Z':Pb->Prop)(m:Mm)(rv:Int):Prop:=∀(c:Int) (p:Pb),0<=c->c<=7->(p=(c,0,0,0)\/(Z p/\p.1=c))->
 (WO m rv p).2.1=4\/((WO m rv p).2.1=3/\M c (WO m rv p).2.2.2)\/((WO m rv p).2.1≠3/\Z' (WO m rv p)/\(WO m rv p).1=c)
theorem PK.no(h:x.busy=false):PK Z code f x:=λe=>by rw[h]at e;cases e
theorem Wvy(hz:ZS M Z Z m rv)(h:PK Z code f x)(ho:0<=(opN code x.pc).2.2.1/\(opN code x.pc).2.2.1<=7):RdM M m rv x (opN code x.pc).2.2.1:=by
 unfold RdM;have key:∀p,(p=((opN code x.pc).2.2.1,0,0,0)\/(Z p/\p.1=(opN code x.pc).2.2.1))->(WO m rv p).2.1=3->M (opN code x.pc).2.2.1 (WO m rv p).2.2.2:=λp hp h3=>by
  rcases hz _ p ho.1 ho.2 hp with a|⟨_,a⟩|⟨a,_⟩
  .omega
  .exact a
  .exact absurd h3 a
 by_cases hb:x.busy=true
 .rw[if_pos hb];have:=h hb;exact key _ (.inr ⟨this.2.2.2.1,this.2.2.2.2.1⟩)
 .rw[if_neg hb];exact key _ (.inl rfl)
theorem Wi5{o:Opn}:(WbA m f x o).1.rv=f.rv/\(WbA m f x o).1.regs=f.regs/\(WbA m f x o).1.start=f.start/\(WbA m f x o).1.kids=f.kids/\(WbA m f x o).1.buf=f.buf:=by
 unfold WbA;cases WaH x.writes o.2.2.1 with
 |some v=>exact⟨rfl,rfl,rfl,rfl,rfl⟩
 |none=>
  cases ent f.buf o.2.2.1 with
  |some r=>simp only;split<;>exact⟨rfl,rfl,rfl,rfl,rfl⟩
  |none=>
   simp only;generalize WO m f.rv _=pb;split
   .exact⟨rfl,rfl,rfl,rfl,rfl⟩
   .split<;>exact⟨rfl,rfl,rfl,rfl,rfl⟩
theorem Wpf:(Wbc m f x k code).1.rv=f.rv/\(Wbc m f x k code).1.regs=f.regs/\(Wbc m f x k code).1.start=f.start/\(Wbc m f x k code).1.kids=f.kids/\
  ((Wbc m f x k code).1.buf=f.buf\/(Wbc m f x k code).1.buf=WaC (f.clock+1) f.buf (WbR x.writes)):=by
 unfold Wbc;split
 .unfold Wl1;split
  .exact⟨rfl,rfl,rfl,rfl,.inl rfl⟩
  .simp only;split
   .obtain⟨a,b,c,d,e⟩:=Wi5 (m:=m) (f:=f) (x:=x) (o:=opN code x.pc);exact⟨a,b,c,d,.inl e⟩
   .repeat' split
    all_goals exact⟨rfl,rfl,rfl,rfl,.inl rfl⟩
 .split
  .split<;>exact⟨rfl,rfl,rfl,rfl,.inl rfl⟩
  .split
   .split
    .exact⟨rfl,rfl,rfl,rfl,.inr rfl⟩
    .simp only;split<;>exact⟨rfl,rfl,rfl,rfl,.inl rfl⟩
   .exact⟨rfl,rfl,rfl,rfl,.inl rfl⟩
theorem PK.buf(h:PK Z code f x)(hb:g.buf=f.buf\/∃rows,rows.Pairwise (λa b:Rw=>a.1<b.1)/\g.buf=WaC (f.clock+1) f.buf rows)(hF:Ris cfE f.buf)(hs:x.since<=f.clock):PK Z code g x:=λhx=>by
 obtain⟨a,b,c,d,e,f1,f2⟩:=h hx;refine⟨a,b,c,d,e,f1,λz hz hc=>?_⟩;rcases hb with hb|⟨rows,hr,hb⟩
 .rw[hb]at hz;exact f2 z hz hc
 .rw[hb]at hz;rcases(Wie hF hr).1 hz with⟨r,_,rfl⟩|⟨h1,_⟩
  .simp only;omega
  .exact f2 z h1 hc
theorem PK.same(h:PK Z code f x)(hb:y.busy=x.busy)(h1:x.busy=true->y.phase=x.phase/\y.pc=x.pc/\y.pb=x.pb/\y.writes=x.writes/\y.since=x.since):PK Z code f y:=λhy=>by
 rw[hb]at hy;obtain⟨a1,a2,a3,a4,a5⟩:=h1 hy;rw[a1,a2,a3,a4,a5];exact h hy
theorem WsX(hz:ZS M Z Z m f.rv)(bD:KC code)(gt:KOk code f.clock n x)(h:PK Z code f x):(Wbc m f x k code).1.lost=true\/PK Z code f (Wbc m f x k code).2:=by
 unfold Wbc;by_cases h0:x.phase=0
 .rw[if_pos h0];unfold Wl1;by_cases hp:x.pc>=code.length
  .rw[if_pos hp];refine .inr (PK.no ?_);by_cases hb:x.busy=true
   .have:=h hb;omega
   .simpa using hb
  .rw[if_neg hp];simp only;by_cases h5:(opN code x.pc).1=5
   .rw[if_pos h5];have aq:0<=(opN code x.pc).2.2.1/\(opN code x.pc).2.2.1<=7:=by
     obtain⟨i,hi,e1,e2⟩:=We5 (l:=code) gt.pc.1 (by omega);have:=(WtZ (bD.ok i hi).1 (by rw[←e2];exact h5)).2;rw[←e2]at this;unfold W2 at this;simp at this;exact this
    unfold WbA;cases kK:WaH x.writes (opN code x.pc).2.2.1 with
    |some v=>
     refine .inr (PK.no ?_);by_cases hb:x.busy=true
     .have:=(h hb).2.2.2.2.2.1;rw[kK]at this;cases this
     .simpa using hb
    |none=>
     cases he:ent f.buf (opN code x.pc).2.2.1 with
     |some r=>
      simp only;split
      .exact .inr (PK.no rfl)
      .rename_i hv;refine .inr (PK.no ?_);by_cases hb:x.busy=true
       .obtain⟨e1,e2⟩:=Wom he;have:=(h hb).2.2.2.2.2.2 _ e1 e2;omega
       .simpa using hb
     |none=>
      simp only;have fK:=hz (opN code x.pc).2.2.1 (if x.busy=true then x.pb else((opN code x.pc).2.2.1,0,0,0)) aq.1 aq.2 (by
       by_cases hb:x.busy=true
       .rw[if_pos hb];have:=h hb;exact .inr ⟨this.2.2.2.1,this.2.2.2.2.1⟩
       .rw[if_neg hb];exact .inl rfl)
      generalize WO m f.rv _=pb at*;by_cases h4:pb.2.1=4
      .rw[if_pos h4];exact .inl rfl
      .rw[if_neg h4];right;by_cases h3:pb.2.1=3
       .rw[if_pos h3];exact PK.no rfl
       .rw[if_neg h3];rcases fK with q|⟨q,_⟩|⟨_,q1,q2⟩
        .exact absurd q h4
        .exact absurd q h3
        .exactλ_=>⟨h0,by show x.pc<_;omega,h5,q1,q2,kK,λe ew hc=>absurd hc (Woc he e ew)⟩
   .rw[if_neg h5];have hb:x.busy=false:=by
     by_cases hb:x.busy=true
     .exact absurd (h hb).2.2.1 h5
     .simpa using hb
    split
    .refine .inr (PK.no ?_);unfold Wf3;split<;>exact hb
    .repeat' split
     all_goals exact .inr (PK.no hb)
 .rw[if_neg h0];have hb:x.busy=false:=by
   by_cases hb:x.busy=true
   .exact absurd (h hb).1 h0
   .simpa using hb
  split
  .split<;>exact .inr (PK.no hb)
  .split
   .split
    .exact .inr (PK.no hb)
    .simp only;split
     .exact .inr (PK.no hb)
     .exact .inr (PK.no rfl)
   .exact .inr (PK.no hb)
structure FP(M:Int->Int->Prop)(Z:Pb->Prop)(codes:List (List Opn))(f:Fm):Prop where
 ft:FT M f
 pk:f.lost=false->∀(k:Nat) (h:k<f.kids.length),PK Z (codes.getD k []) f f.kids[k]
theorem Ws9(h:FP M Z codes f)(hF:FOk codes n f)(hk:k<f.kids.length)(hm:WZ m=true)(bD:KC code)(aC:codes.getD k []=code)(hz:ZS M Z Z m f.rv):FP M Z codes (WaI m f k code)/\(WaI m f k code).rv=f.rv/\(WaI m f k code).regs=f.regs/\(WaI m f k code).start=f.start:=by
 by_cases ba:f.lost=true
 .have e:WaI m f k code=f:=by unfold WaI;rw[if_pos ba]
  rw[e];exact⟨h,rfl,rfl,rfl⟩
 .have pW:f.lost=false:=by simpa using ba
  have e:WaI m f k code=Fm.put (Wbc m f f.kids[k] k code) k:=by unfold WaI;rw[if_neg ba,Wvx hk]
  obtain⟨k1,k2,k3,k4,k5⟩:=Wpf (m:=m) (f:=f) (x:=f.kids[k]) (k:=k) (code:=code);have gt:=hF.kid k hk;rw[aC]at gt;have nZ:=h.pk pW k hk;rw[aC]at nZ;refine⟨⟨WtD h.ft hF hk bD aC λh0 bf h5=>?_,λhl j hj=>?_⟩,by rw[e];exact k1,by rw[e];exact k2,by rw[e];exact k3⟩
  .have aq:0<=(opN code f.kids[k].pc).2.2.1/\(opN code f.kids[k].pc).2.2.1<=7:=by
    obtain⟨i,hi,e1,e2⟩:=We5 gt.pc.1 bf;have:=(WtZ (bD.ok i hi).1 (by rw[←e2];exact h5)).2;rw[←e2]at this;unfold W2 at this;simp at this;exact this
   exact Wvy hz nZ aq
  .have bK:(Wbc m f f.kids[k] k code).1.lost=false:=by rw[e]at hl;exact hl
   have rk:(WaI m f k code).kids=f.kids.set k (Wbc m f f.kids[k] k code).2:=by rw[e];show Xm (Wbc m f f.kids[k] k code).1.kids _ _=_;rw[k4]
   have yx:(WaI m f k code).buf=f.buf\/∃rows,rows.Pairwise (λa b:Rw=>a.1<b.1)/\(WaI m f k code).buf=WaC (f.clock+1) f.buf rows:=by
    rw[e];rcases k5 with k5|k5
    .exact .inl k5
    .exact .inr ⟨_,Wgs _,k5⟩
   have hj':j<f.kids.length:=by rw[rk,Xaf]at hj;exact hj
   have cH:(WaI m f k code).kids[j]=if k=j then(Wbc m f f.kids[k] k code).2 else f.kids[j]:=by simp only[rk,Xao]
   rw[cH];split
   .rename_i ej;subst ej;rw[aC];rcases WsX (k:=k) hz bD gt nZ with q|q
    .rw[bK]at q;cases q
    .by_cases hb:(Wbc m f f.kids[k] k code).2.busy=true
     .have h0:=(q hb).1;have lO:f.kids[k].phase=0:=by
       by_cases lO:f.kids[k].phase=0
       .exact lO
       .exfalso;have od:f.kids[k].busy=false:=by
         by_cases hb:f.kids[k].busy=true
         .exact absurd (nZ hb).1 lO
         .simpa using hb
        have:(Wbc m f f.kids[k] k code).2.busy=false:=by
         unfold Wbc;rw[if_neg lO];split
         .split<;>exact od
         .split
          .split
           .exact od
           .simp only;split
            .exact od
            .rfl
          .exact od
        rw[this]at hb;cases hb
      have yy:(WaI m f k code).buf=f.buf:=by
       rw[e];show(Wbc m f f.kids[k] k code).1.buf=f.buf;unfold Wbc;rw[if_pos lO];unfold Wl1;split
       .rfl
       .simp only;split
        .exact Wi5.2.2.2.2
        .repeat' split
         all_goals rfl
      exact q.buf (.inl yy) hF.bufR (by
       have:=(Wot (m:=m) hk hm bD hF aC).kid k (by rw[rk,Xaf];exact hk);have e2:(WaI m f k code).kids[k]'(by rw[rk,Xaf];exact hk)=(Wbc m f f.kids[k] k code).2:=by simp only[rk,Xfx]
       rw[e2]at this;have hc:(WaI m f k code).clock=f.clock:=by
        rw[e];show(Wbc m f f.kids[k] k code).1.clock=f.clock;unfold Wbc;rw[if_pos lO];unfold Wl1;split
        .rfl
        .simp only;split
         .unfold WbA;cases WaH f.kids[k].writes (opN code f.kids[k].pc).2.2.1 with
          |some v=>rfl
          |none=>
           cases ent f.buf (opN code f.kids[k].pc).2.2.1 with
           |some r=>simp only;split<;>rfl
           |none=>
            simp only;generalize WO m f.rv _=pb;split
            .rfl
            .split<;>rfl
         .repeat' split
          all_goals rfl
       rw[hc]at this;exact this.since.2)
     .exact PK.no (by simpa using hb)
   .exact(h.pk pW j hj').buf yx hF.bufR (hF.kid j hj').since.2
theorem Wr3{regs:List Int}{writes:List Rw}{l:Nat}:FP M Z codes (WaZ rv regs writes l):=by
 have hg:∀(j:Nat) (hj:j<(WaZ rv regs writes l).kids.length),(WaZ rv regs writes l).kids[j]={regs:=regs}:=λj hj=>Xbh ..;refine⟨Wrp,λ_ j hj=>?_⟩;rw[hg];exact PK.no rfl
end
end
section
theorem WfE{α β V R:Type}{body:Int->α->V->(V->Option R)->Option R}{K:Int->V->Option R}{f:V->α->V}(P:V->Prop):∀(l:List α) (j:Nat) (v:V),P v->(∀x∈l,∀v,P v->P (f v x))->(∀(j:Nat) x v k,x∈l->P v->body j x v k=k (f v x))->WbW body K l j v=K ((j+l.length:Nat):Int) (l.foldl f v)
 | [],j,v,_,_,_=>rfl
 |x::l,j,v,hv,hp,h=>by
  rw[WbW,h j x v _ (Xh ..) hv,WfE (β:=β) P l (j+1) _ (hp x (Xh ..) v hv) (λy hy=>hp y (Xe _ hy)) λj y v k hy=>h j y v k (Xe _ hy),Xau,Xw];rw[show j+1+l.length=j+(l.length+1) by omega]
section
variable{M:Int->Int->Prop}{Z:Pb->Prop}{N:Nat}{codes:List (List Opn)}{n:Int}{f g:Fm}{k:Nat}{code:List Opn}{m:Mm}{x y:Kd}{rv:Int}{base:List Int}
theorem WtR{c:List Int}{r:Rw}(hc:Vals 8 c)(hr:0<=r.1/\r.1<=7):inb r.1 c.length=true:=by unfold inb;rw[hc.len];simp;omega
theorem Wfj{c:List Int}{l:List Rw}(hc:Vals 8 c)(hr:WcP l)(hl:l.length<=300)(hN:1048576<N):Zdh N c l=ret (ovl c l):=by
 unfold Zdh;have hcl:=hc.len;rw[Wcb (by omega) hN,Wak (by omega) hN,Wct.2 hc,Wav hr hl,WaV (by omega)];simp only[ret,Xd,Xs,cond_false];have h1:=Wq (l:=l) (V:=List Int) (R:=Unit×(List Int×Unit)) (lp:=λn j v=>Zc3 N l (λaG au aR=>some ((),(aR,()))) n j v) (n:=N) (by omega)
  (body:=λj x v k=>bif inb x.1 v.length then k (v.set x.1.toNat x.2)else none) (K:=λ_ v=>some ((),(v,())))
  (λn i v hi=>by simp only[Zc3,WN hi,Wg hi,Wj hi,Wf (show i<4611686018427387904 by omega),cond_true])
  (λn v=>by simp only[Zc3,WV (Xn l.length),cond_false]) c
 refine h1.trans ?_;rw[WfE (β:=Unit) (f:=λv r=>v.set r.1.toNat r.2) (λv=>Vals 8 v) l 0 c hc (λx hx v hv=>hv.set _ (hr x hx).2) (λj x v k hx hv=>by rw[WtR hv (hr x hx).1];rfl)];rfl
theorem Wfh{c:List Int}{l:List Rw}(hc:Vals 8 c)(hr:WcP l)(hl:l.length<=300)(hN:1048576<N):Zdg N c l=ret (ovl c l):=by
 unfold Zdg;have hcl:=hc.len;rw[Wcm (by omega) hN,WbE (by omega) hN,Wct.2 hc,Wav hr hl];simp only[ret,Xd,Xs,cond_false];rw[Ww (by simp;omega)];simp only[cond_true,show List.append ([]:List Int) c=c from rfl];have h1:=Wq (l:=l) (V:=List Int) (R:=Unit×(List Int×Unit)) (lp:=λn j v=>Zcz N l (λaG au aR=>some ((),(aR,()))) n j v) (n:=N) (by omega)
  (body:=λj x v k=>bif inb x.1 v.length then k (v.set x.1.toNat x.2)else none) (K:=λ_ v=>some ((),(v,())))
  (λn i v hi=>by simp only[Zcz,WN hi,Wg hi,Wj hi,Wf (show i<4611686018427387904 by omega),cond_true])
  (λn v=>by simp only[Zcz,WV (Xn l.length),cond_false]) c
 refine h1.trans ?_;rw[WfE (β:=Unit) (f:=λv r=>v.set r.1.toNat r.2) (λv=>Vals 8 v) l 0 c hc (λx hx v hv=>hv.set _ (hr x hx).2) (λj x v k hx hv=>by rw[WtR hv (hr x hx).1];rfl)];rfl
structure FZ(f:Fm):Prop where
 st:WcP f.start/\f.start.length<=300
 l3:f.kids.length<=3
 wr:∀x∈f.kids,WcP x.writes/\x.writes.length<=300
 sn:∀x∈f.kids,x.seen.length<=300/\0<=x.since/\x.since<=300/\∀e∈x.seen,0<=e.1/\e.1<=7
 ord:f.order.length<=300/\∀k∈f.order,0<=k/\k<f.kids.length
theorem FZ.of{mG:List Rw}(h:FT M f)(hF:FOk codes n f)(h3:codes.length<=3)(hcl:∀c∈codes,c.length<=24)(hs:f.start=WbR mG):FZ f:=by
 have hl:=hF.len;have hk:∀x∈f.kids,∃c:List Opn,c.length<=24/\KOk c f.clock n x:=λx hx=>by
  obtain⟨i,hi,rfl⟩:=Xco.1 hx;refine⟨_,?_,hF.kid i hi⟩;rw[Xac,Xp (by omega)];exact hcl _ (Xo _)
 have hcl:=hF.clock;have ho:=hF.len3 h3;refine⟨by rw[hs];exact⟨Wd8,by have:=WeR mG;omega⟩,by omega,λx hx=>?_,λx hx=>?_,by omega,λk hk=>?_⟩
 .obtain⟨c,h1,h2⟩:=hk x hx;have:=h2.wl;have:=h2.pc;exact⟨h2.rows,by omega⟩
 .obtain⟨c,h1,h2⟩:=hk x hx;have:=h2.sl;have:=h2.pc;have:=h2.since;exact⟨by omega,by omega,by omega,λe he=>(h2.seen e he).1⟩
 .obtain⟨a,b,_⟩:=h.ord k hk;omega
theorem FZ.rows(h:FZ f)(n:Nat):WcP (WG f n):=by
 unfold WG;intro r hr;rcases Xl.1 hr with hr|hr
 .exact h.st.1 r hr
 .obtain⟨l,hl,hr⟩:=List.mem_flatten.1 hr;obtain⟨k,hk,rfl⟩:=Xv.1 hl;obtain⟨a,b⟩:=h.ord.2 k (Xbw hk);unfold WmM at hr;rw[Wvx (k:=k.toNat) (by omega)]at hr;exact(h.wr _ (Xo _)).1 r hr
theorem Wia{i:Nat}(h:i<f.order.length):WG f (i+1)=WG f i++WmM f f.order[i]:=by
 unfold WG;rw[Xbk h,Xr,Xgg,Xbn];simp
theorem Wi1{i:Nat}(h:f.order.length<=i):WG f i=WG f f.order.length:=by
 unfold WG;rw[Xbx h,Xdc]
theorem FZ.kid(h:FZ f){i:Nat}(hi:i<f.order.length):∃hk:(f.order[i]).toNat<f.kids.length,WmM f f.order[i]=f.kids[(f.order[i]).toNat].writes/\0<=f.order[i]:=by
 obtain⟨a,b⟩:=h.ord.2 _ (Xo hi);have hk:(f.order[i]).toNat<f.kids.length:=by omega
 refine⟨hk,?_,a⟩;unfold WmM;rw[Wvx hk]
theorem Wls(hk:k<f.kids.length):Xb (f.kids.map Kd.e) k d_KidRun=Kd.e f.kids[k]:=by
 rw[Wh (show k<(f.kids.map Kd.e).length by simpa using hk),List.getElem_map]
theorem Wmw(hz:FZ f)(hb:Vals 8 base)(t:Nat)(hN:1048576<N):∀(d j fuel:Nat),j+d=min t f.order.length->d<fuel->
  Zbu N (t:Int) f.e (λxF eG dT=>some ((),(dT,()))) fuel (j:Int) (ovl base (WG f j))=ret (ovl base (WG f t))
 |0,j,fuel,hj,hf=>by
  obtain⟨g,rfl⟩:∃g,fuel=g+1:=⟨fuel-1,by omega⟩;have h7:P7 f.e=f.order:=rfl;have he:WG f j=WG f t:=by
   by_cases h:t<=f.order.length
   .rw[show j=t by omega]
   .rw[show j=f.order.length by omega,Wi1 (show f.order.length<=t by omega)]
  rw[Zbu,h7,he];by_cases h:j<f.order.length
  .rw[WN h,decide_eq_false (show¬(j:Int)<(t:Int) by omega)];rfl
  .rw[WV (show f.order.length<=j by omega)];rfl
 |d+1,j,fuel,hj,hf=>by
  obtain⟨g,rfl⟩:∃g,fuel=g+1:=⟨fuel-1,by omega⟩;have h:j<f.order.length:=by omega
  have h7:P7 f.e=f.order:=rfl;have h9:Q9 f.e=f.kids.map Kd.e:=rfl;obtain⟨hk,hw,h0⟩:=hz.kid h;obtain⟨w1,w2⟩:=hz.wr _ (Xo hk);have ih:=Wmw hz hb t hN d (j+1) g (by omega) (by omega);rw[Wia h,Wq8,hw]at ih;rw[Zbu,h7,h9];simp only[Wl,WN h,Wg h,Wj h,decide_eq_true (show(j:Int)<(t:Int) by omega),cond_true,Wf (show j<4611686018427387904 by have:=hz.ord.1;omega)];have hkb:(f.order[j]).toNat<f.kids.length:=hk;have ia:Xb (f.kids.map Kd.e) (Xa f.order[j]) d_KidRun=Kd.e f.kids[(f.order[j]).toNat]:=Wls hk;have hwe:(Kd.e f.kids[(f.order[j]).toNat]).2.2.2.2.2.2.2.2.1=f.kids[(f.order[j]).toNat].writes:=rfl;rw[decide_eq_true (show f.order[j]>=0 from h0),decide_eq_true (show f.order[j]<Wb (f.kids.map Kd.e) by unfold Wb;rw[Xy];omega),show inb f.order[j] (f.kids.map Kd.e).length=true by unfold inb;rw[Xy];simp;omega];simp only[cond_true,ia,hwe];rw[WbE (by omega) hN,Wav w1 w2];simp only[ret,Xd,cond_true];rw[Wfh (Wc3 hb (hz.rows j)) w1 w2 hN];simp only[ret,Xd];exact ih
theorem WoT(hz:FZ f)(hb:Vals 8 base){t:Nat}(ht:t<=300)(hN:1048576<N):Zkb N base f.e (t:Int)=ret (ovl base (WG f t)):=by
 unfold Zkb;have h5:f.e.2.2.2.2.2.1=f.start:=rfl;have hbl:=hb.len;rw[h5,Wcm (by omega) hN,WbE (by have:=hz.st.2;omega) hN,Wct.2 hb,Wav hz.st.1 hz.st.2];simp only[ret,Xd,Xs,cond_false];rw[Wfh hb hz.st.1 hz.st.2 hN];simp only[ret,Xd];have:=Wmw hz hb t hN (min t f.order.length) 0 N (by omega) (by have:=hz.ord.1;omega);rw[show WG f 0=f.start by unfold WG;simp]at this;exact this
theorem WmJ(hz:FZ f)(hb:Vals 8 base)(t:Nat)(hN:1048576<N):∀(d j fuel:Nat),j+d=f.order.length->d<fuel->
  Zbv N (t:Int) f.order f.e (λt25 jb c9=>some ((),(c9,()))) fuel (j:Int) (ovl base (WG f (min t j)))=ret (ovl base (WG f t))
 |0,j,fuel,hj,hf=>by
  obtain⟨g,rfl⟩:∃g,fuel=g+1:=⟨fuel-1,by omega⟩;have h7:P7 f.e=f.order:=rfl;have he:WG f (min t j)=WG f t:=by
   by_cases h:t<=f.order.length
   .rw[show min t j=t by omega]
   .rw[show min t j=f.order.length by omega,Wi1 (show f.order.length<=t by omega)]
  rw[Zbv,h7,he,WV (show f.order.length<=j by omega)];rfl
 |d+1,j,fuel,hj,hf=>by
  obtain⟨g,rfl⟩:∃g,fuel=g+1:=⟨fuel-1,by omega⟩;have h:j<f.order.length:=by omega
  have h7:P7 f.e=f.order:=rfl;have h9:Q9 f.e=f.kids.map Kd.e:=rfl;obtain⟨hk,hw,h0⟩:=hz.kid h;obtain⟨w1,w2⟩:=hz.wr _ (Xo hk);have ih:=WmJ hz hb t hN d (j+1) g (by omega) (by omega);rw[Zbv,h7,h9];simp only[Wl,WN h,Wg h,Wj h,cond_true,Wf (show j<4611686018427387904 by have:=hz.ord.1;omega)];by_cases rG:j<t
  .rw[show min t (j+1)=j+1 by omega,Wia h,Wq8,hw]at ih;rw[show min t j=j by omega];have ia:Xb (f.kids.map Kd.e) (Xa f.order[j]) d_KidRun=Kd.e f.kids[(f.order[j]).toNat]:=Wls hk;have hwe:(Kd.e f.kids[(f.order[j]).toNat]).2.2.2.2.2.2.2.2.1=f.kids[(f.order[j]).toNat].writes:=rfl;have dv:WW .i64 (Wb (f.kids.map Kd.e)) 1=(f.kids.length:Int) -1:=by
    have:=hz.l3;rw[Wag (by unfold I64 Wb;rw[Xy];omega)];unfold Wb;rw[Xy]
   rw[decide_eq_true (show(j:Int)<(t:Int) by omega),Wk,dv,show inb f.order[j] (f.kids.map Kd.e).length=true by unfold inb;rw[Xy];simp;omega,
    show(decide (0<=f.order[j])&&decide (f.order[j]<=(f.kids.length:Int) -1))=true by simp;omega]
   simp only[ret,Xd,cond_true,ia,hwe];rw[Wak (by omega) hN,Wav w1 w2];simp only[ret,Xd,cond_true];rw[Wfj (Wc3 hb (hz.rows j)) w1 w2 hN];simp only[ret,Xd];exact ih
  .rw[show min t (j+1)=t by omega]at ih;rw[show min t j=t by omega,decide_eq_false (show¬(j:Int)<(t:Int) by omega)];exact ih
theorem Wjx(hz:FZ f)(hb:Vals 8 base){t:Nat}(ht:t<=300)(hN:1048576<N):Zha N base f.e (t:Int)=ret (ovl base (WG f t)):=by
 unfold Zha;have h5:f.e.2.2.2.2.2.1=f.start:=rfl;have h7:f.e.2.2.2.2.2.2.2.1=f.order:=rfl;have hbl:=hb.len;rw[h5,h7,Wcb (by omega) hN,Wak (by have:=hz.st.2;omega) hN,Wct.2 hb,Wav hz.st.1 hz.st.2];simp only[ret,Xd,Xs,cond_false];rw[Wfj hb hz.st.1 hz.st.2 hN];simp only[ret,Xd];have:=WmJ hz hb t hN f.order.length 0 N (by omega) (by have:=hz.ord.1;omega);rw[show min t 0=0 by omega,show WG f 0=f.start by unfold WG;simp]at this;exact this
def WhP(base:List Int)(f:Fm):Prop:=∀x∈f.kids,∀e∈x.seen,(ovl base (WG f x.since.toNat)).getD e.1.toNat 0=e.2.1
theorem WpY(h:FT M f)(hz:FZ f)(hb:Vals 8 base)(hM:∀c v,0<=c->c<=7->M c v->base.getD c.toNat 0=v):WhP base f:=λx hx e he=>by
 obtain⟨i,hi,rfl⟩:=Xco.1 hx;obtain⟨h0,h7⟩:=(hz.sn _ hx).2.2.2 e he;rw[WkA hb (hz.rows _) h0 h7];rcases h.sn i hi e he with⟨_,b,c⟩|⟨_,_,_,d⟩
 .rw[b];exact hM _ _ h0 h7 c
 .rw[d]
theorem WrU{c:Int}(h0:0<=c)(h7:c<=7):Zcc N c=ret true:=by
 unfold Zcc;rw[WcS,decide_eq_true h0,decide_eq_true h7];rfl
theorem WqR{c:Int}(h0:0<=c)(h7:c<=7):Zau N c=ret true:=by
 unfold Zau;rw[Wk,decide_eq_true h0,decide_eq_true h7];rfl
theorem Wl6{R:Type}{K0:Option R}{K1:Int->Bool->Option R}{i:Nat}(hi:i<f.kids.length){A:List Int}(hA:Vals 8 A)(hs:f.kids[i].seen.length<=300)(h7:∀e∈f.kids[i].seen,0<=e.1/\e.1<=7)(ht:∀e∈f.kids[i].seen,A.getD e.1.toNat 0=e.2.1):
  ∀(d j fuel:Nat),j+d=f.kids[i].seen.length->d<fuel->Zc1 N base (i:Int) f.e A K0 K1 fuel (j:Int)=K1 (f.kids[i].seen.length:Int) false
 |0,j,fuel,hj,hf=>by
  obtain⟨g,rfl⟩:∃g,fuel=g+1:=⟨fuel-1,by omega⟩;have hj':j=f.kids[i].seen.length:=by omega
  have h9:Q9 f.e=f.kids.map Kd.e:=rfl;have uu:inb (i:Int) (f.kids.map Kd.e).length=true:=Wg (by rw[Xy];exact hi);have p7:P7 (Kd.e f.kids[i])=f.kids[i].seen:=rfl;have ia:Xb (f.kids.map Kd.e) (Xa (i:Int)) d_KidRun=Kd.e f.kids[i]:=by rw[Xj];exact Wls hi
  simp only[Zc1,Wl,h9,uu,cond_true,ia,p7,WV (show f.kids[i].seen.length<=j by omega),cond_false];rw[hj']
 |d+1,j,fuel,hj,hf=>by
  obtain⟨g,rfl⟩:∃g,fuel=g+1:=⟨fuel-1,by omega⟩;have hlt:j<f.kids[i].seen.length:=by omega
  have h9:Q9 f.e=f.kids.map Kd.e:=rfl;have uu:inb (i:Int) (f.kids.map Kd.e).length=true:=Wg (by rw[Xy];exact hi);have p7:P7 (Kd.e f.kids[i])=f.kids[i].seen:=rfl;have ia:Xb (f.kids.map Kd.e) (Xa (i:Int)) d_KidRun=Kd.e f.kids[i]:=by rw[Xj];exact Wls hi
  have cH:Xb f.kids[i].seen (Xa (j:Int)) ((0:Int),((0:Int),(0:Int)))=f.kids[i].seen[j]:=Wj hlt _;obtain⟨c0,c7⟩:=h7 _ (Xo hlt);have hv:=ht _ (Xo hlt);have ih:=Wl6 (K0:=K0) (K1:=K1) hi hA hs h7 ht d (j+1) g (by omega) (by omega);simp only[Zc1,Wl,h9,uu,cond_true,ia,p7,WN hlt,Wg hlt,cH,WrU c0 c7,ret,Xd,Xs,cond_false,Wf (show j<4611686018427387904 by omega)];rw[show inb f.kids[i].seen[j].1 A.length=true by unfold inb;rw[hA.len];simp;omega,hv];simp only[cond_true,bne_self_eq_false,cond_false];exact ih
theorem WmH(hz:FZ f)(hb:Vals 8 base)(ht:WhP base f)(hN:1048576<N):∀(d j fuel:Nat),j+d=f.kids.length->d<fuel->
  Zc2 N base f.e (some ((),(false,()))) (λmx jb=>some ((),(true,()))) fuel (j:Int)=ret true
 |0,j,fuel,hj,hf=>by
  obtain⟨g,rfl⟩:∃g,fuel=g+1:=⟨fuel-1,by omega⟩;have h9:f.e.2.2.2.2.2.2.2.2.2=f.kids.map Kd.e:=rfl;simp only[Zc2,h9,WV (show(f.kids.map Kd.e).length<=j by rw[Xy];omega),cond_false]
 |d+1,j,fuel,hj,hf=>by
  obtain⟨g,rfl⟩:∃g,fuel=g+1:=⟨fuel-1,by omega⟩;have hlt:j<f.kids.length:=by omega
  have dN:j<(f.kids.map Kd.e).length:=by rw[Xy];omega
  have h9:f.e.2.2.2.2.2.2.2.2.2=f.kids.map Kd.e:=rfl;have ia:Xb (f.kids.map Kd.e) (Xa (j:Int)) d_KidRun=Kd.e f.kids[j]:=by rw[Xj];exact Wls hlt
  have ih:=WmH hz hb ht hN d (j+1) g (by omega) (by omega);obtain⟨s1,s2,s3,s4⟩:=hz.sn _ (Xo hlt);have sa:(Kd.e f.kids[j]).2.2.1=((f.kids[j].since.toNat:Nat):Int):=by show f.kids[j].since=_;omega
  have yz:=hz.l3;simp only[Zc2,h9,WN dN,Wg dN,cond_true,ia,sa,WoT hz hb (show f.kids[j].since.toNat<=300 by omega) hN,ret,Xd,Wf (show j<4611686018427387904 by omega)];rw[show(0:Int)=((0:Nat):Int)from rfl,Wl6 hlt (Wc3 hb (hz.rows _)) s1 s4 (ht _ (Xo hlt)) f.kids[j].seen.length 0 N (by omega) (by omega)];exact ih
theorem Wmv(hz:FZ f)(hb:Vals 8 base)(ht:WhP base f)(hN:1048576<N):Zh7 N base f.e=ret true:=by
 unfold Zh7;have h5:f.e.2.2.2.2.2.1=f.start:=rfl;have hbl:=hb.len;have h3:=hz.l3;rw[h5,Wcm (by omega) hN,WbE (by have:=hz.st.2;omega) hN,Wct.2 hb,Wav hz.st.1 hz.st.2];simp only[ret,Xd,Xs,cond_false];exact WmH hz hb ht hN f.kids.length 0 N (by omega) (by omega)
theorem Wmf{R:Type}{K0:Option R}{K1:Int->Bool->Option R}{i:Nat}{L:Int}(hi:i<f.kids.length){A:List Int}(hA:Vals 8 A)(hs:f.kids[i].seen.length<=300)(h7:∀e∈f.kids[i].seen,0<=e.1/\e.1<=7)(ht:∀e∈f.kids[i].seen,A.getD e.1.toNat 0=e.2.1):
  ∀(d j fuel:Nat),j+d=f.kids[i].seen.length->d<fuel->Zc4 N base (f.kids.map Kd.e) L (i:Int) f.kids[i].seen f.e A K0 K1 fuel (j:Int)=K1 (f.kids[i].seen.length:Int) false
 |0,j,fuel,hj,hf=>by
  obtain⟨g,rfl⟩:∃g,fuel=g+1:=⟨fuel-1,by omega⟩;have hj':j=f.kids[i].seen.length:=by omega
  have p7:(Kd.e f.kids[i]).2.2.2.2.2.2.2.1=f.kids[i].seen:=rfl;have ia:Xb (f.kids.map Kd.e) (Xa (i:Int)) d_KidRun=Kd.e f.kids[i]:=by rw[Xj];exact Wls hi
  simp only[Zc4,ia,p7,WV (show f.kids[i].seen.length<=j by omega),cond_false];rw[hj']
 |d+1,j,fuel,hj,hf=>by
  obtain⟨g,rfl⟩:∃g,fuel=g+1:=⟨fuel-1,by omega⟩;have hlt:j<f.kids[i].seen.length:=by omega
  have p7:(Kd.e f.kids[i]).2.2.2.2.2.2.2.1=f.kids[i].seen:=rfl;have ia:Xb (f.kids.map Kd.e) (Xa (i:Int)) d_KidRun=Kd.e f.kids[i]:=by rw[Xj];exact Wls hi
  have cH:Xb f.kids[i].seen (Xa (j:Int)) ((0:Int),((0:Int),(0:Int)))=f.kids[i].seen[j]:=Wj hlt _;obtain⟨c0,c7⟩:=h7 _ (Xo hlt);have hv:=ht _ (Xo hlt);have ih:=Wmf (K0:=K0) (K1:=K1) (L:=L) hi hA hs h7 ht d (j+1) g (by omega) (by omega);simp only[Zc4,Wl,cond_true,ia,p7,WN hlt,Wg hlt,cH,WqR c0 c7,ret,Xd,Xs,cond_false,Wf (show j<4611686018427387904 by omega)];rw[show inb f.kids[i].seen[j].1 A.length=true by unfold inb;rw[hA.len];simp;omega,hv];simp only[cond_true,bne_self_eq_false,cond_false];exact ih
theorem WmK(hz:FZ f)(hb:Vals 8 base)(ht:WhP base f)(hN:1048576<N):∀(d j fuel:Nat),j+d=f.kids.length->d<fuel->
  Zc5 N base (f.kids.map Kd.e) f.e (some ((),(false,()))) (λmx jb=>some ((),(true,()))) fuel (j:Int)=ret true
 |0,j,fuel,hj,hf=>by
  obtain⟨g,rfl⟩:∃g,fuel=g+1:=⟨fuel-1,by omega⟩;have h9:Q9 f.e=f.kids.map Kd.e:=rfl;simp only[Zc5,h9,WV (show(f.kids.map Kd.e).length<=j by rw[Xy];omega),cond_false]
 |d+1,j,fuel,hj,hf=>by
  obtain⟨g,rfl⟩:∃g,fuel=g+1:=⟨fuel-1,by omega⟩;have hlt:j<f.kids.length:=by omega
  have dN:j<(f.kids.map Kd.e).length:=by rw[Xy];omega
  have h9:Q9 f.e=f.kids.map Kd.e:=rfl;have ia:Xb (f.kids.map Kd.e) (Xa (j:Int)) d_KidRun=Kd.e f.kids[j]:=by rw[Xj];exact Wls hlt
  have ih:=WmK hz hb ht hN d (j+1) g (by omega) (by omega);obtain⟨s1,s2,s3,s4⟩:=hz.sn _ (Xo hlt);have sa:(Kd.e f.kids[j]).2.2.1=((f.kids[j].since.toNat:Nat):Int):=by show f.kids[j].since=_;omega
  have p7:(Kd.e f.kids[j]).2.2.2.2.2.2.2.1=f.kids[j].seen:=rfl;have yz:=hz.l3;simp only[Zc5,h9,WN dN,Wg dN,cond_true,ia,sa,p7,Wjx hz hb (show f.kids[j].since.toNat<=300 by omega) hN,ret,Xd,Wf (show j<4611686018427387904 by omega)];rw[show(0:Int)=((0:Nat):Int)from rfl,Wmf hlt (Wc3 hb (hz.rows _)) s1 s4 (ht _ (Xo hlt)) f.kids[j].seen.length 0 N (by omega) (by omega)];exact ih
theorem Wmy(hz:FZ f)(hb:Vals 8 base)(ht:WhP base f)(hN:1048576<N):Zh8 N base f.e=ret true:=by
 unfold Zh8;have h9:f.e.2.2.2.2.2.2.2.2.2=f.kids.map Kd.e:=rfl;have h3:=hz.l3;have cZ:=Wjx (t:=0) hz hb (by omega) hN;have uv:Zha N base f.e 0=ret (ovl base (WG f 0)):=cZ;rw[uv];simp only[ret,Xd];have hv:=(Wc3 hb (hz.rows 0)).len;rw[hv,show Nat.blt 0 8=true from rfl,cond_true,h9];exact WmK hz hb ht hN f.kids.length 0 N (by omega) (by omega)
end
end
section
section
variable{b:Int->Int}{s:Sc}{w v:Wo}{n:Int}{x y:Rt}{k:Nat}{p:Pg}{o:Opn}{m m':Mm}{H H':List Wr}{C C':Nat->Option Cm}{c:Cm}{i rv:Int}{f:Fm}{codes:List (List Opn)}{code:List Opn}
def ZW(b:Int->Int)(m:Mm)(H:List Wr)(rv:Int)(p:Pb):Prop:=
 (0<=p.1/\p.1<=7)/\p.2.2.1<=rv/\(p.2.1=1/\p.2.2.1<=(Wm m p.1).2.1\/p.2.1=2/\p.2.2.1<=(top (b p.1) p.1 H).1/\((top (b p.1) p.1 H).1=p.2.2.1->p.2.2.2=(top (b p.1) p.1 H).2))
theorem ZW.mono{p:Pb}(h:ZW b m H rv p)(hm:Mono b m H m' H'):ZW b m' H' rv p:=by
 obtain⟨h1,h2,h3⟩:=h;refine⟨h1,h2,h3.imp (λ⟨a,c⟩=>⟨a,?_⟩) λ⟨a,c,d⟩=>⟨a,?_⟩⟩
 .have:=hm.ver p.1 h1.1 h1.2;omega
 .rcases hm.top p.1 with t|t
  .exact⟨by omega,λz=>by omega⟩
  .rw[t];exact⟨c,d⟩
theorem WwB(hM:MI b m H C)(hl:CL2 m C)(cA:m.1<=1000000)(ir:0<=rv/\rv<=m.1):ZS (RC b m H C rv) (ZW b m H rv) (ZW b m H rv) m rv:=λc q h0 h7 hq=>by
 have ec:∀r:Pb,r.1=c->Xb m.2 (Xa r.1) ((0:Int),((0:Int),(0:Int)))=Wm m c:=λr hr=>by rw[hr];rfl
 have hfree:=λhz=>Wod (i:=c) hM hl h0 h7 hz;unfold owner at hfree;have lZ:q.1=c:=by
  rcases hq with rfl|⟨_,h⟩
  .rfl
  .exact h
 unfold WO;simp only[ec q lZ,Wv,Waa];rcases hq with rfl|⟨⟨qW,uw,rn⟩,_⟩
 .rw[if_pos rfl];split
  .split
   .exact .inr (.inr ⟨by show(1:Int)≠3;omega,⟨⟨h0,h7⟩,‹_›,.inl ⟨rfl,Xu _⟩⟩,rfl⟩)
   .exact .inl rfl
  .exact .inl rfl
 .rw[lZ]at rn;rcases rn with⟨h1,h1b⟩|⟨h2,h2b,yA⟩
  .rw[if_neg (by omega),if_pos h1];refine .inr (.inr ⟨by show(2:Int)≠3;omega,⟨qW,uw,.inr ⟨rfl,?_⟩⟩,lZ⟩);show q.2.2.1<=(top (b q.1) q.1 H).1/\((top (b q.1) q.1 H).1=q.2.2.1->(Wm m c).1=(top (b q.1) q.1 H).2);rw[lZ];by_cases aM:∀k d,C k=some d->d.phase=4\/d.phase=5->¬lkd d c
   .obtain⟨a1,a2⟩:=hM.cell c h0 h7 aM;exact⟨by omega,λ_=>a1⟩
   .have:∃k d,C k=some d/\(d.phase=4\/d.phase=5)/\lkd d c:=by
     apply Classical.byContradiction;intro cG;exact aM λk d hc hp fv=>cG ⟨k,d,hc,hp,fv⟩
    obtain⟨k,d,hc,hp,j,hj,ej,kL⟩:=this;obtain⟨s1,s2,_⟩:=hM.sto k d hc hp j hj kL;rw[ej]at s1 s2;rw[s1];exact⟨by simp only;omega,λz=>by simp only at z;omega⟩
  .rw[if_neg (by omega),if_neg (by omega),if_pos h2];split
   .rename_i hown;split
    .rename_i ux;right;left;obtain⟨a1,a2,a3⟩:=hfree hown;refine⟨rfl,⟨?_,by omega,λk d hc h3 _=>a3 k d hc h3⟩⟩;show q.2.2.2=_;have hle:(bst (b c) c 2000000 H).1<=rv:=by
      have:(top (b c) c H).1=q.2.2.1:=by omega
      unfold top at this;omega
     rw[WkI (v':=2000000) (by omega) H hle];exact yA (by omega)
    .exact .inl rfl
   .exact .inl rfl
theorem WvL{z v v':Int}(hM:MI b m H C)(hl:CL2 m C)(cA:m.1<=1000000)(h0:0<=i)(h7:i<=7)(hown:owner m i=0)(ux:(Wm m i).2.1<=v)(hR:RC b m H C v i z)(hv:v<=v')(hc:v'<=m.1):RC b m H C v' i z:=by
 obtain⟨e1,e2,e3⟩:=Wod hM hl h0 h7 hown;have hle:(bst (b i) i 2000000 H).1<=v:=by unfold top at e2;omega
 refine⟨?_,hc,λj d hd hp _=>e3 j d hd hp⟩;rw[hR.val,WkI (v':=2000000) (by have:=hR.clk;omega) H hle,WkI (v:=v') (v':=2000000) (by omega) H (by omega)]
theorem PK.wk{Z Z':Pb->Prop}{q:Kd}(h:PK Z code f q)(hz:∀p,Z p->Z' p):PK Z' code f q:=λe=>by
 obtain⟨a,b,c,d,r⟩:=h e;exact⟨a,b,c,hz _ d,r⟩
structure FB(M:Int->Int->Prop)(Z:Pb->Prop)(codes:List (List Opn))(f:Fm):Prop where
 fp:FP M Z codes f
 rd:∀r∈f.reads,M r.1 r.2
theorem FP.wk{M M':Int->Int->Prop}{Z Z':Pb->Prop}(h:FP M Z codes f)(hM:∀c v,M c v->M' c v)(hz:∀p,Z p->Z' p):FP M' Z' codes f:=
 ⟨h.ft.wk hM,λhl k hk=>(h.pk hl k hk).wk hz⟩
theorem FB.wk{M M':Int->Int->Prop}{Z Z':Pb->Prop}(h:FB M Z codes f)(hM:∀c v,M c v->M' c v)(hz:∀p,Z p->Z' p):FB M' Z' codes f:=⟨h.fp.wk hM hz,λr hr=>hM _ _ (h.rd r hr)⟩
theorem Wnj{q:Kd}:(Wbc m f q k code).1.reads=f.reads\/(Wbc m f q k code).1.reads=f.reads++WaR q.seen:=by
 unfold Wbc;split
 .unfold Wl1;split
  .exact .inl rfl
  .simp only;split
   .unfold WbA;cases WaH q.writes (opN code q.pc).2.2.1 with
    |some v=>exact .inl rfl
    |none=>
     cases ent f.buf (opN code q.pc).2.2.1 with
     |some r=>simp only;split<;>exact .inl rfl
     |none=>
      simp only;generalize WO m f.rv _=pb;split
      .exact .inl rfl
      .split<;>exact .inl rfl
   .repeat' split
    all_goals exact .inl rfl
 .split
  .split<;>exact .inl rfl
  .split
   .split
    .exact .inr rfl
    .simp only;split<;>exact .inl rfl
   .exact .inl rfl
theorem WsF{M:Int->Int->Prop}{Z:Pb->Prop}(h:FB M Z codes f)(hF:FOk codes n f)(hk:k<f.kids.length)(hm:WZ m=true)(bD:KC code)(aC:codes.getD k []=code)(hz:ZS M Z Z m f.rv):FB M Z codes (WaI m f k code)/\(WaI m f k code).rv=f.rv/\(WaI m f k code).regs=f.regs/\(WaI m f k code).start=f.start:=by
 obtain⟨a,r⟩:=Ws9 h.fp hF hk hm bD aC hz;refine⟨⟨a,?_⟩,r⟩;unfold WaI;split
 .exact h.rd
 .rw[Wvx hk];intro e he;have ew:e∈(Wbc m f f.kids[k] k code).1.reads:=he;rcases Wnj (m:=m) (f:=f) (q:=f.kids[k]) (k:=k) (code:=code)with q|q
  .rw[q]at ew;exact h.rd e ew
  .rw[q]at ew;rcases Xl.1 ew with ew|ew
   .exact h.rd e ew
   .unfold WaR at ew;obtain⟨z,qW,rfl⟩:=Xv.1 ew;obtain⟨uw,rn⟩:=List.mem_filter.1 qW;have rn:z.2.2= -1:=by simpa using rn
    rcases h.fp.ft.sn k hk z uw with⟨_,_,t⟩|⟨t,_⟩
    .exact t
    .omega
structure RO(b:Int->Int)(m:Mm)(H:List Wr)(C:Nat->Option Cm)(p:Pg)(x:Rt):Prop where
 rv:0<=x.rv/\x.rv<=m.1
 rows:x.phase=0\/5<=x.phase->WcP x.reads/\x.reads.length<=300
 rd:∀r∈x.reads,RC b m H C x.rv r.1 r.2
 pb:x.busy=true->x.phase=1/\x.pc<p.1.length/\(opN p.1 x.pc).1=5/\ZW b m H x.rv x.pb/\x.pb.1=(opN p.1 x.pc).2.2.1/\WaH x.writes (opN p.1 x.pc).2.2.1=none
 ext:x.phase=4->x.rv<=x.newRv/\x.newRv<=m.1/\∀(i:Nat) (h:i<x.reads.length),(i:Int)<x.pos->RC b m H C x.newRv x.reads[i].1 x.reads[i].2
 fam:x.phase=2->x.fam.rv=x.rv/\(∃rows,x.fam.start=WbR rows)/\FB (RC b m H C x.rv) (ZW b m H x.rv) p.2 x.fam
 fam0:x.phase≠2->x.fam={}
theorem RO.keep(h:RO b m H C p x)(hK:∀v i z,RC b m H C v i z->RC b m' H' C' v i z)(hm:Mono b m H m' H')(h1:m.1<=m'.1):RO b m' H' C' p x:=
 ⟨⟨h.rv.1,by have:=h.rv.2;omega⟩,h.rows,λr hr=>hK _ _ _ (h.rd r hr),λhb=>by
  obtain⟨a,c,d,e,g⟩:=h.pb hb;exact⟨a,c,d,e.mono hm,g⟩,λh4=>by
  obtain⟨a,c,d⟩:=h.ext h4;exact⟨a,by omega,λi hi hp=>hK _ _ _ (d i hi hp)⟩,λh2=>by
  obtain⟨a,c,d⟩:=h.fam h2;exact⟨a,c,d.wk (λ_ _=>hK _ _ _) λ_ hz=>hz.mono hm⟩,h.fam0⟩
theorem RO.mk1(h:RO b m H C p x)(ir:y.rv=x.rv)(gF:y.reads=x.reads)(hb:y.busy=false)(hp:y.phase≠2)(mH:y.phase≠4)(hf:y.fam={})(hrow:y.phase=0\/5<=y.phase->WcP x.reads/\x.reads.length<=300):RO b m H C p y:=
 ⟨by rw[ir];exact h.rv,λz=>by rw[gF];exact hrow z,λr hr=>by rw[ir];exact h.rd r (by rw[←gF];exact hr),λz=>(by rw[hb]at z;cases z),λz=>absurd z mH,λz=>absurd z hp,λ_=>hf⟩
theorem RO.nil(h0:0<=m.1)(ir:0<=y.rv/\y.rv<=m.1)(gF:y.reads= [])(hb:y.busy=false)(hp:y.phase≠2)(mH:y.phase≠4)(hf:y.fam={}):RO b m H C p y:=
 ⟨ir,λ_=>by rw[gF];exact⟨(λr hr=>by cases hr),by simp⟩,λr hr=>(by rw[gF]at hr;cases hr),λz=>(by rw[hb]at z;cases z),λz=>absurd z mH,λz=>absurd z hp,λ_=>hf⟩
theorem WgC(h0:0<=m.1):RO b m H C p (Wdd x):=RO.nil h0 ⟨Xu _,h0⟩ rfl rfl (by show(6:Int)≠2;omega) (by show(6:Int)≠4;omega) rfl
theorem Wlr(hl:RLive p n x)(hc:CC p.1):WcP x.reads/\x.reads.length<=300:=by
 have h1:=hl.rl;have h2:=hl.pc;have h3:=Wnr hc x.pc.toNat (by omega);have h4:=hc.len;exact⟨hl.reads,by omega⟩
theorem WhC(h:RO b m H C p x)(h1:x.phase=1)(h0:0<=m.1){y:Rt}(hy:y.rv=x.rv/\y.reads=x.reads/\y.fam=x.fam):RO b m H C p (W0 y):=by
 unfold W0;split
 .exact WgC h0
 .exact h.mk1 hy.1 hy.2.1 rfl (by show(3:Int)≠2;omega) (by show(3:Int)≠4;omega) (hy.2.2.trans (h.fam0 (by omega))) (λz=>by(change (3:Int)=0\/5<=(3:Int)at z;omega))
theorem WnZ{out:Int}(h:RO b m H C p x)(h1:x.phase=1)(hb:x.busy=false)(hr:WcP x.reads/\x.reads.length<=300):RO b m H C p (WbS w x k out).2:=by
 have hf:=h.fam0 (by omega);unfold WbS Wk4;simp only;generalize (if out=2 then []else x.writes)=rows;split
 .exact h.mk1 rfl rfl hb (by show(8:Int)≠2;omega) (by show(8:Int)≠4;omega) hf λ_=>hr
 .exact h.mk1 rfl rfl hb (by show(5:Int)≠2;omega) (by show(5:Int)≠4;omega) hf λ_=>hr
end
end
end Go.Sx
