/- Plain laws of the Lean functions. -/
import Derived.Test.YtceijnpnofmkkaaGreatMW1
open List renaming length_set→Xah,getElem_mem→Xo,getD→Xd,append→Xf,append_eq→Xal,length→Xa,drop→Xcd,take→Xaf,length_append→Xs,getElem?_eq_getElem→Xp,getElem_set→Xau,set→Xk,set_set→Xdl,all_eq_true→Xag,replicate→Xu,getElem_replicate→Xbi,mem_cons_self→Xg,length_cons→Xr,mem_cons_of_mem→Xe,drop_length→Xdk,drop_eq_getElem_cons→Xbm,pairwise_iff_getElem→Xak,filter_cons→Xbj,mem_map→Xw,mem_filter→Xav,getElem_of_mem→Xao,length_nil→Xcm,filter_eq_self→Xgy,length_map→Xab,set_getElem_self→Xbd,length_take→Xan
open Int renaming le_refl→Xx,le_trans→Xfg,toNat→Xb,tmod_eq_emod_of_nonneg→Xeb,eq_ofNat_of_zero_le→Xer,tdiv_eq_ediv_of_nonneg→Xec,toNat_natCast→Xj
open Nat renaming le_trans→Xco,and_le_right→Xho,le_refl→Xm,zero_add→Xbc,sub_zero→Xdj,lt_trichotomy→Xdp
open Option renaming bind_some→Xc,getD_some→Xex,isSome_some→Xha
open Bool renaming and_self→Xbl,not_true→Xt,and_eq_true→Xi,not_false→Xdi,false_eq_true→Xbh,true_and→Xce
namespace Go.Sx
set_option linter.unusedVariables false
set_option linter.unusedSimpArgs false
section
structure KE(f:Fm)(k:Nat)(x:Kd)(q:Fm×Kd):Prop where
 d:KD f k q
 s0:x.phase=0->WaG q.2=1->fP (Fm.put q k) q.2<fP f x
 s2:x.phase=2->fQ (Fm.put q k)<fQ f
 s1:x.phase=1->f.owner=0->fQ (Fm.put q k)<fQ f
 own:q.1.owner=f.owner\/q.1.owner=0\/(q.1.owner=(k:Int)+1/\x.phase=1/\f.owner=0)
 kids:q.1.kids=f.kids
 kt:∀(j:Nat) (h:j<(Fm.put q k).kids.length),KT (Fm.put q k) j (Fm.put q k).kids[j]
variable{codes:List (List Opn)}{n:Int}{f:Fm}{x y:Kd}{k:Nat}{q:Fm×Kd}{code:List Opn}{m:Mm}
theorem Wml(h:q.1.kids=f.kids):(Fm.put q k).kids.length=f.kids.length:=by show(q.1.kids.set k q.2).length=_;rw[h,Xah]
theorem Wgb(hk:k<f.kids.length)(hT:∀(j:Nat) (h:j<f.kids.length),KT f j f.kids[j])(h1:q.1.kids=f.kids)(hc:q.1.clock=f.clock)(hb:q.1.buf=f.buf)(ho:∀j:Nat,j≠k->(q.1.owner=(j:Int)+1↔f.owner=(j:Int)+1))(hy:KT q.1 k q.2):
  ∀(j:Nat) (h:j<(Fm.put q k).kids.length),KT (Fm.put q k) j (Fm.put q k).kids[j]:=λj h=>by
 have hj:j<f.kids.length:=by grind [Wml]
 rw[Whk hk h1 hj h];by_cases he:k=j
 .subst he;rw[Wb rfl];exact⟨hy.pb,hy.own,hy.seen⟩
 .rw[Wa he];have ht:=hT j hj;refine⟨ht.pb,?_,λhs e dV=>?_⟩
  .show q.1.owner=(j:Int)+1↔_;rw[ho j (λh=>he h.symm)];exact ht.own
  .show Wv6 q.1.buf e.1=e.2.2;rw[hb];exact ht.seen (hs.trans hc) e dV
theorem WcL(h:x.phase≠3):WaG x=1:=by unfold WaG;rw[Wa h]
theorem Wlt(h:x.phase≠3)(hy:y.phase≠3)(hs:y.since=x.since)(c:Int):WbW c y=WbW c x:=by
 simp_all [WbW,Wb,Wa]
theorem Wb7:WbW f.clock (f.again x)=0:=by unfold WbW Fm.again;simp
theorem WfR:Wbz (f.again x)=75:=by unfold Wbz Fm.again;simp
theorem WeS:Wbt (f.again x)=26:=by unfold Wbt Fm.again;simp
theorem Wst(h:x.phase≠3)(hs:x.since<f.clock):WbW f.clock x=1:=by unfold WbW;rw[Wb ⟨h,hs⟩]
theorem Wqs{c:Int}:∀{l:List Kd},Wdc (W6 (c+1)) l<=Wdc (W6 c) l+26*Wdc WaG l:=λ{l}=>by
 have h1:Wdc (W6 (c+1)) l<=Wdc (λx=>W6 c x+26*WaG x) l:=Wjq λx _=>by
  have a:=Wcm (c+1) x;have b:=Wcm c x;unfold W6;omega
 simp_all [Wlj]
theorem WuO{u:Int}(h:1<=u/\u<=3):tri u=tri (u-1)+(u-1):=by
 unfold tri;have:u=1\/u=2\/u=3:=by omega
 rcases this with rfl|rfl|rfl<;>decide
theorem WxT(hk:k<f.kids.length)(h3:f.kids.length<=3)(hl:∀c∈codes,c.length<=24)(hF:FOk codes n f)(hT:∀(j:Nat) (h:j<f.kids.length),KT f j f.kids[j])(hx:f.kids[k]=x)(ho:KO f k x q):
  q.1.lost=true\/KE f k x q:=by
 have hlen:(codes.getD k []).length<=24:=by
  have cw:k<codes.length:=by rw[←hF.len];exact hk
  simp_all
 have hK:=hF.kid k hk;rw[hx]at hK;have ht:=hT k hk;rw[hx]at ht;obtain⟨c1,c2,c3,c4⟩:=WeN hK hlen;obtain⟨l1,l2,l3⟩:=WlA hK hlen ht.pb;have yt:=Wcm f.clock x;cases ho with
 |lost h=>grind
 |run h0 hs hp hlt hb hse=>
  rename_i y;refine .inr ?_;have yu:y.phase≠3:=by omega
  have eX:x.phase≠3:=by omega
  have aM:=Wlt eX yu hs f.clock;have hch:Wbt y=26:=by unfold Wbt;rw[Wa yu,Wa (by omega)]
  obtain⟨d1,d2,d3⟩:=Wf3 (q:=(f,y)) hk rfl rfl (by grind [WcL]) (by grind [W6]) (λ_=>by grind);refine⟨d1,λ_ _=>?_,λh=>by omega,λh=>by omega,.inl rfl,rfl,Wgb hk hT rfl rfl rfl (λ_ _=>Iff.rfl) ⟨hb,?_,λh=>hse (hs▸h)⟩⟩
  .unfold fP;rw[d2];show Wbz y+75*(WbW f.clock y+_)<_;omega
  .show f.owner=(k:Int)+1↔y.phase=2;rw[ht.own];omega
 |again h0 hs=>
  refine .inr ?_;have eX:x.phase≠3:=by omega
  have mq:=Wst eX hs;obtain⟨d1,d2,d3⟩:=Wf3 (q:=(f,f.again x)) hk rfl rfl (by rw[hx];rw[WcL eX];exact WcL (by show(0:Int)≠3;omega)) (by grind [W6,Wb7,WeS]) (λ_=>by grind [Wbz,WbW,Wb7,WfR]);refine⟨d1,λ_ _=>?_,λh=>by omega,λh=>by omega,.inl rfl,rfl,Wgb hk hT rfl rfl rfl (λ_ _=>Iff.rfl) ⟨(λh=>by cases h),?_,(λh e he=>by cases he)⟩⟩
  .unfold fP;rw[d2];show Wbz (f.again x)+75*(WbW f.clock (f.again x)+_)<_
   grind [Wb7,WfR]
  .show f.owner=(k:Int)+1↔(0:Int)=2;rw[ht.own];omega
 |fail h2 hs=>
  refine .inr ?_;have eX:x.phase≠3:=by omega
  have mq:=Wst eX hs;have c:=c3 h2;obtain⟨d1,d2,d3⟩:=Wf3 (q:=({f with owner:=0},f.again x)) hk rfl rfl (by rw[hx];rw[WcL eX];exact WcL (by show(0:Int)≠3;omega)) (by grind [W6,Wb7,WeS]) (λ_=>by grind [Wbz,WbW,Wb7,WfR]);have qg:=ht.own.2 h2;refine⟨d1,λh=>by omega,λ_=>?_,λh=>by omega,.inr (.inl rfl),rfl,Wgb hk hT rfl rfl rfl (λj hj=>?_) ⟨(λh=>by cases h),?_,(λh e he=>by cases he)⟩⟩
  .grind [fQ,W6,Wb7,WeS]
  .grind
  .show(0:Int)=(k:Int)+1↔(0:Int)=2;omega
 |ask h1 h0=>
  refine .inr ?_;have eX:x.phase≠3:=by omega
  have aM:WbW f.clock ({x with phase:=2}:Kd)=WbW f.clock x:=Wlt (x:=x) (y:={x with phase:=2}) eX (by simp_all) rfl _;have hp:=hK.pos;have hch:Wbt ({x with phase:=2}:Kd)=25-x.pos:=rfl;have Ah:=c4 (.inr h1);have mL:Wbz ({x with phase:=2}:Kd)=0:=rfl;obtain⟨d1,d2,d3⟩:=Wf3 (q:=({f with owner:=(k:Int)+1},{x with phase:=2})) hk rfl rfl (by grind [WcL]) (by grind [W6]) (λ_=>by grind);refine⟨d1,λh=>by omega,λh=>by omega,λ_ _=>?_,.inr (.inr ⟨rfl,h1,h0⟩),rfl,Wgb hk hT rfl rfl rfl (λj hj=>?_) ⟨ht.pb,?_,ht.seen⟩⟩
  .grind [fQ,W6]
  .grind
  simp_all
 |wait h1 h0=>
  refine .inr ?_;have eX:x.phase≠3:=by omega
  obtain⟨d1,d2,d3⟩:=Wf3 (q:=(f,x)) hk rfl rfl (by rw[hx]) (by simp_all) (λ_=>by simp_all);exact⟨d1,λh=>by omega,λh=>by omega,λ_ h=>Wi h h0,.inl rfl,rfl,Wgb hk hT rfl rfl rfl (λ_ _=>Iff.rfl) ht⟩
 |done cS=>
  refine .inr ?_;obtain⟨d1,d2,d3⟩:=Wf3 (q:=(f,x)) hk rfl rfl (by rw[hx]) (by simp_all) (λ_=>by simp_all);exact⟨d1,λh=>by omega,λh=>by omega,λh=>by omega,.inl rfl,rfl,Wgb hk hT rfl rfl rfl (λ_ _=>Iff.rfl) ht⟩
 |look h2 hlt=>
  refine .inr ?_;have eX:x.phase≠3:=by omega
  have aM:WbW f.clock ({x with pos:=x.pos+1}:Kd)=WbW f.clock x:=Wlt eX eX rfl _;have hch:Wbt ({x with pos:=x.pos+1}:Kd)=Wbt x-1:=by
   unfold Wbt
   grind
  have mL:Wbz ({x with pos:=x.pos+1}:Kd)=Wbz x:=rfl;obtain⟨d1,d2,d3⟩:=Wf3 (q:=(f,{x with pos:=x.pos+1})) hk rfl rfl (by rw[hx];rfl) (by grind [W6]) (λ_=>by simp_all);refine⟨d1,λh=>by omega,λ_=>?_,λh=>by omega,.inl rfl,rfl,Wgb hk hT rfl rfl rfl (λ_ _=>Iff.rfl) ⟨ht.pb,ht.own,ht.seen⟩⟩
  grind [fQ,W6]
 |merge h2=>
  refine .inr ?_;have eX:x.phase≠3:=by omega
  have c:=c3 h2;obtain⟨z,hz⟩:∃z,z=(Wdn f x k).2:=⟨_,rfl⟩;have z3:z.phase=3:=by rw[hz];rfl
  have yv:WaG z=0:=by unfold WaG;rw[Wb z3]
  have vg:WaG x=1:=WcL eX;have e1:(Fm.put (Wdn f x k) k).kids=f.kids.set k z:=by rw[hz];rfl
  have e2:(Fm.put (Wdn f x k) k).clock=f.clock+1:=rfl;have e3:Wfx (Fm.put (Wdn f x k) k)=Wfx f-1:=by grind [Wfx,Wb3]
  have hs0:W6 (f.clock+1) z=0:=by simp_all [W6,Wbt,WbW,Wb,Wa]
  have Ai:=Wln f;have wC:=Wln (Fm.put (Wdn f x k) k);rw[e3]at wC;have e4:fQ (Fm.put (Wdn f x k) k)<fQ f:=by
   unfold fQ;rw[e1,e2,e3,Wb3 hk,hs0,hx];have Aj:=Wqs (c:=f.clock) (l:=f.kids);have h1:=Wqs (c:=f.clock) (l:=f.kids.set k z);rw[Wb3 hk,Wb3 hk,Wb3 hk,hx,hs0,yv,vg]at h1;have qh:W6 f.clock z=0:=by simp_all [W6,Wbt,WbW,Wb,Wa]
   rw[qh]at h1;have ng:=WuO (u:=Wfx f) (by omega);have tn:1<=W6 f.clock x:=by unfold W6;omega
   have kK:Wdc WaG f.kids=Wfx f:=rfl;omega
  refine⟨⟨Int.le_of_lt e4,λj h h' hj=>?_⟩,λh=>by omega,λ_=>e4,λh=>by omega,.inr (.inl rfl),rfl,λj h=>?_⟩
  .have hg:=Whk (q:=Wdn f x k) hk rfl h h';rw[hg]at hj⊢;by_cases he:k=j
   .simp_all
   .rw[Wa he]at hj⊢;refine⟨?_,hj⟩;unfold fP;rw[e2,e3];have a:=Wcm (f.clock+1) f.kids[j];have b:=Wcm f.clock f.kids[j];omega
  .have hj:j<f.kids.length:=by rw[Wml (q:=Wdn f x k) rfl]at h;exact h
   rw[Whk (q:=Wdn f x k) hk rfl hj h];have qg:=ht.own.2 h2;by_cases he:k=j
   .subst he;rw[Wb rfl];refine⟨ht.pb,?_,λhs=>?_⟩
    .show(0:Int)=(k:Int)+1↔(3:Int)=2;omega
    .have:=hK.since;change x.since=f.clock+1 at hs;omega
   .rw[Wa he];have yw:=hT j hj;refine⟨yw.pb,?_,λhs=>?_⟩
    .show(0:Int)=(j:Int)+1↔_;rw[←yw.own];omega
    .have:=(hF.kid j hj).since;omega
end
section
def WcB(m:Mm)(codes:List (List Opn)):Nat->Nat->Fm->Fm
 |0,_,f=>f
 |d+1,i,f=>WcB m codes d (i+1) (WcE m f i (codes.getD i []))
structure FmR(f:Fm)(i:Nat)(g:Fm):Prop where
 len:g.kids.length=f.kids.length
 le:fQ g<=fQ f
 kt:∀(j:Nat) (h:j<g.kids.length),KT g j g.kids[j]
 p:∀(j:Nat) (h:j<f.kids.length) (h':j<g.kids.length),WaG g.kids[j]=1->WaG f.kids[j]=1/\fP g g.kids[j]<=fP f f.kids[j]/\
  (i<=j->fP g g.kids[j]+fQ g<fP f f.kids[j]+fQ f\/(f.kids[j].phase=1/\∃k:Nat,k<i/\f.owner=(k:Int)+1))
 chk:∀(k:Nat) (h:k<f.kids.length),i<=k->f.kids[k].phase=2->fQ g<fQ f
variable{codes:List (List Opn)}{n:Int}{f g:Fm}{m:Mm}{k:Nat}
theorem Wg7{code:List Opn}(h:f.lost=true):WcE m f k code=f:=by unfold WcE;rw[Wb h]
theorem WdQ:∀(d i:Nat) (f:Fm),f.lost=true->WcB m codes d i f=f
 |0,_,_,_=>rfl
 |d+1,i,f,h=>by rw[WcB,Wg7 h];exact WdQ d (i+1) f h
theorem Wtp(hm:W2 m=true)(bd:∀c∈codes,KC c)(h3:codes.length<=3):∀(d i:Nat) (n:Int) (f:Fm),i+d=codes.length->FOk codes n f->(∀(j:Nat) (h:j<f.kids.length),KT f j f.kids[j])->
  (WcB m codes d i f).lost=true\/FmR f i (WcB m codes d i f)
 |0,i,n,f,hi,hF,hT=>.inr ⟨rfl,Xx _,hT,λj h h' hj=>⟨hj,Xx _,λhij=>by have:=hF.len;omega⟩,λk h kL=>by have:=hF.len;omega⟩
 |d+1,i,n,f,hi,hF,hT=>by
  have hlen:=hF.len;have hk:i<f.kids.length:=by omega
  have tp:i<codes.length:=by omega
  by_cases bI:f.lost=true
  .grind [WdQ]
  rw[WcB];have aS:codes.getD i []=codes[i]:=Wp tp _;have hKC:=bd _ (Xo tp);have hKO:=hF.kid i hk;rw[aS]at hKO;have ho:=Wt6 (m:=m) hKC hF hKO (hT i hk);obtain hE:=WxT hk (by omega) (λc hc=>(bd c hc).toCC.len) hF hT rfl ho;have aM:WcE m f i (codes.getD i [])=Fm.put (Weq m f f.kids[i] i codes[i]) i:=by
   unfold WcE;rw[Wa bI,aS,show f.kids.getD i {}=f.kids[i]from Wp hk _]
  have hF1:FOk codes (n+1) (WcE m f i (codes.getD i [])):=by
   grind [WkW]
  rw[aM]at hF1⊢;rcases hE with hE|hE
  .grind [Fm.put,Weq,WdQ]
  generalize Weq m f f.kids[i] i codes[i]=q at*;have be:(Fm.put q i).kids.length=f.kids.length:=Wml hE.kids;have bP:=λ(j:Nat) (hj:j<f.kids.length)=>Whk (q:=q) hk hE.kids hj (by omega);have tX:(Fm.put q i).owner=q.1.owner:=rfl;rcases Wtp hm bd h3 d (i+1) (n+1) (Fm.put q i) (by omega) hF1 hE.kt with hI|hI
  .grind
  right;refine⟨hI.len.trans be,Xfg hI.le hE.d.le,hI.kt,λj h h' hj=>?_,λk h kL h2=>?_⟩
  .have yx:j<(Fm.put q i).kids.length:=by omega
   obtain⟨a1,a2,a3⟩:=hI.p j yx h' hj;obtain⟨b1,b2⟩:=hE.d.p j h yx a1;refine⟨b2,Xfg a2 b1,λhij=>?_⟩;have hle:=hI.le;have ry:=hE.d.le;by_cases he:i=j
   .subst he;have hg:=bP i h;rw[Wb rfl]at hg;rw[hg]at a1 a2 b1;have aW:=hKO.phase;have eX:f.kids[i].phase≠3:=λh3=>by simp_all [WaG,Wb]
    by_cases p0:f.kids[i].phase=0
    .have:=hE.s0 p0 a1;left;omega
    by_cases p2:f.kids[i].phase=2
    .have:=hE.s2 p2;left;omega
    have p1:f.kids[i].phase=1:=by omega
    by_cases o0:f.owner=0
    .have:=hE.s1 p1 o0;left;omega
    have qg:=hF.owner;obtain⟨k,gR⟩:∃k:Nat,f.owner=(k:Int)+1:=⟨(f.owner-1).toNat,by omega⟩;by_cases kM:k<i
    .grind
    have mL:k<f.kids.length:=by omega
    have eV:=(hT k mL).own.1 gR;have hne:k≠i:=λe=>by simp_all
    have vk:=bP k mL;rw[Wa (λe=>hne e.symm)]at vk;have:=hI.chk k (by omega) (by omega) (by simp_all);left;omega
   .have hg:=bP j h;rw[Wa he]at hg;rcases a3 (by omega)with hlt|⟨p1,k,lh,gR⟩
    .left;omega
    .rw[hg]at p1;rw[tX]at gR;rcases hE.own with h0|h0|⟨h0,p,o⟩
     .rw[h0]at gR;by_cases kM:k<i
      .grind
      .have:k=i:=by omega
       subst this;have:=hE.s2 ((hT k hk).own.1 gR);left;omega
     .omega
     .have:=hE.s1 p o;left;omega
  .by_cases he:i=k
   .subst he;exact Int.lt_of_le_of_lt hI.le (hE.s2 h2)
   .have hg:=bP k h;rw[Wa he]at hg;exact Int.lt_of_lt_of_le (hI.chk k (by omega) (by omega) (by simp_all)) hE.d.le
end
section
abbrev Cur:=List Int×Int×Int
def WaS(c:Cur):Prop:=0<=c.2.1/\c.2.1<=c.1.length/\c.1.length<=1048576
def WtH{α:Type}(P:α->Prop)(r:Option ((Cur×Unit)×(α×Unit))):Prop:=∃c v,r=some ((c,()),(v,()))/\WaS c/\P v
theorem WpE(x:Int):∃n:Nat,n<=255/\WhY .i64 x 255=n:=by
 refine⟨(BitVec.ofInt 64 x&&&BitVec.ofInt 64 255).toNat,?_,?_⟩
 .simp[BitVec.toNat_and,Xco,Xho]
 .unfold WhY;have:(BitVec.ofInt 64 x&&&BitVec.ofInt 64 255).toNat<=255:=by
   simp[BitVec.toNat_and,Xco,Xho]
  exact wrap_i64 (WqD (p:=(BitVec.ofInt 64 x&&&BitVec.ofInt 64 255).toNat) (by omega))
theorem Wvr{N:Nat}{code:List Int}(h:code.length<=1048576)(hN:1048576<N):∃c,WaS c/\Zj7 N code=ret c:=by
 have key:∀(n j:Nat) (v:Int),j<=code.length->code.length-j<n->∃hh i t,∀{R:Type} (K:Int->Int->Bool->Option R),Zcz N code K n v (j:Int)=K hh i t:=by
  intro n
  induction n with
  |zero=>omega
  |succ n ih=>
   intro j v h1 h2;by_cases hj:j<code.length
   .by_cases h4:j<4000
    .obtain⟨hh,i,t,e⟩:=ih (j+1) _ hj (by omega);refine⟨hh,i,t,λK=>?_⟩;have e1:decide ((j:Int)<4000)=true:=by simp;omega
     simp only[Zcz,W4 hj,Ww hj,e1,We,Wn (show j<4611686018427387904 by omega)];exact e K
    .refine⟨v,j,decide ((j:Int)<4000),λK=>?_⟩;have e1:decide ((j:Int)<4000)=false:=by simp;omega
     simp only[Zcz,W4 hj,e1,We,Wc]
   .refine⟨v,j,false,λK=>?_⟩;simp_all [Zcz,Wae,Wc]
 obtain⟨hh,i,t,e⟩:=key N 0 (Wm .i64 10101 (Wj code)) (Nat.zero_le _) (by omega);refine⟨(code,0,hh),⟨by simp,by simp,h⟩,?_⟩
 grind [Zj7]
theorem Wex{N:Nat}{c:Cur}(h:WaS c):WtH (λv=>0<=v/\v<=255) (Zge N c):=by
 unfold Zge;obtain⟨h1,h2,h3⟩:=h;have e1:inn 33=true:=rfl;have e2:inn 45=true:=rfl;simp only[e1,e2,We];by_cases hi:c.2.1<c.1.length
 .have e3:decide (c.2.1<Wj c.1)=true:=Wf hi;have e4:inb c.2.1 c.1.length=true:=by grind [inb]
  have e5:Wm .i64 c.2.1 1=c.2.1+1:=WJ (by unfold I64;omega);rw[e3,e4,e5];simp only[We];obtain⟨n,hn,e⟩:=WpE (Wm .i64 (WhY .i64 (Wr4 .i64 (WjE .i64 (Wm .i64 (Wet .i64 c.2.2 (6364136223846793005:Int)) (1442695040888963407:Int)) (33:Int)) (WjE .i64 (Wm .i64 (Wet .i64 c.2.2 (6364136223846793005:Int)) (1442695040888963407:Int)) (45:Int))) (255:Int)) (IntKind.wrap .i64 (Xd c.1 (Xb c.2.1) (0:Int))));exact⟨_,_,rfl,⟨by simp;omega,by simp;omega,h3⟩,by omega⟩
 .have e3:decide (c.2.1<Wj c.1)=false:=Wq hi;rw[e3];simp only[Wc];obtain⟨n,hn,e⟩:=WpE (Wr4 .i64 (WjE .i64 (Wm .i64 (Wet .i64 c.2.2 (6364136223846793005:Int)) (1442695040888963407:Int)) (33:Int)) (WjE .i64 (Wm .i64 (Wet .i64 c.2.2 (6364136223846793005:Int)) (1442695040888963407:Int)) (45:Int)));exact⟨_,_,rfl,⟨h1,h2,h3⟩,by omega⟩
theorem Wqy{v n:Int}(hv:0<=v)(hn:0<n):0<=WjJ v n/\WjJ v n<n:=by
 have e:WjJ v n=v%n:=by grind [WjJ,Xeb]
 rw[e];exact⟨Int.emod_nonneg v (by omega),Int.emod_lt_of_pos v hn⟩
theorem Wg5{N:Nat}{c:Cur}{n:Int}(h:WaS c):WtH (λv=>(n<=0->v=0)/\(0<n->0<=v/\v<n)) (Zb N c n):=by
 unfold Zb;by_cases h0:n<=0
 .have e:decide (n<=0)=true:=by simp_all
  rw[e];exact⟨_,_,rfl,h,λ_=>rfl,λh=>by omega⟩
 .have e:decide (n<=0)=false:=by simp_all
  have ez:inz n=true:=by grind [inz]
  rw[e];simp only[Wc,ez,We];by_cases h1:n<=256
  .have e:decide (n<=256)=true:=by simpa using h1
   rw[e];obtain⟨c1,v,e1,hc,hv⟩:=Wex (N:=N) h;rw[e1];have:=Wqy hv.1 (show 0<n by omega);exact⟨_,_,rfl,hc,λh=>by omega,λ_=>this⟩
  .have e:decide (n<=256)=false:=by simpa using h1
   rw[e];obtain⟨c1,v1,e1,mF,ut⟩:=Wex (N:=N) h;obtain⟨c2,v2,e2,eU,gy⟩:=Wex (N:=N) mF;obtain⟨c3,v3,e3,tq,wD⟩:=Wex (N:=N) eU;obtain⟨c4,v4,e4,uj,hv4⟩:=Wex (N:=N) tq;simp only[Wc,e1,e2,e3,e4,Xc];have m1:Wet .i64 v1 16777216=v1*16777216:=WeP (by unfold I64;omega);have m2:Wet .i64 v2 65536=v2*65536:=WeP (by unfold I64;omega);have m3:Wet .i64 v3 256=v3*256:=WeP (by unfold I64;omega);have a1:Wm .i64 (v1*16777216) (v2*65536)=v1*16777216+v2*65536:=WJ (by unfold I64;omega);have a2:Wm .i64 (v1*16777216+v2*65536) (v3*256)=v1*16777216+v2*65536+v3*256:=WJ (by unfold I64;omega);have a3:Wm .i64 (v1*16777216+v2*65536+v3*256) v4=v1*16777216+v2*65536+v3*256+v4:=WJ (by unfold I64;omega);rw[m1,m2,m3,a1,a2,a3];have:=Wqy (show 0<=v1*16777216+v2*65536+v3*256+v4 by omega) (show 0<n by omega);exact⟨_,_,rfl,uj,λh=>by omega,λ_=>this⟩
end
section
theorem WtF{N:Nat}{c:Cur}{n:Int}(h:WaS c):WtH (λ_=>True) (Zr N c n):=by
 unfold Zr;obtain⟨c1,v,e1,hc,hv⟩:=Wg5 (N:=N) (n:=n) h;rw[e1];exact⟨_,_,rfl,hc,trivial⟩
theorem WtU{N:Nat}{c:Cur}{l:List Int}(h:WaS c)(hl:0<l.length)(fR:l.length<4611686018427387904):WtH (λv=>v∈l) (Zbt N c l):=by
 unfold Zbt;obtain⟨c1,v,e1,hc,hv⟩:=Wg5 (N:=N) (n:=Wj l) h;rw[e1];have hv:=hv.2 (by unfold Wj;omega);unfold Wj at hv;obtain⟨q,rfl⟩:=Xer hv.1;have hq:q<l.length:=by omega
 simp only[Xc,Ww hq,We,Wx hq];exact⟨_,_,rfl,hc,Xo hq⟩
end
section
def Drw{ρ:Type}(P:ρ->Prop)(r:Option ((Cur×Unit)×ρ)):Prop:=∃c v,r=some ((c,()),v)/\WaS c/\P v
theorem Drw.of{α:Type}{P:α->Prop}{r:Option ((Cur×Unit)×(α×Unit))}(h:WtH P r):Drw (λv:α×Unit=>P v.1) r:=by
 obtain⟨c,v,e,h1,h2⟩:=h;exact⟨c,(v,()),e,h1,h2⟩
theorem Drw.bind{ρ σ:Type}{P:ρ->Prop}{Q:σ->Prop}{r:Option ((Cur×Unit)×ρ)}{k:(Cur×Unit)×ρ->Option ((Cur×Unit)×σ)}(h:Drw P r)(hk:∀c v,WaS c->P v->Drw Q (k ((c,()),v))):Drw Q (r.bind k):=by
 obtain⟨c,v,e,h1,h2⟩:=h;simp_all
theorem Drw.ok{ρ:Type}{P:ρ->Prop}{c:Cur}{v:ρ}(hc:WaS c)(hv:P v):Drw P (some ((c,()),v)):=⟨c,v,rfl,hc,hv⟩
theorem Drw.bif{ρ:Type}{P:ρ->Prop}{b:Bool}{x y:Option ((Cur×Unit)×ρ)}(h1:b=true->Drw P x)(h2:b=false->Drw P y):Drw P (bif b then x else y):=by
 grind
theorem Drw.bifT{ρ:Type}{P:ρ->Prop}{b:Bool}{x y:Option ((Cur×Unit)×ρ)}(hb:b=true)(h1:Drw P x):Drw P (bif b then x else y):=by simp_all
theorem Drw.mono{ρ:Type}{P Q:ρ->Prop}{r:Option ((Cur×Unit)×ρ)}(h:Drw P r)(hq:∀v,P v->Q v):Drw Q r:=by
 obtain⟨c,v,e,h1,h2⟩:=h;exact⟨c,v,e,h1,hq v h2⟩
section
variable{N:Nat}{c:Cur}
theorem Waw(n:Int)(h:WaS c):Drw (λv:Int×Unit=>(n<=0->v.1=0)/\(0<n->0<=v.1/\v.1<n)) (Zb N c n):=.of (Wg5 h)
theorem WdR(n:Int)(h:WaS c):Drw (λ_:Bool×Unit=>True) (Zr N c n):=.of (WtF h)
theorem WwJ(l:List Int)(h:WaS c)(hl:0<l.length)(fR:l.length<1000):Drw (λv:Int×Unit=>v.1∈l) (Zbt N c l):=.of (WtU h hl (by omega))
theorem Wy3(h:WaS c):Drw (λv:Int×Unit=>0<=v.1/\v.1<=3) (Za N c):=by
 unfold Za;exact(Waw 4 h).bind λc v hc hv=>.ok hc (by grind)
theorem Wyt(h:WaS c):Drw (λv:Int×Unit=>0<=v.1/\v.1<=65535) (Zhl N c):=by
 unfold Zhl;refine(WdR 6 h).bind λc v hc _=>.bif (λ_=>?_) λ_=>?_
 .refine(WwJ _ hc (by decide) (by decide)).bind λc v hc hv=>.ok hc ?_
  grind
 .exact(Waw 9 hc).bind λc v hc hv=>.ok hc (by grind)
theorem WyQ(h:WaS c):Drw (λv:Int×Unit=>0<=v.1/\v.1<=7) (Zb2 N c):=by
 unfold Zb2;refine(WdR 8 h).bind λc v hc _=>.bif (λ_=>?_) λ_=>?_
 .exact(Waw 8 hc).bind λc v hc hv=>.ok hc (by grind)
 .exact(Waw 3 hc).bind λc v hc hv=>.ok hc (by grind)
theorem Wy4(h:WaS c):Drw (λv:Int×Unit=>True) (Zj N c):=by
 unfold Zj;refine(WdR 4 h).bind λc v hc _=>.bif (λ_=>?_) λ_=>?_
 .exact(Waw 8 hc).bind λc v hc hv=>.ok hc trivial
 .exact(WwJ _ hc (by decide) (by decide)).bind λc v hc hv=>.ok hc trivial
theorem WpZ(kind:Int)(h:WaS c):Drw (λ_:Opn×Unit=>True) (Zh N c kind):=by
 unfold Zh
 repeat' first
  |with_reducible refine Drw.bif (λ_=>?_) λ_=>?_
  |with_reducible refine(Wy3 (by assumption)).bind λc v hc hv=>?_
  |with_reducible refine(Wyt (by assumption)).bind λc v hc hv=>?_
  |with_reducible refine(WyQ (by assumption)).bind λc v hc hv=>?_
  |with_reducible refine(Wy4 (by assumption)).bind λc v hc hv=>?_
  |with_reducible refine(Waw _ (by assumption)).bind λc v hc hv=>?_
  |with_reducible exact .ok (by assumption) trivial
theorem Ws9{rec:Cur->Int->Int->Bool->Option ((Cur×Unit)×(List Opn×Unit))}{most deep:Int}{kid:Bool}(hm:0<=most/\most<=100)
  (bn:∀c (m d:Int),WaS c->0<=m->m<most->Drw (λv:List Opn×Unit=>(v.1.length:Int)<=m+2) (rec c m d kid)):
  ∀(n i:Nat) (c:Cur) (l:List Opn),i<n->i<=1000->WaS c->(l.length:Int)<=most+2->Drw (λv:List Opn×Unit=>(v.1.length:Int)<=most+2) (Zc N rec most deep kid (λky kz ey eA=>(some ((ey,()),(eA,())))) n (i:Int) c l)
 |0,i,c,l,h,_,_,_=>by omega
 |n+1,i,c,l,h,hib,hc,hl=>by
  have hs:(0:Int)<i->WZ .i64 (i:Int) 1=((i-1:Nat):Int):=λh0=>by grind [Wam,I64]
  have xu:WZ .i64 most (Wj l)=most-(l.length:Int):=Wam (by unfold I64 Wj;omega);have mS:WZ .i64 (most-(l.length:Int)) 3=most-(l.length:Int) -3:=Wam (by unfold I64;omega);simp only[Zc,xu,mS];refine .bif (λh0=>?_) λ_=>.ok hc hl;have h0:(i:Int)>0:=Wt h0;rw[hs h0];refine .bif (λh1=>?_) λ_=>.ok hc hl;have h1:(l.length:Int)<most:=Wt h1;have next:∀c' (l':List Opn),WaS c'->(l'.length:Int)<=most+2->Drw (λv:List Opn×Unit=>(v.1.length:Int)<=most+2) (Zc N rec most deep kid (λky kz ey eA=>(some ((ey,()),(eA,())))) n ((i-1:Nat):Int) c' l'):=
   λc' l' h1 h2=>Ws9 hm bn n (i-1) c' l' (by omega) (by omega) h1 h2
  have rm:∀(a:List Opn) (b:List Opn),(a.length:Int)+b.length<=1000->WM (a.length+b.length)=true:=λa b h=>WB (by omega);have wE:∀c' (o:Opn),WaS c'->Drw (λv:List Opn×Unit=>(v.1.length:Int)<=most+2) (bif WM (l.length+ [o].length)then Zc N rec most deep kid (λky kz ey eA=>(some ((ey,()),(eA,())))) n ((i-1:Nat):Int) c' (Xf l [o])else none):=
   λc' o h2=>.bifT (rm _ _ (by simp;omega)) (next _ _ h2 (by grind [Xal]))
  refine(Waw 20 hc).bind λc v hc hv=>?_;have wF:∀c',WaS c'->(4:Int)<=most-(l.length:Int)->Drw (λv:List Opn×Unit=>(v.1.length:Int)<=most+2) ((rec c' (most-(l.length:Int) -3) (WZ .i64 deep 1) kid).bind λfV=>
           ((Zh N fV.1.1 (8:Int)).bind λfu=>
            (bif WM ((Xa l)+(Xa ([fu.2.1])))then
             (bif WM ((Xa (Xf l ([fu.2.1])))+(Xa fV.2.1))then
              ((Zr N fu.1.1 (3:Int)).bind λls=>
               (bif ls.2.1 then
                (bif WM ((Xa (Xf (Xf l ([fu.2.1])) fV.2.1))+(Xa ([((10:Int),((0:Int),((0:Int),(0:Int))))])))then
                 (bif WM ((Xa (Xf (Xf (Xf l ([fu.2.1])) fV.2.1) ([((10:Int),((0:Int),((0:Int),(0:Int))))])))+(Xa ([((9:Int),((0:Int),((0:Int),(0:Int))))])))then
                  (Zc N rec most deep kid (λky kz ey eA=>(some ((ey,()),(eA,())))) n ((i-1:Nat):Int) ls.1.1 (Xf (Xf (Xf (Xf l ([fu.2.1])) fV.2.1) ([((10:Int),((0:Int),((0:Int),(0:Int))))])) ([((9:Int),((0:Int),((0:Int),(0:Int))))])))else none)else none)
                else
                (bif WM ((Xa (Xf (Xf l ([fu.2.1])) fV.2.1))+(Xa ([((9:Int),((0:Int),((0:Int),(0:Int))))])))then
                 (Zc N rec most deep kid (λky kz ey eA=>(some ((ey,()),(eA,())))) n ((i-1:Nat):Int) ls.1.1 (Xf (Xf (Xf l ([fu.2.1])) fV.2.1) ([((9:Int),((0:Int),((0:Int),(0:Int))))])))else none)))else none)else none))):=λc' gL h4=>by
   refine(bn c' _ _ gL (by omega) (by omega)).bind λc2 v2 eU gy=>(WpZ 8 eU).bind λc3 v3 tq _=>?_;simp only[];refine .bifT (rm _ _ (by simp;omega)) (.bifT (rm _ _ (by grind [Xal])) ((WdR 3 tq).bind λc4 v4 uj _=>.bif (λ_=>?_) λ_=>?_))
   .grind [Xal]
   grind [Xal]
  repeat' first
   |with_reducible exact wE _ _ (by assumption)
   |with_reducible refine Drw.bif (λ_=>?_) λ_=>?_
   |with_reducible refine(WpZ _ (by assumption)).bind λc v hc hv=>?_
   |with_reducible refine(WdR _ (by assumption)).bind λc v hc hv=>?_
   |with_reducible refine(Waw _ (by assumption)).bind λc v hc hv=>?_
   |exact wF _ (by assumption) (by simp only[Wh,ge_iff_le]at*;omega)
  all_goals
   rename_i hx;have hx:=Wt hx;refine(bn _ 2 0 (by assumption) (by omega) (by omega)).bind λc2 v2 eU gy=>(WpZ 7 eU).bind λc3 v3 tq _=>?_
   grind [Xal]
theorem Wv8(hN:1048576<N):∀(m:Nat) (c:Cur) (most deep:Int) (kid:Bool),WaS c->0<=most->most<=100->most<m->Drw (λv:List Opn×Unit=>(v.1.length:Int)<=most+2) (Ze1 N m c most deep kid)
 |0,c,most,deep,kid,hc,h0,h1,h2=>by omega
 |m+1,c,most,deep,kid,hc,h0,h1,h2=>by
  unfold Ze1;refine(Waw most hc).bind λc v hc hv=>?_;have gy:0<=v.1/\v.1<=100:=by
   omega
  have e:Wm .i64 1 v.1=(((1+v.1).toNat:Nat):Int):=by grind [WJ,I64]
  simp only[e];exact Ws9 ⟨h0,h1⟩ (λc m' d gL q0 q1=>Wv8 hN m c m' d kid gL q0 (by omega) (by omega)) N _ c [] (by omega) (by omega) hc (by simp;omega)
theorem Wym(hN:1048576<N){most deep:Int}{kid:Bool}(hc:WaS c)(h0:0<=most)(h1:most<=100):Drw (λv:List Opn×Unit=>v.1.length<=102) (Zj8 N c most deep kid):=by
 unfold Zj8;exact(Wv8 hN N c most deep kid hc h0 h1 (by omega)).mono λv hv=>by omega
theorem WpL(hN:1048576<N):∀(n i:Nat) (c:Cur) (l:List Int),8-i<n->i<=8->WaS c->l.length=i->
  Drw (λv:List Int×Unit=>v.1.length=8) (Zcw N (λsm aH bp aR=>(some ((bp,()),(aR,())))) n (i:Int) c l)
 |0,i,c,l,h,_,_,_=>by omega
 |n+1,i,c,l,h,hi,hc,hl=>by
  unfold Zcw;refine .bif (λh0=>?_) λh0=>.ok hc (by grind);have h0:(i:Int)<8:=Wt h0;rw[Wn (show i<4611686018427387904 by omega)];refine(Wyt hc).bind λc v hc hv=>.bifT (WB (by simp;omega)) ?_;exact WpL hN n (i+1) c _ (by omega) (by omega) hc (by simp_all)
theorem WyA(hN:1048576<N)(hc:WaS c):Drw (λv:List Int×Unit=>v.1.length=8) (Zf1 N c):=by
 unfold Zf1;exact WpL hN N 0 c [] (by omega) (by omega) hc rfl
end
end
section
theorem Wri{α:Type}{a b:Option α}(h:a=b):WfS a b=a:=by unfold WfS;rw[Wb h]
section
variable{N:Nat}{c:Cur}
theorem Wp0(hN:1048576<N){aY:List Opn}(fO:aY.length<=300):∀(n i:Nat) (c:Cur) (l:List (List Opn)),i<n->i<=100->WaS c->l.length+i<=100->(∀x∈l,x.length<=200)->
  Drw (λv:(List Opn×List (List Opn))×Unit=>v.1.1.length<=300/\v.1.2.length<=100/\∀x∈v.1.2,x.length<=200) (Zf2 N aY (λvH t23 dA gE=>(some ((dA,()),((aY,gE),())))) n (i:Int) c l)
 |0,i,c,l,h,_,_,_,_=>by omega
 |n+1,i,c,l,h,hi,hc,hl,hx=>by
  unfold Zf2;refine .bif (λh0=>?_) λ_=>.ok hc ⟨fO,by simp_all,hx⟩;have h0:(i:Int)>0:=Wt h0;have e:WZ .i64 (i:Int) 1=((i-1:Nat):Int):=by grind [Wam,I64]
  rw[e];refine(Waw 5 hc).bind λc v hc hv=>?_;have hv:=hv.2 (by decide);have e2:Wm .i64 2 v.1=2+v.1:=WJ (by unfold I64;omega);simp only[e2];refine(Wym hN hc (by omega) (by omega)).bind λc w hc hw=>.bifT (WB (by simp;omega)) ?_;refine Wp0 hN fO n (i-1) c _ (by omega) (by omega) hc (by grind [Xal]) λx kV=>?_
  grind [Xal]
theorem WxL(hN:1048576<N){b:Bool}(hc:WaS c):Drw (λv:(List Opn×List (List Opn))×Unit=>v.1.1.length<=300/\v.1.2.length<=100/\∀x∈v.1.2,x.length<=200) (Zea N c b):=by
 unfold Zea;refine .bif (λ_=>?_) λ_=>?_
 .refine(Waw 8 hc).bind λc v hc hv=>?_;have hv:=hv.2 (by decide);have e2:Wm .i64 3 v.1=3+v.1:=WJ (by unfold I64;omega);simp only[e2];exact(Wym hN hc (by omega) (by omega)).bind λc w hc hw=>.ok hc ⟨by grind,by simp,by simp⟩
 .refine(Waw 4 hc).bind λc v hc hv=>?_;have hv:=hv.2 (by decide);have e2:Wm .i64 1 v.1=1+v.1:=WJ (by unfold I64;omega);simp only[e2];refine(Wym hN hc (by omega) (by omega)).bind λc w hc hw=>(Waw 4 hc).bind λc v2 hc gy=>?_;have gy:=gy.2 (by decide);have e3:Wm .i64 1 v2.1=1+v2.1:=WJ (by unfold I64;omega);simp only[e3];refine(Wym hN hc (by omega) (by omega)).bind λc w2 hc Aa=>.bifT (WB (by simp;omega)) (.bifT (WB (by grind [Xal])) ((Waw 3 hc).bind λc v3 hc wD=>?_));have wD:=wD.2 (by decide);have e4:Wm .i64 1 v3.1=(((1+v3.1).toNat:Nat):Int):=by grind [WJ,I64]
  grind [Wp0,Xal]
theorem WyJ(hc:WaS c):Drw (λv:Opn×Unit=>True) (Zot N c):=by
 unfold Zot;refine(Waw 16 hc).bind λc v hc hv=>(WpZ _ hc).bind λc w hc _=>(Waw 16 hc).bind λc v hc hv=>.bif (λ_=>?_) λ_=>.bif (λ_=>?_) λ_=>.bif (λ_=>?_) λ_=>.bif (λ_=>?_) λ_=>.ok hc trivial
 all_goals exact(WwJ _ hc (by decide) (by decide)).bind λc v hc hv=>.ok hc trivial
theorem Wqf:∀(n:Nat) (c:Cur) (l:List Opn),600-l.length<n->WaS c->l.length<=500->
  Drw (λv:List Opn×Unit=>v.1.length<=600) (Zf3 N (λba dy bg=>(some ((dy,()),(bg,())))) n c l)
 |0,c,l,h,_,_=>by omega
 |n+1,c,l,h,hc,hl=>by
  unfold Zf3;refine(Waw 2 hc).bind λc v hc hv=>?_;have hv:=hv.2 (by decide);have e:Wm .i64 24 v.1=24+v.1:=WJ (by unfold I64;omega);simp only[e];refine .bif (λh0=>?_) λ_=>.ok hc (by grind);have h0:(l.length:Int)<24+v.1:=Wt h0;exact .bifT (WB (by simp;omega)) (Wqf n c _ (by grind [Xal]) hc (by grind [Xal]))
theorem Wxw(hN:1048576<N){l:List Opn}(hc:WaS c)(hl:l.length<=500):Drw (λv:List Opn×Unit=>v.1.length<=600) (Zhm N c l):=by
 unfold Zhm;have en:Xf ([]:List Opn) l=l:=rfl;simp only[en];refine .bifT (WB (by simp;omega)) (.bif (λ_=>.ok hc (by simp)) λh0=>?_);have hpos:0<l.length:=by
  cases l with
  |nil=>exact Wi h0 (by decide)
  |cons a b=>simp
 refine(Waw (Wj l) hc).bind λc k hc hk=>?_;have hk:=hk.2 (by unfold Wj;omega);unfold Wj at hk;obtain⟨k,u⟩:=k;simp only at hk;obtain⟨j,rfl⟩:=Xer hk.1;have hj:j<l.length:=by omega
 have ei:inb (j:Int) l.length=true:=Ww hj;have e1:Wm .i64 (j:Int) 1=((j+1:Nat):Int):=Wn (by omega);have c1:((decide ((0:Int)<=(j:Int)))&&(decide ((j:Int)<=((Xa l):Int))))=true:=by simp;omega
 have c2:((decide ((0:Int)<=((j+1:Nat):Int)))&&(decide (((j+1:Nat):Int)<=((Xa l):Int))))=true:=by simp;omega
 refine(Waw 6 hc).bind λc v hc hv=>?_;simp only[e1,ei,c1,c2,We,Wri rfl];refine .bif (λ_=>?_) λ_=>.bif (λ_=>.ok hc (by simp;omega)) λ_=>.bif (λ_=>?_) λ_=>.bif (λ_=>?_) λ_=>.bif (λ_=>.ok hc (by simp;omega)) λ_=>?_
 .exact(WyJ hc).bind λc w hc _=>.ok hc (by simp;omega)
 .have hlen:(Xcd (Xb ((j+1:Nat):Int)) (Xaf l.length l)).length=l.length-(j+1):=by simp_all
  have iv:(Xaf (Xb (j:Int)) l).length=j:=by simp_all
  exact .bifT (WB (by omega)) (.ok hc (by grind [Xal,Xs]))
 .grind [Wqf]
 .exact(Waw 2 hc).bind λc w hc _=>.ok hc (by simp;omega)
end
end
section
def WcW(s:Int):Int:=(s-1)/65536
def WbS(k:Int):Int:=(7*k+3)%4
structure SlOk(l:List Int):Prop where
 len:l.length=16
 each:∀i (h:i<l.length),l[i]=0\/((1<=l[i]/\l[i]<=524288)/\WbS (WcW l[i])=((i/4:Nat):Int))
 one:∀i j (hi:i<l.length) (hj:j<l.length),i<j->l[i]≠0->l[j]≠0->WcW l[i]≠WcW l[j]
def Wq9(k s:Int):Bool:=decide (s>0)&&decide (WcW s=k)
def Wp3(l:List Int)(k:Int):Option (Nat×Int):=fnd (Wq9 k) l 0
def WgU(l:List Int)(k:Int):Nat:=if Wcl l (4*WbS k) 0=0 then(4*WbS k).toNat else(4*WbS k).toNat+1
def Wpk(l:List Int)(k v:Int):List Int:=match Wp3 l k with
 |some r=>l.set r.1 (1+65536*k+v)
 |none=>l.set (WgU l k) (1+65536*k+v)
def WeG(l:List Int)(k:Int):Int:=match Wp3 l k with
 |some r=>(r.2-1)%65536+1
 |none=>0
def WkF(l:List Int)(k:Int):List Int:=match Wp3 l k with
 |some r=>l.set r.1 0
 |none=>l
variable{N:Nat}{l:List Int}{k v:Int}
theorem Wwl{n:Int}(h:I64 n):IntKind.wrap .i64 n=n:=wrap_i64 h
theorem WmB{s:Int}(h:1<=s/\s<=524288):Zid N s=ret (WcW s):=by
 unfold Zid;rw[Wam (by unfold I64;omega)];have:Wr1 .i64 (s-1) 65536=WcW s:=by
  unfold Wr1 WcW;rw[Xec (by omega),Wwl (by unfold I64;omega)]
 rw[this];rfl
theorem Wmm{s:Int}(h:1<=s/\s<=524288):0<=WcW s/\WcW s<=7:=by unfold WcW;omega
theorem WeV:Zbc N k=ret (decide (0<=k)&&decide (k<=7)):=by simp[Zbc,WV]
theorem WkG(hk:0<=k/\k<=7)(hv:0<=v/\v<=65535):Ziz N k v=ret (1+65536*k+v):=by
 unfold Ziz;rw[WeP (by unfold I64;omega),WJ (a:=1) (by unfold I64;omega),WJ (by unfold I64;omega)]
theorem Wkl(hk:0<=k/\k<=7):Zi9 N k=ret (WbS k):=by
 unfold Zi9;rw[WeV,WeP (by unfold I64;omega),WJ (by unfold I64;omega)];have:WjJ (7*k+3) 4=WbS k:=by grind [WjJ,WbS,Xeb]
 simp only[ret,Xc,Wf hk.1,Wf hk.2,Xbl,Xt,Wc,this];rfl
theorem SlOk.val(h:SlOk l){i:Nat}(hi:i<l.length)(hn:l[i]≠0):1<=l[i]/\l[i]<=524288:=by
 rcases h.each i hi with h0|h0
 .omega
 omega
theorem WeI(h:SlOk l)(hN:1048576<N):Zg2 N l k=ret (match Wp3 l k with|some r=>(r.1:Int)|none=>-1):=by
 unfold Zg2 Wp3;have hl:=h.len;have h1:=WlV (l:=l) (p:=Wq9 k) (N:=N) (lp:=λn j=>Zdw N k l (λba=>(some ((),(ba,())))) (λdE bf=>(some ((),((-1:Int),())))) n j) (K0:=λj=>some ((),(j,()))) (K1:=some ((),((-1:Int),()))) (by omega) (by omega)
  (λn j hj=>by
   simp only[Zdw,W4 hj,Ww hj,Wx hj,Wn (show j<4611686018427387904 by omega),We];unfold Wq9;by_cases h0:l[j]>0
   .rw[WmB (h.val hj (by omega))]
    grind
   grind)
  (λn=>by simp[Zdw,Wae,Xm,Wc])
 rw[h1];cases fnd (Wq9 k) l 0<;>rfl
theorem WbZ(h:SlOk l)(hN:1048576<N):Zdc N l=ret true:=by
 have hl:=h.len;have lp:∀(d j n:Nat) (s:List Bool),j+d=16->d<n->s.length=8->(∀c:Nat,s.getD c false=true->∃i,∃hi:i<l.length,i<j/\l[i]≠0/\WcW l[i]=c)->
   Zca N l (some ((),(false,()))) (λsX sY sZ=>(some ((),(true,())))) n (j:Int) s=ret true:=by
  intro d
  induction d with
  |zero=>
   intro j n s hj hn _ _;obtain⟨n,rfl⟩:∃n',n=n'+1:=⟨n-1,by omega⟩;have:j=l.length:=by omega
   subst this;simp[Zca,Wae,Xm,Wc]
  |succ d ih=>
   intro j n s hj hn hs hb;obtain⟨n,rfl⟩:∃n',n=n'+1:=⟨n-1,by omega⟩;have hlt:j<l.length:=by omega
   simp only[Zca,W4 hlt,Ww hlt,Wx hlt,Wn (show j<4611686018427387904 by omega),We,WH];by_cases h0:l[j]=0
   .rw[Wb h0];exact ih (j+1) n s (by omega) (by omega) hs λc hc=>by
     grind
   .rw[Wa h0];have hv:=h.val hlt h0;have hk:=Wmm hv;have yy:WbS (WcW l[j])=((j/4:Nat):Int):=by
     rcases h.each j hlt with h1|h1
     .omega
     omega
    have hq:Wr1 .i64 (j:Int) 4=((j/4:Nat):Int):=by
     unfold Wr1;rw[Xec (by omega),Wwl (by unfold I64;omega)];omega
    have cQ:s.getD (Xb (WcW l[j])) false=false:=by
     rw[Bool.eq_false_iff];intro hc;obtain⟨i,hi,h1,h2,h3⟩:=hb _ hc;exact h.one i j hi hlt h1 h2 h0 (by omega)
    rw[WkG (k:=7) (v:=65535) (by omega) (by omega),WmB hv];simp only[ret,Xc,WV,show(1:Int)+65536*7+65535=524288 from rfl,Wf hv.1,Wf hv.2,Xbl,Xt,Wc,Wkl hk,yy,hq,bne_self_eq_false];rw[show inz (4:Int)=true from rfl];simp only[We];rw[show inb (WcW l[j]) 8=true by grind [inb],hs,Wf rfl,cQ];simp only[Xbl,We,Wc];refine ih (j+1) n _ (by omega) (by omega) (by simp_all) λc hc=>?_;by_cases hcj:c=(WcW l[j]).toNat
    .grind
    .have:s.getD c false=true:=by
      grind
     grind
 unfold Zdc;rw[show((Wj l) !=(16:Int))=false by grind [Wj]];simp only[Wc];refine lp 16 0 N _ (by omega) (by omega) (by simp) λc hc=>?_;rw[List.getD_eq_getElem?_getD]at hc;by_cases h8:c<8
 .grind
 simp_all
theorem WeA(h:SlOk l){r:Nat×Int}(hr:Wp3 l k=some r):∃hi:r.1<l.length,l[r.1]=r.2/\1<=r.2/\r.2<=524288/\WcW r.2=k/\WbS k=((r.1/4:Nat):Int):=by
 obtain⟨h1,h2,h3,h4⟩:=Wc3 hr;rw[Xbc]at h3;rw[Xdj,Xp h3]at h4;injection h4 with h4;unfold Wq9 at h1;simp only[Xi,Wh]at h1;have h5:=h.val h3 (by omega);rcases h.each r.1 h3 with h6|h6
 .omega
 simp_all
theorem Wiy(h:SlOk l)(hr:Wp3 l k=none)(i:Nat)(hi:i<l.length)(hn:l[i]≠0):WcW l[i]≠k:=by
 have:=Wie hr l[i] (Xo hi);unfold Wq9 at this;have h1:=h.val hi hn
 grind
theorem Wv2(k:Int):0<=WbS k/\WbS k<=3:=by unfold WbS;omega
theorem WnE(h:SlOk l)(hk:0<=k/\k<=7)(hr:Wp3 l k=none):∃hi:WgU l k<l.length,l[WgU l k]=0/\WbS k=((WgU l k/4:Nat):Int)/\(WgU l k=(4*WbS k).toNat\/(WgU l k=(4*WbS k).toNat+1/\Wcl l (4*WbS k) 0≠0)):=by
 have hl:=h.len;have hb:=Wv2 k;unfold WgU;have h1:(4*WbS k).toNat<l.length:=by omega
 have hg:Wcl l (4*WbS k) 0=l[(4*WbS k).toNat]:=Wp h1 _;by_cases h0:Wcl l (4*WbS k) 0=0
 .grind
 .simp only[Wa h0];have h2:(4*WbS k).toNat+1<l.length:=by omega
  refine⟨h2,?_,by omega,.inr ⟨trivial,h0⟩⟩;refine Classical.byContradiction λhn=>?_;rw[hg]at h0;have a1:=Wiy h hr _ h1 h0;have a2:=Wiy h hr _ h2 hn;have a3:=h.one _ _ h1 h2 (by omega) h0 hn;have b1:=Wmm (h.val h1 h0);have b2:=Wmm (h.val h2 hn);rcases h.each _ h1 with c1|c1
  .exact h0 c1
  .rcases h.each _ h2 with c2|c2
   .exact hn c2
   grind [WcW,WbS]
theorem Wu7(hk:0<=k/\k<=7)(hv:0<=v/\v<=65535):(1<=1+65536*k+v/\1+65536*k+v<=524288)/\WcW (1+65536*k+v)=k:=by unfold WcW;omega
theorem WkU(h:SlOk l){i:Nat}(hi:i<l.length){s:Int}(hs:s=0\/((1<=s/\s<=524288)/\WbS (WcW s)=((i/4:Nat):Int)))(ho:s≠0->∀j (hj:j<l.length),j≠i->l[j]≠0->WcW l[j]≠WcW s):SlOk (l.set i s) where
 len:=by rw[Xah];exact h.len
 each:=λj hj=>by
  rw[Xah]at hj;rw[Xau];by_cases he:i=j
  .simp_all
  .rw[Wa he];exact h.each j hj
 one:=λa b ha hb fE=>by
  rw[Xah]at ha hb;rw[Xau,Xau];by_cases h1:i=a
  .grind
  .rw[Wa h1];by_cases h2:i=b
   .grind
   .rw[Wa h2];exact h.one a b ha hb fE
theorem Wh7(h:SlOk l)(hk:0<=k/\k<=7)(hv:0<=v/\v<=65535):SlOk (Wpk l k v):=by
 obtain⟨k1,k2⟩:=Wu7 hk hv;unfold Wpk;cases hr:Wp3 l k with
 |some r=>
  obtain⟨hi,h1,h2,h3,h4,h5⟩:=WeA h hr;refine WkU h hi (.inr ⟨k1,by simp_all⟩) λ_ j hj hne hn=>?_;rw[k2,←h4,←h1];rcases Nat.lt_or_gt_of_ne hne with hlt|hlt
  .exact h.one j r.1 hj hi hlt hn (by omega)
  .exactλe=>h.one r.1 j hi hj hlt (by omega) hn e.symm
 |none=>
  grind [WnE,WkU,Wiy]
theorem WmE(h:SlOk l):SlOk (WkF l k):=by
 unfold WkF;cases hr:Wp3 l k with
 |some r=>
  obtain⟨hi,h1,_⟩:=WeA h hr;exact WkU h hi (.inl rfl) λh=>Wi rfl h
 |none=>exact h
theorem Wgp(l:List Int)(k:Int):0<=WeG l k/\WeG l k<=65536:=by
 unfold WeG;cases Wp3 l k<;>simp only<;>omega
theorem WcS(h:SlOk l)(hk:0<=k/\k<=7)(hN:1048576<N):Zh1 N l k=some ((),((if WeG l k=0 then 0 else WeG l k-1),(decide (WeG l k≠0),()))):=by
 unfold Zh1 WeG;rw[WbZ h hN,WeV,WeI h hN];simp only[ret,Xc,Xt,Wc,Wf hk.1,Wf hk.2,Xbl];cases hr:Wp3 l k with
 |none=>rfl
 |some r=>
  obtain⟨hi,h1,h2,h3,h4,h5⟩:=WeA h hr;simp only[Wq (show¬((r.1:Int)<0) by omega),Wc,Wag,Wf hi,We,Wx hi,h1];rw[Wam (by unfold I64;omega),Wcv (by omega),Wa (by omega),Wf (by omega)];simp only[Int.add_sub_cancel];rfl
theorem WcU(h:SlOk l)(hk:0<=k/\k<=7)(hv:0<=v/\v<=65535)(hN:1048576<N):Ze2 N l k v=some ((),(Wpk l k v,(WeG l k,(true,())))):=by
 have hl:=h.len;unfold Ze2;rw[Wcu (by omega),WbZ h hN,WeV,WaB,WeI h hN,WcS h hk hN,WkG hk hv,Wkl hk];simp only[ret,Xc,Xt,Wc,Wf hk.1,Wf hk.2,Xbl,Wbo.2 hv];unfold Wpk WeG;cases hr:Wp3 l k with
 |some r=>
  obtain⟨hi,h1,h2,h3,h4,h5⟩:=WeA h hr;simp only[Wf (show((r.1:Int)>=0) by omega),We,Wag,Wf hi,Xj];rw[Wa (by omega),WJ (by unfold I64;omega)];simp_all
 |none=>
  simp only[show decide ((-1:Int)>=0)=false from rfl,Wc];have hb:=Wv2 k;obtain⟨hi,h1,h2,h3⟩:=WnE h hk hr;rw[WeP (by unfold I64;omega)];obtain⟨N',rfl⟩:∃N',N=N'+1+1:=⟨N-2,by omega⟩;have kn:4*WbS k=(((4*WbS k).toNat:Nat):Int):=by omega
  have g0:∀n,Zc0 (N'+1+1) k v l (λkA eR=>(bif inb kA (Xa l)then(some ((),(Xk l (Xb kA) (1+65536*k+v),(0,(true,())))))else none)) (n+1) (WgU l k:Int)=some ((),(l.set (WgU l k) (1+65536*k+v),((0:Int),(true,())))):=λn=>by
   simp only[Zc0,Ww hi,Wx hi,h1,We,bne_self_eq_false,Wc];rw[Xj]
  rcases h3 with h3|⟨h3,h4⟩
  .grind
  .have hlt:(4*WbS k).toNat<l.length:=by omega
   have hg:Wcl l (4*WbS k) 0=l[(4*WbS k).toNat]:=Wp hlt _;rw[hg]at h4;have kh:=g0 N';rw[kn];rw[Zc0];simp only[Ww hlt,Wx hlt,We];rw[show(l[(4*WbS k).toNat] !=0)=true by grind,Wn (by omega),←h3]
   grind
theorem Wej(h:SlOk l)(hk:0<=k/\k<=7)(hN:1048576<N):Zja N l k=some ((),(WkF l k,(WeG l k,(true,())))):=by
 have hl:=h.len;unfold Zja;rw[Wcu (by omega),WbZ h hN,WeV,WeI h hN,WcS h hk hN];simp only[ret,Xc,Xt,Wc,Wf hk.1,Wf hk.2,Xbl];unfold WkF WeG;cases hr:Wp3 l k with
 |some r=>
  obtain⟨hi,h1,h2,h3,h4,h5⟩:=WeA h hr;simp only[Wq (show¬((r.1:Int)<0) by omega),We,Wc,Wag,Wf hi,Xj];rw[Wa (by omega),WJ (by unfold I64;omega)];simp_all
 |none=>rfl
end
section
abbrev Shf:=List Int×Int
abbrev Un:=Int×Int×Int
structure ShOk(s:Shf):Prop where
 slots:SlOk s.1
 cnt:0<=s.2/\s.2<=65535
def UnV(u:Un):Prop:=(u.1=1/\(0<=u.2.1/\u.2.1<=7)/\0<=u.2.2/\u.2.2<=65535)\/(u.1=2/\(0<=u.2.1/\u.2.1<=7)/\u.2.2=0)\/(u.1=3/\u.2.1=0/\0<=u.2.2/\u.2.2<=65535)
def WiN(s:Shf)(u:Un):Shf:=
 if u.1=1 then(Wpk s.1 u.2.1 u.2.2,s.2)else if u.1=2 then(WkF s.1 u.2.1,s.2)else if u.1=3 then(s.1,(s.2-u.2.2+65536)%65536)else s
def WhV(k e:Int):Un:=if e=0 then(2,k,0)else(1,k,e-1)
def Wbx(s:Shf)(o:Opn)(r:List Int):Shf×List Int×Un:=
 if o.1=12 then((Wpk s.1 o.2.1 (Wcl r o.2.2.1 0),s.2),Woc r o.2.2.2 (WeG s.1 o.2.1%65536),WhV o.2.1 (WeG s.1 o.2.1))else
 if o.1=13 then(s,Woc r o.2.1 (WeG s.1 o.2.2.1%65536),(0,0,0))else
 if o.1=14 then((WkF s.1 o.2.1,s.2),Woc r o.2.2.1 (WeG s.1 o.2.1%65536),WhV o.2.1 (WeG s.1 o.2.1))else
 if o.1=15 then((s.1,(s.2+Wcl r o.2.1 0)%65536),r,(3,0,Wcl r o.2.1 0))else
 (s,Woc r o.2.1 s.2,(0,0,0))
def WaH(o:Opn):Int×Int:=
 if o.1=12\/o.1=14 then(o.2.1,2)else if o.1=13 then(o.2.2.1,1)else if o.1=15 then(8,1)else(8,2)
section
variable{o:Opn}
theorem WvL(h:Wey o=true)(h5:o.1=12):Wfu o.2.1=true/\Wad o.2.2.1=true/\Wad o.2.2.2=true:=by
 obtain⟨k,a,b,c⟩:=o;simp only at h5;subst h5;have:(Wfu a&&Wad b&&Wad c)=true:=h;simp_all
theorem Wwm(h:Wey o=true)(h5:o.1=13):Wad o.2.1=true/\Wfu o.2.2.1=true:=by
 obtain⟨k,a,b,c⟩:=o;simp only at h5;subst h5;have:(Wad a&&Wfu b&&(c==(0:Int)))=true:=h;simp_all
theorem WvN(h:Wey o=true)(h5:o.1=14):Wfu o.2.1=true/\Wad o.2.2.1=true:=by
 obtain⟨k,a,b,c⟩:=o;simp only at h5;subst h5;have:(Wfu a&&Wad b&&(c==(0:Int)))=true:=h;simp_all
theorem WyP(h:Wey o=true)(h5:o.1=15):Wad o.2.1=true:=by
 obtain⟨k,a,b,c⟩:=o;simp only at h5;subst h5;have:(Wad a&&(b==(0:Int))&&(c==(0:Int)))=true:=h;simp_all
theorem WxR(h:Wey o=true)(h5:o.1=16):Wad o.2.1=true:=by
 obtain⟨k,a,b,c⟩:=o;simp only at h5;subst h5;have:(Wad a&&(b==(0:Int))&&(c==(0:Int)))=true:=h;simp_all
end
theorem WcX{x:Int}:Wfu x=true↔0<=x/\x<=7:=by unfold Wfu;simp
variable{N:Nat}{s:Shf}{u:Un}{o:Opn}{r:List Int}
theorem WmY{k e:Int}(hk:0<=k/\k<=7)(he:0<=e/\e<=65536):UnV (WhV k e):=by
 unfold WhV UnV
 grind
theorem WrV(h:ShOk s)(hu:UnV u):ShOk (WiN s u):=by
 unfold WiN;rcases hu with⟨h1,h2,h3⟩|⟨h1,h2,h3⟩|⟨h1,h2,h3⟩
 .rw[Wb h1];exact⟨Wh7 h.slots h2 h3,h.cnt⟩
 .rw[Wa (by omega),Wb h1];exact⟨WmE h.slots,h.cnt⟩
 .rw[Wa (by omega),Wa (by omega),Wb h1];exact⟨h.slots,by omega⟩
theorem WrX(h:ShOk s)(hr:Vals 4 r)(ho:Wey o=true)(fO:12<=o.1):ShOk (Wbx s o r).1/\Vals 4 (Wbx s o r).2.1/\((Wbx s o r).2.2.1≠0->UnV (Wbx s o r).2.2)/\((Wbx s o r).2.2.1=0->(Wbx s o r).1=s):=by
 have ui:=WoN ho;unfold Wbx;split
 .obtain⟨a,b,c⟩:=WvL ho ‹_›;rw[WcX]at a;have hg:=Wgp s.1 o.2.1;exact⟨⟨Wh7 h.slots a (hr.get _),h.cnt⟩,hr.set _ (by omega),λ_=>WmY a hg,λh=>by unfold WhV at h;split at h<;>(simp_all)⟩
 .split
  .exact⟨h,hr.set _ (by omega),λh=>Wi rfl h,λ_=>rfl⟩
  .split
   .obtain⟨a,b⟩:=WvN ho ‹_›;rw[WcX]at a;have hg:=Wgp s.1 o.2.1;exact⟨⟨WmE h.slots,h.cnt⟩,hr.set _ (by omega),λ_=>WmY a hg,λh=>by unfold WhV at h;split at h<;>(simp_all)⟩
   .split
    .have:=hr.get o.2.1.toNat;have:=h.cnt;refine⟨⟨h.slots,by grind⟩,hr,λ_=>.inr (.inr ⟨rfl,rfl,hr.get _⟩),λh=>by simp_all⟩
    .exact⟨h,hr.set _ h.cnt,λh=>Wi rfl h,λ_=>rfl⟩
theorem Wev(h:ShOk s)(hN:1048576<N):Zj9 N s=ret true:=by
 unfold Zj9;rw[WbZ h.slots hN,WaB,Wbo.2 h.cnt];rfl
theorem WgM(h:ShOk s):Zif N s=ret s:=by
 unfold Zif;rw[Wcu (by have:=h.slots.len;omega)];rfl
theorem WjN(hu:UnV u):Znz N u=ret true:=by
 unfold Znz;simp only[WH,WeV,WaB,ret,Xc];rcases hu with⟨h1,h2,h3⟩|⟨h1,h2,h3⟩|⟨h1,h2,h3⟩
 .simp_all [Wa,Wb,Wbo]
 .simp_all
 simp_all [Wa,Wb,Wbo]
theorem WiY(h:ShOk s)(hu:UnV u)(hN:1048576<N):Zm2 N s u=some ((),(WiN s u,(true,()))):=by
 unfold Zm2 WiN;rw[WgM h,WjN hu];simp only[ret,Xc];rw[Wev h hN];simp only[ret,Xc,Xt,Wc,WH];have hc:=h.cnt;rcases hu with⟨h1,h2,h3⟩|⟨h1,h2,h3⟩|⟨h1,h2,h3⟩
 .rw[Wb h1,Wb h1,WcU h.slots h2 h3 hN];rfl
 .rw[Wa (by omega),Wb h1,Wa (by omega),Wb h1,Wej h.slots h2 hN];rfl
 .rw[Wa (by omega),Wa (by omega),Wb h1,Wa (by omega),Wa (by omega),Wb h1];rw[Wam (by unfold I64;omega),WJ (by unfold I64;omega),Wcv (by omega)];rfl
theorem WfK{k e:Int}(he:0<=e/\e<=65536):Zlh N k e=ret (WhV k e):=by
 unfold Zlh WhV;rw[WH,Wam (by unfold I64;omega)];split<;>rfl
theorem Wmb(ho:Wey o=true)(fO:12<=o.1):Zko N o=some ((),((WaH o).1,((WaH o).2,()))):=by
 have ui:=WoN ho;unfold Zko WaH;rw[Wfo,ho];simp only[ret,Xc,Xt,Wc,WH];have:o.1=12\/o.1=13\/o.1=14\/o.1=15\/o.1=16:=by omega
 rcases this with h|h|h|h|h<;>simp[h]
theorem Wjf(h:ShOk s)(hr:Vals 4 r)(ho:Wey o=true)(fO:12<=o.1)(hN:1048576<N):
  Zm3 N s o r=some ((),((Wbx s o r).1,((Wbx s o r).2.1,((Wbx s o r).2.2,(true,()))))):=by
 have ui:=WoN ho;have dj:=hr.len;have hc:=h.cnt;unfold Zm3 Wbx;rw[WgM h,Wcu (by omega)];simp only[ret,Xc];rw[Wev h hN,Wdp (by omega) hN,Wfh.2 hr,WgR,Wt7 ho fO];simp only[ret,Xc,Xt,Wc,bne_self_eq_false,WH,show inz (65536:Int)=true from rfl,We,WD,Xah];by_cases e1:o.1=12
 .obtain⟨a,b,c⟩:=WvL ho e1;rw[WcX]at a;rw[Wb e1,Wb e1,Wbg b dj,Wbg c dj];have hg:=Wgp s.1 o.2.1;rw[WcU h.slots a (hr.get _) hN];simp only[We,Xc,WfK hg,ret];rw[Wcv (by omega)];rfl
 .rw[Wa e1,Wa e1];by_cases e2:o.1=13
  .obtain⟨a,b⟩:=Wwm ho e2;rw[WcX]at b;have hg:=Wgp s.1 o.2.2.1;rw[Wb e2,Wb e2,Wbg a dj,WcS h.slots b hN];simp only[We,Xc];by_cases hz:WeG s.1 o.2.2.1=0
   .rw[hz];rfl
   .rw[Wa hz,Wf hz,WJ (by unfold I64;omega),Wcv (by omega),Int.sub_add_cancel];simp only[We,Xdl];rfl
  .rw[Wa e2,Wa e2];by_cases e3:o.1=14
   .obtain⟨a,b⟩:=WvN ho e3;rw[WcX]at a;have hg:=Wgp s.1 o.2.1;rw[Wb e3,Wb e3,Wbg b dj,Wej h.slots a hN];simp only[We,Xc,WfK hg,ret];rw[Wcv (by omega)];rfl
   .rw[Wa e3,Wa e3];by_cases e4:o.1=15
    .have a:=WyP ho e4;have hv:=hr.get o.2.1.toNat;rw[Wb e4,Wb e4,Wbg a dj];simp only[We];rw[WJ (by unfold I64;omega),Wcv (by omega)];rfl
    .have a:=WxR ho (by omega);rw[Wa e4,Wa e4,Wbg a dj];rfl
def Wm0(l:List Int):Bool:=decide (l.length=8)&&l.all λx=>decide (0<=x)&&decide (x<=65536)
structure ThOk(t:List Int×List Int×Int):Prop where
 cells:Vals 8 t.1
 map:t.2.1.length=8/\∀x∈t.2.1,0<=x/\x<=65536
 cnt:0<=t.2.2/\t.2.2<=65535
def WuD(t:List Int×List Int×Int):Bool:=WeX t.1&&(Wm0 t.2.1&&WbQ t.2.2)
theorem WuG{t:List Int×List Int×Int}:WuD t=true↔ThOk t:=by
 unfold WuD Wm0;simp only[Xi,Wil,Wbo,Wh,Xag];exact⟨λh=>⟨h.1,h.2.1,h.2.2⟩,λh=>⟨h.cells,h.map,h.cnt⟩⟩
theorem WiO{l:List Int}(hl:l.length<=1048576)(hN:1048576<N):Zic N l=ret (Wm0 l):=by
 unfold Zic Wm0;have h1:=WC (l:=l) (V:=Unit) (R:=Unit×Kq) (lp:=λn j v=>Zeq N l (some ((),(false,()))) (λaq aH=>(some ((),((Wj l)==(8:Int),())))) n j) (n:=N) (by omega)
  (body:=λj x v k=>bif !(decide (0<=x)&&decide (x<=65536))then some ((),(false,()))else k v) (K:=λ_ v=>some ((),((Wj l)==(8:Int),())))
  (λn i v hi=>by simp only[Zeq,W4 hi,Ww hi,Wx hi,Wn (show i<4611686018427387904 by omega),We,WV,ret,Xc])
  (λn v=>by simp[Zeq,Wae,Xm,Wc]) ()
 refine h1.trans ?_;rw[WaO (p:=λx=>!(decide (0<=x)&&decide (x<=65536))) (E:=λ_=>some ((),(false,()))) l 0 () (λj x v k _=>rfl),WcD];have e:((Wj l)==(8:Int))=decide (l.length=8):=by
  grind [Wj]
 rw[e];cases l.all _<;>cases decide (l.length=8)<;>rfl
theorem WjV{t:List Int×List Int×Int}(h1:t.1.length<=1048576)(h2:t.2.1.length<=1048576)(hN:1048576<N):Zlz N t=ret (WuD t):=by
 unfold Zlz WuD;rw[Wdo h1 hN,WiO h2 hN,WaB];cases WeX t.1<;>cases Wm0 t.2.1<;>rfl
def Wfm:List Int->Nat->List Int->List Int
 | [],_,l=>l
 |x::m,k,l=>Wfm m (k+1) (if x>0 then Wpk l k (x-1)else l)
def WpM(m:List Int):List Int:=Wfm m 0 (Xu 16 0)
theorem Wnh:SlOk (Xu 16 0) where
 len:=by simp
 each:=λi h=>.inl (Xbi ..)
 one:=λi j hi hj _ h=>Wi (Xbi ..) h
theorem Wjx:∀(m:List Int) (k:Nat) (l:List Int),k+m.length<=8->(∀x∈m,0<=x/\x<=65536)->SlOk l->SlOk (Wfm m k l)
 | [],_,l,_,_,h=>h
 |x::m,k,l,hk,hx,h=>by
  have h0:=hx x (Xg ..);rw[Xr]at hk;refine Wjx m (k+1) _ (by omega) (λy hy=>hx y (Xe _ hy)) ?_
  grind [Wh7]
theorem Ws4{m:List Int}(hl:m.length=8)(hx:∀x∈m,0<=x/\x<=65536):SlOk (WpM m):=Wjx m 0 _ (by omega) hx Wnh
theorem Wg4{m:List Int}(hl:m.length=8)(hx:∀x∈m,0<=x/\x<=65536)(hN:1048576<N):Zbd N m=ret (WpM m):=by
 have hm:Wm0 m=true:=by simp_all [Wm0,Xi,Wh,Xag]
 unfold Zbd WpM;rw[WiO (by omega) hN,hm];simp only[ret,Xc,Xt,Wc];rw[show Zpo N=ret (Xu 16 0)from rfl];simp only[ret,Xc];have lp:∀(d j n:Nat) (l:List Int),j+d=m.length->d<n->SlOk l->Zbp N m (λdE bf de=>(some ((),(de,())))) n (j:Int) l=ret (Wfm (m.drop j) j l):=by
  intro d
  induction d with
  |zero=>
   intro j n l hj hn hs;obtain⟨n,rfl⟩:∃n',n=n'+1:=⟨n-1,by omega⟩;have:j=m.length:=by omega
   subst this;simp[Zbp,Wae,Xm,Wc,Xdk,Wfm]
  |succ d ih=>
   intro j n l hj hn hs;obtain⟨n,rfl⟩:∃n',n=n'+1:=⟨n-1,by omega⟩;have hlt:j<m.length:=by omega
   have hb:=hx m[j] (Xo hlt);simp only[Zbp,W4 hlt,Ww hlt,Wx hlt,Wn (show j<4611686018427387904 by omega),We,WaV];rw[Xbm hlt,Wfm];by_cases h0:m[j]>0
   .rw[Wb h0,Wb h0,Wam (by unfold I64;omega),WcU hs (by omega) (by omega) hN]
    grind [Wh7]
   grind
 have:=lp m.length 0 N (Xu 16 0) (by omega) (by omega) Wnh;simp_all
end
section
abbrev Hd:=Int×Int×Int
def HdV(h:Hd):Prop:=(1<=h.1/\h.1<=9)/\(0<=h.2.1/\h.2.1<=8)/\1<=h.2.2/\h.2.2<=2
def HdB(a b:Hd):Prop:=cfH a b<0/\(a.2.1=b.2.1->a.2.2≠2/\b.2.2≠2)
structure HOk(l:List Hd):Prop where
 val:∀h∈l,HdV h
 up:l.Pairwise HdB
theorem HOk.ris{l:List Hd}(h:HOk l):Ris cfH l:=h.up.imp λh=>h.1
def Wf0(l:List Hd)(who:Int):List Int:=(l.filter λh=>decide (h.1=who)).map (·.2.1)
def blk(who what mode:Int)(h:Hd):Bool:=decide (h.2.1=what)&&(decide (h.1≠who)&&(decide (mode=2)||decide (h.2.2=2)))
def Wgj(l:List Hd)(who what mode:Int):List Int:=(l.filter (blk who what mode)).map (·.1)
def WuV(who what:Int)(h:Hd):Bool:=decide (h.1=who)&&decide (h.2.1=what)
def Wr3(l:List Hd)(who what:Int):Int:=match fnd (WuV who what) l 0 with
 |some r=>r.2.2.2
 |none=>0
def Wru(a b:Int):Int:=if a<=b then b else a
def Whn(l:List Hd)(who what mode:Int):List Hd:=Wdt cfH l (who,what,Wru (Wr3 l who what) mode)
def WaX(l:List Hd)(who what mode:Int):Option (List Hd):=if Wgj l who what mode= []then some (Whn l who what mode)else none
def W7(l:List Hd)(who:Int):List Hd:=l.filter λh=>!(h.1==who)
theorem Wdj{α:Type}{a b:Int}{x y:α}:(bif a !=b then x else y)=if a=b then y else x:=by
 simp_all
theorem WwS{α:Type}{cf:α->α->Int}(hc:Lin cf){L M:List α}(hL:Ris cf L)(hM:Ris cf M)(hm:∀x,x∈L↔x∈M):L=M:=by
 rw[←Wi5 hc hM (hL.imp λh=>.inl h) hm,Wi5 hc hL (hL.imp λh=>.inl h) λx=>Iff.rfl]
theorem apH{a b:Hd}:Ap cfH a b↔¬(a.1=b.1/\a.2.1=b.2.1):=by grind [Ap,Wcf]
theorem Wn5{a b c d:Hd}(h1:a.1=c.1)(h2:a.2.1=c.2.1)(h3:b.1=d.1)(h4:b.2.1=d.2.1):cfH a b<0↔cfH c d<0:=by simp_all [Wcf]
variable{N:Nat}{l:List Hd}{who what mode:Int}
theorem Wve(h:Ris cfH l){i:Nat}(hi:i<l.length){e:Hd}(h1:e.1=l[i].1)(h2:e.2.1=l[i].2.1):Ris cfH (l.set i e):=by
 unfold Ris at*;rw[Xak]at*;intro a b ha hb fE;rw[Xah]at ha hb;rw[Xau,Xau];have:=h a b ha hb fE;by_cases c1:i=a
 .subst c1;rw[Wb rfl,Wa (by omega)];exact(Wn5 h1 h2 rfl rfl).2 this
 .rw[Wa c1];by_cases c2:i=b
  .subst c2;rw[Wb rfl];exact(Wn5 rfl rfl h1 h2).2 this
  simp_all
theorem Wwv(h:Ris cfH l){i:Nat}(hi:i<l.length){e:Hd}(h1:e.1=l[i].1)(h2:e.2.1=l[i].2.1):l.set i e=Wdt cfH l e:=by
 refine WwS Wpp (Wve h hi h1 h2) (Wb4 Wpp h) λx=>?_;rw[(Wnt Wpp (h.imp λh=>.inl h) hi (by grind [apH])).2 x,Wbm Wpp h]
theorem WwD{h:Hd}:(decide (1<=h.1)&&decide (h.1<=9))=true/\(decide (0<=h.2.1)&&decide (h.2.1<=8))=true/\(decide (1<=h.2.2)&&decide (h.2.2<=2))=true↔HdV h:=by
 simp[HdV,Xi,Wh]
theorem WfB{h:Hd}(hv:HdV h):Zi0 N h.1 h.2.1 h.2.2=ret true:=by
 obtain⟨a,b,c⟩:=WwD.2 hv;simp_all [Zi0,WV,ret,Xc,We]
theorem Wnv{a b:Hd}(ha:HdV a)(hb:HdV b):Zim N a b=ret (cfH a b):=by
 obtain⟨a1,a2,a3⟩:=ha;obtain⟨b1,b2,b3⟩:=hb
 grind [Zim,cfH,Wam,I64]
theorem Wb2(h:HOk l)(hl:l.length<=1048576)(hN:1048576<N):Ze3 N l=ret true:=by
 have lp:∀(d j n:Nat),j+d=l.length->d<n->Zau N l (some ((),(false,()))) (λdE bf=>(some ((),(true,())))) n (j:Int)=ret true:=by
  intro d
  induction d with
  |zero=>
   intro j n hj hn;obtain⟨n,rfl⟩:∃n',n=n'+1:=⟨n-1,by omega⟩;simp_all [Zau,Wae,Xm,Wc]
  |succ d ih=>
   intro j n hj hn;obtain⟨n,rfl⟩:∃n',n=n'+1:=⟨n-1,by omega⟩;have hlt:j<l.length:=by omega
   have hv:=h.val l[j] (Xo hlt);have bn:=ih (j+1) n (by omega) (by omega);simp only[Zau,W4 hlt,Ww hlt,Wx hlt,Wn (show j<4611686018427387904 by omega),We,WfB hv,ret,Xc,Xt,Wc,bn];by_cases h0:j=0
   .grind
   .have e1:decide ((j:Int)>0)=true:=by simp;omega
    have e2:WZ .i64 (j:Int) 1=((j-1:Nat):Int):=by grind [Wam,I64]
    have be:j-1<l.length:=by omega
    have hw:=h.val l[j-1] (Xo be);have hb:=Xak.1 h.up (j-1) j be hlt (by omega);simp only[e1,e2,We,Ww be,Wx be,Wnv hw hv,ret,Xc];rw[Wq (show¬(cfH l[j-1] l[j]>=0) by have:=hb.1;omega)];simp only[Wc,WH];by_cases hs:l[j-1].2.1=l[j].2.1
    .rw[Wb hs,Wa (hb.2 hs).2,Wa (hb.2 hs).1]
    simp_all
 exact lp l.length 0 N (by omega) (by omega)
theorem Wjj{α β R:Type}{body:Int->α->List β->(List β->Option R)->Option R}{K:Int->List β->Option R}{p:α->Bool}{f:α->β}:∀(l:List α) (j:Nat) (o:List β),o.length+l.length<=2000000->
  (∀(j:Nat) x (v:List β) k,x∈l->v.length<=2000000->body j x v k=bif p x then k (v++ [f x])else k v)->Wbw body K l j o=K ((j+l.length:Nat):Int) (o++(l.filter p).map f)
 | [],j,o,_,_=>by simp[Wbw]
 |x::l,j,o,h,hb=>by
  rw[Xr]at h;rw[Wbw,hb j x o _ (Xg ..) (by omega),Xbj];have ih:=λo' iY=>Wjj (body:=body) (K:=K) (p:=p) (f:=f) l (j+1) o' iY λj y v k hy=>hb j y v k (Xe _ hy)
  grind
theorem Wix(h:HOk l)(hl:l.length<=1048576)(hN:1048576<N):Zgp N l who=ret (Wf0 l who):=by
 unfold Zgp Wf0;rw[Wb2 h hl hN];simp only[ret,Xc,Xt,Wc];have h1:=WC (l:=l) (V:=List Int) (R:=Unit×(List Int×Unit)) (lp:=λn j v=>Zcb N who l (λaH ba aR=>(some ((),(aR,())))) n j v) (n:=N) (by omega)
  (body:=λj x v k=>bif x.1==who then(bif WM (v.length+ [x.2.1].length)then k (Xf v [x.2.1])else none)else k v) (K:=λ_ v=>ret v)
  (λn i v hi=>by simp only[Zcb,W4 hi,Ww hi,Wx hi,Wn (show i<4611686018427387904 by omega),We])
  (λn v=>by simp[Zcb,Wae,Xm,Wc]) []
 refine h1.trans ?_;rw[Wjj (p:=λh=>decide (h.1=who)) (f:=(·.2.1)) l 0 [] (by simp;omega) (λj x v k _ hv=>by rw[WB (by simp;omega)];simp only[WH,WaV,We,Xal])];rfl
theorem WjQ(h:HOk l)(hm:1<=mode/\mode<=2)(hl:l.length<=1048576)(hN:1048576<N):Zi1 N l who what mode=ret (Wgj l who what mode):=by
 unfold Zi1 Wgj;rw[Wb2 h hl hN];simp only[ret,Xc,Xt,Wc,WV,Wf hm.1,Wf hm.2,Xbl];have h1:=WC (l:=l) (V:=List Int) (R:=Unit×(List Int×Unit)) (lp:=λn j v=>Za8 N who what mode l (λcR fG c8=>(some ((),(c8,())))) n j v) (n:=N) (by omega)
  (body:=λj x v k=>bif x.2.1==what then(bif x.1 !=who then(bif mode==2 then(bif WM (v.length+ [x.1].length)then k (Xf v [x.1])else none)else(bif x.2.2==2 then(bif WM (v.length+ [x.1].length)then k (Xf v [x.1])else none)else k v))else k v)else k v) (K:=λ_ v=>ret v)
  (λn i v hi=>by simp only[Za8,W4 hi,Ww hi,Wx hi,Wn (show i<4611686018427387904 by omega),We])
  (λn v=>by simp[Za8,Wae,Xm,Wc]) []
 refine h1.trans ?_;rw[Wjj (p:=blk who what mode) (f:=(·.1)) l 0 [] (by simp;omega) (λj x v k _ hv=>by
  rw[WB (by simp;omega)];unfold blk;simp only[WH,Wdj,We,Xal];by_cases c1:x.2.1=what<;>by_cases c2:x.1=who<;>by_cases c3:mode=2<;>by_cases c4:x.2.2=2<;>simp[c1,c2,c3,c4])]
 rfl
theorem WwA(h:HOk l):0<=Wr3 l who what/\Wr3 l who what<=2:=by
 unfold Wr3;cases hf:fnd (WuV who what) l 0 with
 |none=>simp
 |some r=>
  have:=Wc3 hf;have:=h.val r.2 (List.mem_of_getElem? this.2.2.2)
  grind [HdV]
theorem Wir(h:HOk l)(hw:1<=who/\who<=9)(ht:0<=what/\what<=8)(hm:1<=mode/\mode<=2)(hl:l.length<=1048000)(hN:1048576<N):
  Zh3 N l who what mode=some ((),((WaX l who what mode).getD l,((WaX l who what mode).isSome,()))):=by
 unfold Zh3 WaX;have jS:Zes N l=ret l:=by grind [Zes,WB]
 have Ak:Zi0 N who what mode=ret true:=WfB (h:=(who,what,mode)) ⟨hw,ht,hm⟩;rw[jS,Wb2 h (by omega) hN,Ak,WjQ h hm (by omega) hN];simp only[ret,Xc,Xt,Wc,WaV];by_cases hb:Wgj l who what mode= []
 .rw[Wa (by rw[hb];simp[Wj]),Wb hb];have h1:=WlV (l:=l) (p:=WuV who what) (N:=N) (lp:=λn j=>Zcc N who what mode (Wj l) l (λbT=>(some ((),(bT,(true,()))))) (λeR gH=>
  (bif WM ((Xa l)+(Xa ([(who,(what,mode))])))then
 ((Zu N (Xf l ([(who,(what,mode))]))).bind λfU=>
 (some ((),(fU.1.1,(true,())))))else none)) n j)
   (K0:=λj=>some ((),(l.set j.toNat ((l.getD j.toNat (0,0,0)).1,(l.getD j.toNat (0,0,0)).2.1,Wxp (l.getD j.toNat (0,0,0)).2.2 mode),(true,())))) (K1:=(bif WM ((Xa l)+(Xa ([(who,(what,mode))])))then
 ((Zu N (Xf l ([(who,(what,mode))]))).bind λfU=>
 (some ((),(fU.1.1,(true,())))))else none)) (by omega) (by omega)
   (λn j hj=>by
    simp only[Zcc,W4 hj,Ww hj,Wx hj,Wn (show j<4611686018427387904 by omega),We];simp[WuV,WH,Wvu,WaV])
   (λn=>by simp[Zcc,Wae,Xm,Wc])
  rw[h1];unfold Whn Wr3;cases hf:fnd (WuV who what) l 0 with
  |some r=>
   obtain⟨g1,g2,g3,g4⟩:=Wc3 hf;rw[Xbc]at g3;rw[Xdj,Xp g3]at g4;injection g4 with g4;unfold WuV at g1;simp only[Xi,Wh]at g1;simp only[Wx g3,g4,Xex,Xha];rw[Xj];have:Wxp r.2.2.2 mode=Wru r.2.2.2 mode:=by grind [Wxp,Wru]
   rw[this,g1.1,g1.2,Wwv h.ris g3 (e:=(who,what,Wru r.2.2.2 mode)) (by simp_all) (by simp_all)]
  |none=>
   have hn:=Wie hf;simp only;rw[WB (by simp;omega)];have hmx:Wru 0 mode=mode:=by unfold Wru;rw[Wb (by omega)]
   have wz:=Wky (cf:=cfH) (L:=l) (e:=(who,what,mode)) (h.ris.imp λh=>.inl h) (λx hx=>by
    grind [apH,WuV,Bool.and_eq_false_iff,decide_eq_false_iff_not])
   unfold Zu;simp only[We,Xal];rw[WqE (rng:=Wwp) (N:=N) Wpp (M:=Wdt cfH l (who,what,mode)) (Wb4 Wpp h.ris) wz.1 (λx=>by rw[wz.2 x,Wbm Wpp h.ris]) (λx hx=>by
    rcases List.mem_append.1 hx with hx|hx
    .have:=h.val x hx
     grind [HdV,Wwp,Wv4]
    grind [List.mem_singleton,Wwp,Wv4]) (by simp;omega)]
   simp_all
 .rw[Wb (by
   simp_all [Wgj,List.eq_nil_of_length_eq_zero,Wj]),Wa hb]
  rfl
theorem WrH(h:HOk l)(hw:1<=who/\who<=9)(ht:0<=what/\what<=8)(hm:1<=mode/\mode<=2)(hb:Wgj l who what mode= []):HOk (Whn l who what mode):=by
 have lH:=WwA (who:=who) (what:=what) h;have hbl:∀x∈l,x.2.1=what->x.1≠who->mode≠2/\x.2.2≠2:=λx hx h1 h2=>by
  refine Classical.byContradiction λhc=>?_;have:x.1∈Wgj l who what mode:=Xw.2 ⟨x,Xav.2 ⟨hx,by grind [blk]⟩,rfl⟩;simp_all
 have nM:∀x∈l,x.2.1=what->x.1≠who->Wr3 l who what≠2:=λx hx h1 h2=>by
  unfold Wr3;cases hf:fnd (WuV who what) l 0 with
  |none=>simp
  |some r=>
   obtain⟨g1,g2,g3,g4⟩:=Wc3 hf;rw[Xbc]at g3;rw[Xdj,Xp g3]at g4;injection g4 with g4;unfold WuV at g1;simp only[Xi,Wh]at g1;obtain⟨j,hj,rfl⟩:=Xao hx;have hp:=Xak.1 h.up;simp only;rw[←g4]at g1⊢;rcases Xdp r.1 j with hlt|yz|hlt
   .exact((hp r.1 j g3 hj hlt).2 (by rw[h1,g1.2])).1
   .simp_all
   .exact((hp j r.1 hj g3 hlt).2 (by rw[h1,g1.2])).2
 unfold Whn;refine⟨λx hx=>?_,?_⟩
 .rcases(Wbm Wpp h.ris).1 hx with rfl|hx
  .refine⟨hw,ht,?_⟩;simp only;unfold Wru;split<;>omega
  .exact h.val x hx.1
 .have hr:=Wb4 (e:=(who,what,Wru (Wr3 l who what) mode)) Wpp h.ris;have hmem:=λx=>Wbm (e:=(who,what,Wru (Wr3 l who what) mode)) (x:=x) Wpp h.ris;have hmj:∀x∈l,x.2.1=what->x.1≠who->Wru (Wr3 l who what) mode≠2:=λx hx h1 h2=>by
   have:=nM x hx h1 h2;have:=(hbl x hx h1 h2).1;unfold Wru;split<;>omega
  unfold Ris at hr;rw[Xak]at hr⊢;intro i j hi hj hij;refine⟨hr i j hi hj hij,λhs=>?_⟩;have hlt:=hr i j hi hj hij;have m1:=(hmem _).1 (Xo hi);have m2:=(hmem _).1 (Xo hj);generalize (Wdt cfH l (who,what,Wru (Wr3 l who what) mode))[i]=x at*;generalize (Wdt cfH l (who,what,Wru (Wr3 l who what) mode))[j]=y at*;rcases m1 with rfl|m1<;>rcases m2 with rfl|m2
  .exact Wi hlt (Wpp.irr _)
  .grind [apH]
  .grind [apH]
  .obtain⟨a,ha,rfl⟩:=Xao m1.1;obtain⟨b,hb',rfl⟩:=Xao m2.1;have hp:=Xak.1 h.up;rcases Xdp a b with fE|fE|fE
   .exact(hp a b ha hb' fE).2 hs
   .subst fE;exact Wi hlt (Wpp.irr _)
   .exact Wi (Wpp.tr _ _ _ hlt (hp b a hb' ha fE).1) (Wpp.irr _)
theorem WiP(h:HOk l):HOk (W7 l who):=⟨λx hx=>h.val x (Xav.1 hx).1,h.up.filter _⟩
theorem Wmi(h:HOk l):l.length<=81:=by
 have key:∀(l:List Hd) (c:Int),Ris cfH l->(∀e∈l,HdV e/\c<=9*e.2.1+e.1)->1<=c->(l.length:Int)<=82-c\/l= []:=by
  intro l
  induction l with
  |nil=>simp_all
  |cons a l ih=>
   intro c hr hb hc;left;have h1:=List.pairwise_cons.1 hr;have ha:=hb a (Xg ..);unfold HdV at ha;rcases ih (9*a.2.1+a.1+1) h1.2 (λe he=>⟨(hb e (Xe _ he)).1,by
    grind [Wcf,Xe,HdV]⟩) (by omega)with h|h
   .grind
   grind
 rcases key l 1 h.ris (λe he=>⟨h.val e he,by have:=h.val e he;grind [HdV]⟩) (by omega)with h|h
 .omega
 simp_all
theorem Wje{α V R:Type}{body:Int->α->V->(V->Option R)->Option R}{K:Int->V->Option R}{p:α->Bool}{E:Int->V->Option R}:∀(l:List α) (j:Nat) (v:V),(∀(j:Nat) x v k,x∈l->body j x v k=bif p x then E j v else k v)->
  (∃a x r,l=a++x::r/\(∀y∈a,p y=false)/\p x=true/\Wbw body K l j v=E ((j+a.length:Nat):Int) v)\/((∀y∈l,p y=false)/\Wbw body K l j v=K ((j+l.length:Nat):Int) v)
 | [],j,v,_=>.inr ⟨by simp,rfl⟩
 |x::l,j,v,h=>by
  rw[Wbw,h j x v _ (Xg ..)];cases hp:p x
  .simp only[Wc];rcases Wje (E:=E) l (j+1) v λj y v k hy=>h j y v k (Xe _ hy)with⟨a,y,r,h1,h2,h3,h4⟩|⟨h1,h2⟩
   .refine .inl ⟨x::a,y,r,by rw[h1];rfl,λz hz=>?_,h3,?_⟩
    .rcases List.mem_cons.1 hz with rfl|hz
     .exact hp
     .exact h2 z hz
    .rw[h4,Xr,show j+1+a.length=j+(a.length+1) by omega]
   grind
  .exact .inl ⟨[],x,l,rfl,by simp,hp,rfl⟩
theorem Wtw{N:Nat}(a0:Int){R:Type}(K:Int->Int->Bool->List Hd->Int->Option R):
  ∀(r a m:List Hd) (n:Nat),r.length<n->a.length+m.length+r.length<=1048576->∃m',
   Zd N K n (a.length:Int) ((a.length+m.length:Nat):Int) (a++m++r) a0=
    K ((a++r.filter λx=>!(x.1==a0)).length:Int) ((a.length+m.length+r.length:Nat):Int) false ((a++r.filter λx=>!(x.1==a0))++m') a0
 | [],a,m,0,h,_=>by simp at h
 | [],a,m,n+1,h,_=>by
  refine⟨m,?_⟩;have e1:decide (((a.length+m.length:Nat):Int)<Wj (a++m++ []))=false:=by simp[Wj]
  simp only[Zd,e1,Wc];simp
 |x::r,a,m,0,h,_=>by simp at h
 |x::r,a,m,n+1,h,hb=>by
  simp only[Xr]at h hb;have hj:a.length+m.length<(a++m++x::r).length:=by simp
  have hi:a.length<(a++m++x::r).length:=by simp;omega
  have hx:Xd (a++m++x::r) (a.length+m.length) ((0:Int),((0:Int),(0:Int)))=x:=by
   simp_all
  cases hp:x.1==a0
  .obtain⟨m2,tW,xe⟩:∃m2:List Hd,m2.length=m.length/\(a++m++x::r).set a.length x=(a++ [x])++m2++r:=by
    cases m with
    |nil=>simp_all
    |cons y m=>grind
   obtain⟨m',ih⟩:=Wtw (N:=N) a0 K r (a++ [x]) m2 n (by omega) (by simp;omega);refine⟨m',?_⟩;simp only[Zd,Zf7,W4 hj,Ww hj,Ww hi,Xj,hx,hp,Xc,We,Xdi,Xj,xe,
    Wn (show a.length<4611686018427387904 by omega),Wn (show a.length+m.length<4611686018427387904 by omega)]
   have l1:(a++ [x]).length=a.length+1:=by simp
   rw[l1,tW,show a.length+1+m.length=a.length+m.length+1 by omega]at ih;rw[ih];simp only[Xbj,hp,Xdi,Waq,List.append_assoc,List.singleton_append,Xr];rw[show a.length+m.length+1+r.length=a.length+m.length+(r.length+1) by omega]
  .obtain⟨m',ih⟩:=Wtw (N:=N) a0 K r a (m++ [x]) n (by omega) (by simp;omega);refine⟨m',?_⟩;simp only[Zd,Zf7,W4 hj,Ww hj,Ww hi,Xj,hx,hp,Xc,We,Wc,Xt,
    Wn (show a.length+m.length<4611686018427387904 by omega)]
   simp only[Xs,Xr,Xcm,Xbc]at ih;rw[show a.length+(m.length+1)=a.length+m.length+1 by omega,show a++(m++ [x])++r=a++m++x::r by simp]at ih;rw[ih];simp only[Xbj,hp,Xt,Wau,Xbh,Xr];simp only[Xs];rw[show a.length+m.length+1+r.length=a.length+m.length+(r.length+1) by omega]
theorem WqR{N:Nat}{s:List Hd}{a0:Int}(hN:1048576<N)(hs:s.length<=100000):
  Zp N s a0=some ((a0,()),(s.filter λx=>!(x.1==a0),())):=by
 unfold Zp;have h1:=WC (l:=s) (V:={v:Int//v=a0}) (R:=Kh×Kh) (lp:=λn j v=>Zk N s (λbf ax=>some ((ax,()),(bf,()))) (λcR fG da=>some ((da,()),((-1:Int),()))) n j v.1) (n:=N) (by omega)
  (body:=λj x v k=>bif x.1==a0 then some ((v.1,()),(j,()))else k v) (K:=λ_ v=>some ((v.1,()),((-1:Int),())))
  (λn i v hi=>by
   obtain⟨v,rfl⟩:=v;simp only[Zk,W4 hi,Ww hi,Wx hi,Wn (show i<4611686018427387904 by omega),We,Zf7,Xc])
  (λn v=>by simp[Zk,Wae,Xm,Wc]) ⟨a0,rfl⟩
 simp only[]at h1;unfold Zw;rw[h1];rcases Wje (body:=λj x (v:{v:Int//v=a0}) k=>bif x.1==a0 then some ((v.1,()),(j,()))else k v) (K:=λ_ v=>(some ((v.1,()),((-1:Int),())):Option (Kh×Kh))) (p:=λx=>x.1==a0)
  (E:=λj v=>some ((v.1,()),(j,()))) s 0 ⟨a0,rfl⟩ (λj x v k _=>rfl)with⟨a,x,r,cP,ha,hx,hr⟩|⟨ha,hr⟩
 .rw[hr];simp only[Xc,Xbc];have e0:((a.length:Int)== -1)=false:=by simp
  rw[e0,Wn (show a.length<4611686018427387904 by grind)];simp only[Wc];obtain⟨m',hd⟩:=Wtw (N:=N) a0 (λfL zL cR bT da=>
     (bif (decide ((0:Int)<=fL))&&(decide (fL<=((Xa bT):Int)))then
      (bif (decide ((0:Int)<=fL))&&(decide (fL<=((Xa ((Xaf (Xb fL) bT)++Xu ((Xa bT) -(Xb fL)) ((0:Int),((0:Int),(0:Int)))++(Xcd (Xa bT) bT))):Int)))then
       (some ((da,()),(Xaf (Xb fL) ((Xaf (Xb fL) bT)++Xu ((Xa bT) -(Xb fL)) ((0:Int),((0:Int),(0:Int)))++(Xcd (Xa bT) bT)),())))else none)else none)) r a [x] N (by grind) (by grind)
  rw[show a++ [x]++r=s by simp_all]at hd;simp only[Xr,Xcm,Xbc]at hd;rw[hd];have hf:(s.filter λx=>!(x.1==a0))=a++r.filter λx=>!(x.1==a0):=by
   rw[cP,List.filter_append,Xbj];have:(a.filter λx=>!(x.1==a0))=a:=Xgy.2 λy hy=>by grind
   grind
  grind
 grind [Xgy]
theorem Wh4(h:HOk l)(hl:l.length<=100000)(hN:1048576<N):Zl0 N l who=ret (W7 l who):=by
 have jS:Zes N l=ret l:=by grind [Zes,WB]
 unfold Zl0;rw[jS,Wb2 h (by omega) hN];simp only[ret,Xc,Xt,Wc];rw[WqR hN hl];rfl
end
section
def zWd:Wd:=(0,0,0)
def Wz(m:Mm)(i:Int):Wd:=Wcl m.2 i zWd
def Wob(m:Mm)(i:Int)(w:Wd):Mm:=(m.1,Woc m.2 i w)
variable{m:Mm}
theorem WoV(hm:W2 m=true){i:Int}{w:Wd}(hw:WrR m.1 w=true):W2 (Wob m i w)=true:=by
 obtain⟨h8,h0,h1,il⟩:=WF hm;unfold W2 Wob Woc
 grind
theorem WdV(hm:W2 m=true){i:Int}(hi:0<=i/\i<=7):WrR m.1 (Wz m i)=true:=Wsj hm hi
theorem Wo5(hm:W2 m=true):W2 (tick m).1=true/\0<=(tick m).2/\(tick m).2<=1000000/\((tick m).2≠0->(tick m).2=m.1+1/\(tick m).1=(m.1+1,m.2))/\((tick m).2=0->(tick m).1=m):=by
 obtain⟨h8,h0,h1,il⟩:=WF hm;unfold tick;split
 .refine⟨?_,by omega,by omega,λ_=>⟨rfl,rfl⟩,λh=>by omega⟩;unfold W2;simp only[Xi,Wh,Xag]
  grind [WeT]
 simp_all
end
section
structure Cm where
 who:Int:=0
 rv:Int:=0
 phase:Int:=0
 pos:Int:=0
 wv:Int:=0
 puts:List Rw:=[]
 reads:List Int:=[]
def Cm.e(c:Cm):Int×Int×Int×Int×Int×List Kc×List Int:=(c.who,c.rv,c.phase,c.pos,c.wv,c.puts,c.reads)
def Cm.steps(c:Cm):Int:=
 if c.phase=1\/c.phase=4\/c.phase=5\/c.phase=7 then c.puts.length else if c.phase=3 then c.reads.length else 1
def W9(c:Cm)(n:Int):Cm:=if n=0 then{c with phase:=8,pos:=0}else{c with phase:=7,pos:=n-1}
def WaM(c:Cm)(ph:Int):Int:=
 if(ph=3/\c.reads.length=0\/ph=4)/\c.puts.length=0 then 6 else if ph=3/\c.reads.length=0 then 4 else ph
def WcV(c:Cm)(ph:Int):Cm:={c with phase:=WaM c ph,pos:=0}
def Wv(c:Cm)(ph:Int):Cm:=if c.pos+1=c.steps then WcV c ph else{c with pos:=c.pos+1}
def Wl1(m:Mm)(i who:Int):Mm:=Wob m i ((Wz m i).1,(Wz m i).2.1,who)
def WcK(m:Mm)(i who v:Int):Mm:=if(Wz m i).2.2=who then Wob m i (v,(Wz m i).2)else m
def WaR(m:Mm)(i who ver:Int):Mm:=if(Wz m i).2.2=who/\(Wz m i).2.1<=ver/\ver<=m.1 then Wob m i ((Wz m i).1,ver,0)else m
def Ws(m:Mm)(c:Cm):Mm×Cm:=
 let p:=Wcl c.puts c.pos (0,0)
 if c.phase=1 then(if(Wz m p.1).2.2=0 then(Wl1 m p.1 c.who,Wv c 2)else(m,W9 c c.pos))else
 if c.phase=2 then(if(tick m).2=0 then((tick m).1,W9 c c.puts.length)else((tick m).1,WcV {c with wv:=(tick m).2} 3))else
 if c.phase=3 then
  let w:=Wz m (Wcl c.reads c.pos 0)
  if(w.2.2≠0/\w.2.2≠c.who)\/w.2.1>c.rv then(m,W9 c c.puts.length)else(m,Wv c 4)
 else
 if c.phase=4 then(WcK m p.1 c.who p.2,Wv c 5)else
 if c.phase=5 then(WaR m p.1 c.who c.wv,Wv c 6)else
 if c.phase=7 then(WaR m p.1 c.who (Wz m p.1).2.1,W9 c c.pos)else
 (m,c)
def Waa(c:Cm):Cm:=
 if c.phase=1 then W9 c c.pos else if c.phase=2\/c.phase=3 then W9 c c.puts.length else c
def Wbl(who rv:Int)(puts reads:List Rw):Cm:=
 {who:=who,rv:=rv,phase:=if(WcT puts).length=0 then 2 else 1,puts:=WcT puts,reads:=(WcT reads).map (·.1)}
structure CmOk(c:Cm):Prop where
 who:1<=c.who/\c.who<=99
 rv:0<=c.rv/\c.rv<=1000000
 wv:0<=c.wv/\c.wv<=1000000
 phase:1<=c.phase/\c.phase<=8
 rows:WdN c.puts
 pup:c.puts.Pairwise λa b=>a.1<b.1
 plen:c.puts.length<=8
 rd:∀x∈c.reads,0<=x/\x<=7
 rup:c.reads.Pairwise (· < ·)
 rlen:c.reads.length<=8
 pos:0<=c.pos/\c.pos<c.steps
section
variable{N:Nat}{c:Cm}{m:Mm}
theorem CmOk.back(h:CmOk c){n:Int}(hn:0<=n/\n<=c.puts.length):CmOk (W9 c n):=by
 unfold W9;split
 .exact{h with phase:=by simp_all,pos:=by simp[Cm.steps]}
 .exact{h with phase:=by simp_all,pos:=by grind [Cm.steps]}
theorem Wvx(c:Cm){ph:Int}(h:2<=ph/\ph<=6):2<=WaM c ph/\WaM c ph<=6:=by unfold WaM;split<;>(try split)<;>omega
theorem CmOk.adv(h:CmOk c){ph:Int}(hp:2<=ph/\ph<=6)(h5:ph=5->c.puts.length≠0):CmOk (WcV c ph):=by
 unfold WcV;have:=Wvx c hp;refine{h with phase:=by grind,pos:=⟨Xx _,?_⟩}
 grind [Cm.steps,WaM]
theorem CmOk.next(h:CmOk c){ph:Int}(hp:2<=ph/\ph<=6)(h5:ph=5->c.puts.length≠0):CmOk (Wv c ph):=by
 unfold Wv;split
 .exact h.adv hp h5
 .have:=h.pos;exact{h with pos:=⟨by grind,by show c.pos+1<c.steps;omega⟩}
theorem Wu2(hm:W2 m=true){i who:Int}(hi:0<=i/\i<=7)(hw:0<=who/\who<=99):W2 (Wl1 m i who)=true:=by
 have:=WeT.1 (WdV hm hi);exact WoV hm (by grind [WeT])
theorem Ws8(hm:W2 m=true){i who v:Int}(hi:0<=i/\i<=7)(hv:0<=v/\v<=65535):W2 (WcK m i who v)=true:=by
 grind [WeT,WdV,WcK,WoV]
theorem Wj7(hm:W2 m=true){i who ver:Int}(hi:0<=i/\i<=7):W2 (WaR m i who ver)=true:=by
 grind [WeT,WdV,WaR,WoV]
theorem CmOk.put(h:CmOk c)(hp:c.phase=1\/c.phase=4\/c.phase=5\/c.phase=7):∃(j:Nat) (hj:j<c.puts.length),c.pos=j/\Wcl c.puts c.pos (0,0)=c.puts[j]/\(0<=c.puts[j].1/\c.puts[j].1<=7)/\0<=c.puts[j].2/\c.puts[j].2<=65535:=by
 have:=h.pos;unfold Cm.steps at this;rw[Wb hp]at this;have hj:c.pos.toNat<c.puts.length:=by omega
 have hr:=h.rows _ (Xo hj);exact⟨c.pos.toNat,hj,by omega,Wp hj _,hr.1,hr.2⟩
theorem CmOk.read(h:CmOk c)(hp:c.phase=3):∃(j:Nat) (hj:j<c.reads.length),c.pos=j/\Wcl c.reads c.pos 0=c.reads[j]/\0<=c.reads[j]/\c.reads[j]<=7:=by
 have:=h.pos;unfold Cm.steps at this;rw[Wa (by omega),Wb hp]at this;have hj:c.pos.toNat<c.reads.length:=by omega
 have hr:=h.rd _ (Xo hj);exact⟨c.pos.toNat,hj,by omega,Wp hj _,hr⟩
theorem WmS(h:CmOk c)(hm:W2 m=true):CmOk (Ws m c).2/\W2 (Ws m c).1=true:=by
 have ch:=h.pos;have hl:c.phase=1\/c.phase=4\/c.phase=5\/c.phase=7->c.puts.length≠0:=λhp=>by obtain⟨j,hj,_⟩:=h.put hp;omega
 have aM:c.phase=1\/c.phase=4\/c.phase=5\/c.phase=7->c.pos<c.puts.length:=λhp=>by simp_all [Cm.steps,Wb]
 have hw:=h.who;unfold Ws;simp only;split
 .obtain⟨j,hj,e1,e2,e3,e4⟩:=h.put (by omega);rw[e2];split
  .exact⟨h.next (by omega) (by omega),Wu2 hm e3 (by omega)⟩
  .exact⟨h.back (by omega),hm⟩
 .split
  .have ht:=Wo5 hm;split
   .exact⟨h.back (by omega),ht.1⟩
   .refine⟨?_,ht.1⟩;have h':CmOk {c with wv:=(tick m).2}:={h with wv:=⟨ht.2.1,ht.2.2.1⟩};exact h'.adv (by omega) (by omega)
  .split
   .split
    .exact⟨h.back (by omega),hm⟩
    .exact⟨h.next (by omega) (by omega),hm⟩
   .split
    .obtain⟨j,hj,e1,e2,e3,e4⟩:=h.put (by omega);rw[e2];exact⟨h.next (by omega) (λ_=>hl (by omega)),Ws8 hm e3 e4⟩
    .split
     .obtain⟨j,hj,e1,e2,e3,e4⟩:=h.put (by omega);rw[e2];exact⟨h.next (by omega) (by omega),Wj7 hm e3⟩
     .split
      .obtain⟨j,hj,e1,e2,e3,e4⟩:=h.put (by omega);have:=aM (by omega);rw[e2];exact⟨h.back (by omega),Wj7 hm e3⟩
      simp_all
theorem WrN(h:CmOk c):CmOk (Waa c):=by
 have ch:=h.pos;unfold Waa;split
 .have:c.pos<c.puts.length:=by simp_all [Cm.steps,Wb]
  exact h.back (by omega)
 .split
  .exact h.back (by omega)
  .exact h
theorem Wls{who rv:Int}{puts reads:List Rw}(hw:1<=who/\who<=99)(hr:0<=rv/\rv<=1000000):CmOk (Wbl who rv puts reads) where
 who:=hw
 rv:=hr
 wv:=by simp[Wbl]
 phase:=by unfold Wbl;simp only;split<;>omega
 rows:=WeE
 pup:=Wo0 puts
 plen:=Wfk puts
 rd:=λx hx=>by
  obtain⟨r,hr,rfl⟩:=Xw.1 hx;exact(WeE r hr).1
 rup:=by
  simp[Wbl,List.pairwise_map,Wo0]
 rlen:=by simp[Wbl,Xab,Wfk]
 pos:=by
  unfold Wbl Cm.steps
  grind
theorem cmP(c:Cm):c.e.1=c.who/\c.e.2.1=c.rv/\c.e.2.2.1=c.phase/\c.e.2.2.2.1=c.pos/\c.e.2.2.2.2.1=c.wv/\c.e.2.2.2.2.2.1=c.puts/\c.e.2.2.2.2.2.2=c.reads:=⟨rfl,rfl,rfl,rfl,rfl,rfl,rfl⟩
theorem Wbr{who:Int}:Zb6 N who=ret (decide (1<=who)&&decide (who<=99)):=by simp[Zb6,WV]
theorem WdZ(hm:W2 m=true):Zcl N m=ret m:=by
 grind [WF,Zcl,WB]
theorem Wks(h:CmOk c):Zhq N c.e=ret c.e:=by
 unfold Zhq;have:=h.plen;have:=h.rlen;rw[show Zbn N c.e.2.2.2.2.2.1=ret c.puts from WdF (show c.puts.length<=1048576 by omega),show Zq N c.e.2.2.2.2.2.2=ret c.reads from Wcu (show c.reads.length<=1048576 by omega)];rfl
theorem WmJ:Zde N c.e=ret c.steps:=by
 unfold Zde Cm.steps;obtain⟨c0,c1,c2,c3,c4,c5,c6⟩:=cmP c;simp only[WH,c2,c5,c6,Wj]
 grind
theorem WhJ(h:CmOk c)(hN:1048576<N):Zfn N c.e=ret true:=by
 obtain⟨c0,c1,c2,c3,c4,c5,c6⟩:=cmP c;have eF:=h.plen;have dj:=h.rlen;have hw:=h.who;have jv:=h.rv;have dB:=h.wv;have aW:=h.phase;have ch:=h.pos;have mE:Wav c.puts=true:=by unfold Wav;rw[Wic.2 h.rows,Wf (by omega)];rfl
 unfold Zfn;simp only[c0,c1,c2,c3,c4,c5,c6,Wbr,WV,Wa5 (show c.puts.length<=1048576 by omega) hN,WmJ,ret,Xc,Wf hw.1,Wf hw.2,Wf jv.1,Wf jv.2,Wf dB.1,Wf dB.2,Wf aW.1,Wf aW.2,mE,Xbl,Xt,Wc];have wG:c.steps<=8:=by unfold Cm.steps;split<;>(try split)<;>omega
 have yt:WZ .i64 c.steps 1=c.steps-1:=Wam (by unfold I64;omega);rw[yt,Wf ch.1,Wf (show c.pos<=c.steps-1 by omega)];have yA:∀(d j n:Nat),j+d=c.reads.length->d<n->Zbg N c.reads c.e (some ((),(false,()))) (λt22 t23=>(some ((),(true&&true,())))) n (j:Int)=ret true:=by
  intro d
  induction d with
  |zero=>
   intro j n hj hn;obtain⟨n,rfl⟩:∃n',n=n'+1:=⟨n-1,by omega⟩;simp_all [Zbg,Wae,Xm,Wc]
  |succ d ih=>
   intro j n hj hn;obtain⟨n,rfl⟩:∃n',n=n'+1:=⟨n-1,by omega⟩;have hlt:j<c.reads.length:=by omega
   have bn:=ih (j+1) n (by omega) (by omega);have hv:=h.rd _ (Xo hlt);have ar:WaF c.reads[j]=true:=by grind [WaF]
   simp only[Zbg,c6,W4 hlt,Ww hlt,Wx hlt,Wn (show j<4611686018427387904 by omega),We,WaQ,ret,Xc,ar,Xt,Wc,bn];by_cases h0:j=0
   .grind
   .have e1:decide ((j:Int)>0)=true:=by simp;omega
    have e2:WZ .i64 (j:Int) 1=((j-1:Nat):Int):=by grind [Wam,I64]
    have be:j-1<c.reads.length:=by omega
    have hb:=Xak.1 h.rup (j-1) j be hlt (by omega);simp_all [We,Ww,Wx,Wq]
 have Al:∀(d j n:Nat),j+d=c.puts.length->d<n->1<=j->Zby N c.e (some ((),(false,()))) (λsm aH=>(Zbg N c.reads c.e (some ((),(false,()))) (λt22 t23=>(some ((),(true&&true,())))) N (0:Int))) n (j:Int)=ret true:=by
  intro d
  induction d with
  |zero=>
   intro j n hj hn _;obtain⟨n,rfl⟩:∃n',n=n'+1:=⟨n-1,by omega⟩;have:j=c.puts.length:=by omega
   subst this;simp only[Zby,c5,Wae (Xm _),Wc];exact yA c.reads.length 0 N (by omega) (by omega)
  |succ d ih=>
   intro j n hj hn h1j;obtain⟨n,rfl⟩:∃n',n=n'+1:=⟨n-1,by omega⟩;have hlt:j<c.puts.length:=by omega
   have bn:=ih (j+1) n (by omega) (by omega) (by omega);have e2:WZ .i64 (j:Int) 1=((j-1:Nat):Int):=by grind [Wam,I64]
   have be:j-1<c.puts.length:=by omega
   have hb:=Xak.1 h.pup (j-1) j be hlt (by omega);simp only[Zby,c5,W4 hlt,Ww hlt,Wx hlt,Wn (show j<4611686018427387904 by omega),We,e2,Ww be,Wx be]
   grind
 by_cases hz:c.puts.length=0
 .obtain⟨N',rfl⟩:∃N',N=N'+1:=⟨N-1,by omega⟩;rw[Zby,c5,Wq (by unfold Wj;omega)];exact yA c.reads.length 0 _ (by omega) (by omega)
 .exact Al (c.puts.length-1) 1 N (by omega) (by omega) (by omega)
theorem Wh8(h:CmOk c){n:Int}(hn:0<=n/\n<=8):Z5 N c.e n=some (((W9 c n).e,()),()):=by
 unfold Z5 W9;rw[WH,Wam (by unfold I64;omega)];split<;>rfl
theorem WsR{ph:Int}:Ze4 N c.e ph=some (((WcV c ph).e,()),()):=by
 obtain⟨c0,c1,c2,c3,c4,c5,c6⟩:=cmP c;unfold Ze4 WcV WaM;simp only[WH,c5,c6,Wj];by_cases h3:ph=3
 .subst h3;by_cases hr:c.reads.length=0<;>by_cases hp:c.puts.length=0<;>simp[hr,hp]<;>rfl
 .by_cases h4:ph=4
  .subst h4;by_cases hp:c.puts.length=0<;>simp[hp]<;>rfl
  .simp[h3,h4];rfl
theorem WvG(h:CmOk c){ph:Int}:Zbr N c.e ph=some (((Wv c ph).e,()),()):=by
 obtain⟨c0,c1,c2,c3,c4,c5,c6⟩:=cmP c;have ch:=h.pos;have wG:c.steps<=8:=by have:=h.plen;have:=h.rlen;unfold Cm.steps;split<;>(try split)<;>omega
 have aM:Zde N (Cm.e {c with pos:=c.pos+1})=ret c.steps:=WmJ;unfold Zbr Wv;rw[c3,WJ (by unfold I64;omega)];rw[show(c.e.1,(c.e.2.1,(c.e.2.2.1,(c.pos+1,c.e.2.2.2.2))))=Cm.e {c with pos:=c.pos+1}from rfl,aM];simp only[ret,Xc,WH,WsR];split<;>rfl
theorem Ws6(h:CmOk c)(hN:1048576<N):∃b,Zjc N c.e=some ((),((Waa c).e,(b,()))):=by
 obtain⟨c0,c1,c2,c3,c4,c5,c6⟩:=cmP c;have ch:=h.pos;have eF:=h.plen;have wG:c.steps<=8:=by have:=h.plen;have:=h.rlen;unfold Cm.steps;split<;>(try split)<;>omega
 unfold Zjc Waa;rw[Wks h];simp only[ret,Xc];rw[WhJ h hN];simp only[ret,Xc,Xt,Wc,WH,c2,c3,c5,Wh8 h (show 0<=c.pos/\c.pos<=8 by omega),Wh8 h (show 0<=Wj c.puts/\Wj c.puts<=8 by unfold Wj;omega)];by_cases h1:c.phase=1
 .simp_all
 .rw[Wa h1,Wa h1];by_cases h2:c.phase=2
  .rw[Wb h2,Wb h2,Wb (.inl h2)];exact⟨_,rfl⟩
  .rw[Wa h2];by_cases h3:c.phase=3
   .rw[Wb h3,Wb (.inr h3)];exact⟨_,rfl⟩
   simp_all
theorem WoR{l:List Rw}(hl:l.length<=1048576)(hN:1048576<N):Zh2 N l=ret ((WcT l).map (·.1)):=by
 unfold Zh2;rw[Wd4 hl hN];have hn:=Wfk l;simp only[ret,Xc];have h1:=WC (l:=WcT l) (V:=List Int) (R:=Unit×(List Int×Unit)) (lp:=λn j v=>Zc1 N (Wj (WcT l)) (WcT l) (λao aq aY=>(some ((),(aY,())))) n j v) (n:=N) (by omega)
  (body:=λj x v k=>bif WM (v.length+ [x.1].length)then k (Xf v [x.1])else none) (K:=λ_ v=>ret v)
  (λn i v hi=>by simp only[Zc1,W4 hi,Ww hi,Wx hi,Wn (show i<4611686018427387904 by omega),We])
  (λn v=>by simp[Zc1,Wae,Xm,Wc]) []
 refine h1.trans ?_;rw[Wcg (f:=λx:Rw=>x.1) (WcT l) 0 [] (by simp;omega) (λj x v k _=>rfl)];rfl
theorem WwU{who rv:Int}{puts reads:List Rw}(hw:1<=who/\who<=99)(hr:0<=rv/\rv<=1000000)(hp:Wav puts=true)(hd:Wav reads=true)(hN:1048576<N):
  Zer N who rv puts reads=some ((),((Wbl who rv puts reads).e,(true,()))):=by
 have l1:puts.length<=300:=by grind [Wav]
 have l2:reads.length<=300:=by grind [Wav]
 unfold Zer;simp only[Wbr,WV,Wa5 (show puts.length<=1048576 by omega) hN,Wa5 (show reads.length<=1048576 by omega) hN,Wd4 (show puts.length<=1048576 by omega) hN,WoR (show reads.length<=1048576 by omega) hN,ret,Xc,Wf hw.1,Wf hw.2,Wf hr.1,Wf hr.2,hp,hd,Xbl,Xt,Wc,WH];unfold Wbl Cm.e;by_cases hz:(WcT puts).length=0
 .simp_all [Wb,Wj]
 simp_all [Wa,Wj]
theorem Win{m:Mm}{i:Int}:Xd m.2 (Xb i) ((0:Int),((0:Int),(0:Int)))=Wz m i:=rfl
theorem Whg(hm:W2 m=true){i:Int}(hi:0<=i/\i<=7):inb i m.2.length=true:=by
 grind [WF,inb]
theorem WiI{i:Int}(hi:0<=i/\i<=7):WaF i=true:=by grind [WaF]
theorem Wmv(hm:W2 m=true){i who:Int}(hi:0<=i/\i<=7)(hw:1<=who/\who<=99)(hN:1048576<N):
  Znv N m i who=some ((),((if(Wz m i).2.2=0 then Wl1 m i who else m),(decide ((Wz m i).2.2=0),()))):=by
 unfold Znv;rw[WdZ hm,Wba (by grind [WF]) hN,hm];simp only[ret,Xc,Xt,Wc,WaQ,WiI hi,Wbr,Wf hw.1,Wf hw.2,Xbl,Whg hm hi,We,Win,Wdj];by_cases h:(Wz m i).2.2=0
 .rw[Wb h,Wb h,Wf h];rfl
 simp_all
theorem Wld(hm:W2 m=true){i who v:Int}(hi:0<=i/\i<=7)(hw:1<=who/\who<=99)(hv:0<=v/\v<=65535)(hN:1048576<N):
  ∃b,Zou N m i who v=some ((),(WcK m i who v,(b,()))):=by
 unfold Zou WcK;rw[WdZ hm,Wba (by grind [WF]) hN,hm];simp only[ret,Xc,Xt,Wc,WaQ,WiI hi,Wbr,WaB,Wbo.2 hv,Wf hw.1,Wf hw.2,Xbl,Whg hm hi,We,Win,Wdj];by_cases h:(Wz m i).2.2=who
 .rw[Wb h,Wb h];exact⟨_,rfl⟩
 simp_all
theorem Wfz(hm:W2 m=true){i who ver:Int}(hi:0<=i/\i<=7)(hw:1<=who/\who<=99)(hN:1048576<N):
  ∃b,Zli N m i who ver=some ((),(WaR m i who ver,(b,()))):=by
 have h8:=(WF hm).1;unfold Zli WaR;rw[WdZ hm,Wba (by omega) hN,hm];simp only[ret,Xc,Xt,Wc,WaQ,WiI hi,Wbr,WV,Wf hw.1,Wf hw.2,Xbl,Whg hm hi,We,Win,Wdj,Xah,WD];by_cases h:(Wz m i).2.2=who
 .rw[Wb h];by_cases h2:(Wz m i).2.1<=ver/\ver<=m.1
  .rw[Wb ⟨h,h2.1,h2.2⟩,Wf h2.1,Wf h2.2];refine⟨true,?_⟩;have:i.toNat<m.2.length:=by omega
   simp only[Xbl,Xt,Wc,Wlm this,Xdl];rfl
  .rw[Wa (by omega)];refine⟨false,?_⟩
   grind
 simp_all
theorem Wms(h:CmOk c)(hm:W2 m=true)(hN:1048576<N):Zjt N m c.e=some ((),((Ws m c).1,((Ws m c).2.e,()))):=by
 obtain⟨c0,c1,c2,c3,c4,c5,c6⟩:=cmP c;have ch:=h.pos;have eF:=h.plen;have hw:=h.who;have wG:c.steps<=8:=by have:=h.plen;have:=h.rlen;unfold Cm.steps;split<;>(try split)<;>omega
 have b1:=Wh8 (N:=N) h (show 0<=c.pos/\c.pos<=8 by omega);have b2:=Wh8 (N:=N) h (show 0<=Wj c.puts/\Wj c.puts<=8 by unfold Wj;omega);unfold Zjt Ws;rw[WdZ hm,Wks h];simp only[ret,Xc];rw[Wba (by grind [WF]) hN,WhJ h hN,hm];simp only[ret,Xc,Xt,Wc,WH,c0,c1,c2,c3,c4,c5,c6,WgX,b1,b2,WvG h];by_cases h1:c.phase=1
 .rw[Wb h1,Wb h1];obtain⟨j,hj,e1,e2,e3,e4⟩:=h.put (by omega);rw[show Xd c.puts (Xb c.pos) ((0:Int),(0:Int))=c.puts[j]from e2,e2,e1,Wag,Wf hj,Wmv hm e3 hw hN,←e1]
  grind
 .rw[Wa h1,Wa h1];by_cases h2:c.phase=2
  .rw[Wb h2,Wb h2,WmF hm hN];simp only[Xc];by_cases ht:(tick m).2=0
   .rw[Wb ht,Wb ht];rfl
   .rw[Wa ht,Wa ht];rw[show(c.who,(c.rv,(c.phase,(c.pos,((tick m).2,c.e.2.2.2.2.2)))))=Cm.e {c with wv:=(tick m).2}from rfl,WsR];rfl
  .rw[Wa h2,Wa h2];by_cases h3:c.phase=3
   .rw[Wb h3,Wb h3];obtain⟨j,hj,e1,e2,e3,e4⟩:=h.read h3;rw[show Xd c.reads (Xb c.pos) (0:Int)=c.reads[j]from e2,e2,e1,Wag,Wf hj,Whg hm ⟨e3,e4⟩];simp only[We,Wdj,WaV];rw[show Xd m.2 (Xb c.reads[j]) ((0:Int),((0:Int),(0:Int)))=Wz m c.reads[j]from rfl];by_cases a:(Wz m c.reads[j]).2.2=0
    .rw[Wb a];by_cases b:(Wz m c.reads[j]).2.1>c.rv
     .rw[Wb b,Wb (.inr b)];rfl
     grind
    .rw[Wa a];by_cases a':(Wz m c.reads[j]).2.2=c.who
     .rw[Wb a'];by_cases b:(Wz m c.reads[j]).2.1>c.rv
      .rw[Wb b,Wb (.inr b)];rfl
      grind
     .rw[Wa a',Wb (.inl ⟨a,a'⟩)];rfl
   .rw[Wa h3,Wa h3];by_cases h4:c.phase=4
    .rw[Wb h4,Wb h4];obtain⟨j,hj,e1,e2,e3,e4⟩:=h.put (by omega)
     grind [Wld,Xd,Xb,Wag,decide_eq_true]
    .rw[Wa h4,Wa h4];by_cases h5:c.phase=5
     .rw[Wb h5,Wb h5];obtain⟨j,hj,e1,e2,e3,e4⟩:=h.put (by omega);obtain⟨b,hb⟩:=Wfz (ver:=c.wv) hm e3 hw hN
      grind [Xd,Xb,Wag,decide_eq_true]
     .rw[Wa h5,Wa h5];by_cases h7:c.phase=7
      .rw[Wb h7,Wb h7];obtain⟨j,hj,e1,e2,e3,e4⟩:=h.put (by omega);obtain⟨b,hb⟩:=Wfz (ver:=(Wz m c.puts[j].1).2.1) hm e3 hw hN;rw[show Xd c.puts (Xb c.pos) ((0:Int),(0:Int))=c.puts[j]from e2,e2,e1,Wag,Wf hj,Whg hm e3];simp only[We,Win,hb,←e1];rfl
      simp_all
end
end
section
abbrev RM:=Int×Int×Int×Int×List Int
abbrev Wr:=Int×Int×List Rw
abbrev Pg:=List Opn×List (List Opn)
abbrev Ac:=Int×Int×Int
abbrev Sc:=Kf×List Pg×List Ac
structure Rt where
 phase:Int:=0
 tries:Int:=0
 spare:Int:=0
 pc:Int:=0
 rv:Int:=0
 newRv:Int:=0
 pos:Int:=0
 fate:Int:=0
 stamp:Int:=0
 began:Int:=0
 ended:Int:=0
 doomed:Bool:=false
 regs:List Int:=[]
 reads:List Rw:=[]
 writes:List Rw:=[]
 marks:List RM:=[]
 undos:List Un:=[]
 order:List Int:=[]
 busy:Bool:=false
 pb:Pb:=(0,0,0,0)
 cm:Cm:={}
 fam:Fm:={}
def Rt.e(r:Rt):Y_Root:=(r.phase,r.tries,r.spare,r.pc,r.rv,r.newRv,r.pos,r.fate,r.stamp,r.began,r.ended,r.doomed,r.regs,r.reads,r.writes,r.marks,r.undos,r.order,r.busy,r.pb,r.cm.e,r.fam.e)
structure Wo where
 now:Int:=0
 token:Int:=0
 mem:Mm:=(0,[])
 shelf:Shf:=([],0)
 holds:List Hd:=[]
 roots:List Rt:=[]
 hist:List Wr:=[]
def Wo.e(w:Wo):Y_World:=(w.now,w.token,w.mem,w.shelf,w.holds,w.roots.map Rt.e,w.hist)
def zRM:RM:=(0,0,0,0,[])
def Rt.last(x:Rt):RM:=Wh2 x.marks zRM
def Wdf(x:Rt):Rt:={phase:=6,tries:=x.tries,undos:=x.undos}
def WR(x:Rt):Rt:=
 if x.marks.length=0\/x.spare=2 then Wdf x else{x with spare:=x.spare+1,busy:=false,pb:=(0,0,0,0),phase:=3}
def Wea(w:Wo)(x:Rt):Wo×Rt:=({w with shelf:=WiN w.shelf (Wh2 x.undos (0,0,0))},{x with undos:=x.undos.dropLast})
def Wkw(w:Wo)(x:Rt)(k:Nat):Wo×Rt:=
 ({w with token:=if w.token=(k:Int)+1 then 0 else w.token},{x with phase:=8,ended:=w.now,undos:=[],doomed:=false})
def WaC(w:Wo)(x:Rt)(k:Nat)(out:Int):Wo×Rt:=
 let rows:=if out=2 then []else x.writes
 if rows.length=0/\(Wf0 w.holds ((k:Int)+1)).length=0 then Wkw w {x with fate:=out,stamp:=x.rv} k
 else(w,{x with fate:=out,cm:=Wbl ((k:Int)+1) x.rv rows x.reads,phase:=5})
def Wdg(w:Wo)(x:Rt)(o:Opn):Rt:=
 match Wbv x.writes o.2.2.1 with
 |some v=>{x with regs:=Woc x.regs o.2.1 v,pc:=x.pc+1}
 |none=>
  let p:=W5 w.mem x.rv (if x.busy then x.pb else(o.2.2.1,0,0,0))
  if p.2.1=4 then WR {x with busy:=true,pb:=p}
  else if p.2.1=3 then{x with regs:=Woc x.regs o.2.1 p.2.2.2,reads:=x.reads++ [(o.2.2.1,p.2.2.2)],busy:=false,pb:=(0,0,0,0),pc:=x.pc+1}
  else{x with busy:=true,pb:=p}
def Wb0(w:Wo)(x:Rt)(k:Nat)(code:List Opn):Wo×Rt:=
 if x.marks.length=0 then WaC w x k 2 else
 if(x.undos.length:Int)>x.last.2.2.2.1 then Wea w x else
 (w,{x with marks:=x.marks.dropLast,regs:=Woc x.last.2.2.2.2 (opN code x.last.1).2.1 0,writes:=x.writes.take x.last.2.2.1.toNat,pc:=WiD code x.last.1.toNat+1})
def WbO(w:Wo)(x:Rt)(k:Nat)(o:Opn):Wo×Rt:=
 match WaX w.holds ((k:Int)+1) (WaH o).1 (WaH o).2 with
 |none=>(w,WR x)
 |some hs=>
  let b:=Wbx w.shelf o x.regs
  ({w with holds:=hs,shelf:=b.1},{x with regs:=b.2.1,undos:=if b.2.2.1=0 then x.undos else x.undos++ [b.2.2],pc:=x.pc+1})
def Wgk(w:Wo)(x:Rt)(k:Nat)(p:Pg):Wo×Rt:=
 if x.pc>=p.1.length then WaC w x k 1 else
 let o:=opN p.1 x.pc
 if o.1=5 then(w,Wdg w x o)else
 if o.1=10 then Wb0 w x k p.1 else
 if o.1=11 then(w,{x with phase:=2,fam:=WaE x.rv x.regs x.writes p.2.length})else
 if o.1>=12 then WbO w x k o else
 if o.1=6 then(w,{x with writes:=x.writes++ [(o.2.1,Wcl x.regs o.2.2.1 0)],pc:=x.pc+1})else
 if o.1=7 then(w,{x with pc:=(if Wcl x.regs o.2.1 0=0 then x.pc+o.2.2.1 else x.pc)+1})else
 if o.1=8 then(w,{x with marks:=x.marks++ [(x.pc,(x.reads.length:Int),(x.writes.length:Int),(x.undos.length:Int),x.regs)],pc:=x.pc+1})else
 if o.1=9 then(w,{x with marks:=x.marks.dropLast,regs:=Woc x.regs (opN p.1 x.last.1).2.1 1,pc:=x.pc+1})else
 (w,{x with regs:=Wo3 o x.regs,pc:=x.pc+1})
def Wab(k:Nat):List Rt->Nat->Bool
 | [],_=>true
 |x::l,i=>(decide (i=k)||(decide (x.phase=0)||decide (x.phase=8)))&&Wab k l (i+1)
def Wds(w:Wo)(x:Rt)(k:Nat):Wo×Rt:=
 if w.token≠0/\w.token≠(k:Int)+1 then(w,x)else
 if x.tries>=3/\w.token=0 then({w with token:=(k:Int)+1},x)else
 if w.token=(k:Int)+1/\Wab k w.roots 0=false then(w,x)else
 (w,{phase:=1,tries:=x.tries,rv:=w.mem.1,began:=w.now,regs:=[0,0,0,0]})
def WbR(x:Rt):Rt:=
 if x.fam.lost then Wdf x else
 if Wbj x.fam then{x with regs:=Wjs x.fam,writes:=WiE x.fam,reads:=x.reads++x.fam.reads,order:=x.fam.order,fam:={},phase:=1,pc:=x.pc+1}
 else x
def Wa1(w:Wo)(x:Rt):Wo×Rt:=
 if(x.undos.length:Int)>x.last.2.2.2.1 then Wea w x else(w,{x with newRv:=w.mem.1,pos:=0,phase:=4})
def WaA(w:Wo)(x:Rt):Rt:=
 if x.pos<x.last.2.1 then
  let c:=Wz w.mem (Wcl x.reads x.pos (0,0)).1
  if c.2.2≠0\/c.2.1>x.rv then Wdf x else{x with pos:=x.pos+1}
 else{x with rv:=x.newRv,newRv:=0,pos:=0,reads:=x.reads.take x.last.2.1.toNat,writes:=x.writes.take x.last.2.2.1.toNat,regs:=x.last.2.2.2.2,pc:=x.last.1+1,phase:=1}
def WaL(x:Rt):Rt:=
 if x.cm.phase=8 then Wdf x else
 if x.cm.phase=6 then{x with stamp:=x.cm.wv,cm:={},phase:=if x.fate=2 then 6 else 7}else x
def Waf(w:Wo)(x:Rt)(k:Nat):Wo×Rt:=
 if x.doomed then(w,if(Waa x.cm).phase=8 then Wdf x else{x with cm:=Waa x.cm,doomed:=false})else
 let q:=Ws w.mem x.cm
 ({w with mem:=q.1,hist:=if x.cm.phase<=3/\q.2.phase=4 then w.hist++ [(q.2.wv,(k:Int)+1,q.2.puts)]else w.hist},WaL {x with cm:=q.2})
def WW(w:Wo)(x:Rt)(k:Nat)(p:Pg):Wo×Rt:=
 if x.doomed=true/\1<=x.phase/\x.phase<=4 then(w,Wdf x)else
 if x.phase=0 then Wds w x k else
 if x.phase=1 then Wgk w x k p else
 if x.phase=2 then(w,WbR x)else
 if x.phase=3 then Wa1 w x else
 if x.phase=4 then(w,WaA w x)else
 if x.phase=5 then Waf w x k else
 if x.phase=6 then(if x.undos.length>0 then Wea w x else(w,{x with phase:=7}))else
 if x.phase=7 then
  (if x.fate=0 then({w with holds:=W7 w.holds ((k:Int)+1)},{tries:=x.tries+1})
   else Wkw {w with holds:=W7 w.holds ((k:Int)+1)} x k)
 else(w,x)
def Wo.put(q:Wo×Rt)(k:Nat):Wo:={q.1 with roots:=q.1.roots.set k q.2}
def rt0:Rt:={}
def pg0:Pg:=([],[])
def WiC(w:Wo)(k:Nat)(p:Pg):Wo:=Wo.put (WW w (w.roots.getD k rt0) k p) k
def WyD(w:Wo)(x:Rt)(k j:Nat)(p:Pg):Wo:=Wo.put (w,{x with fam:=WcE w.mem x.fam j (p.2.getD j [])}) k
def Wcw(s:Sc)(w0:Wo)(a:Ac):Wo:=
 let w:={w0 with now:=w0.now+1}
 if 0<=a.2.1/\a.2.1<w.roots.length then
  let k:=a.2.1.toNat
  let x:=w.roots.getD k rt0
  let p:=s.2.1.getD k pg0
  if a.1=1 then WiC w k p else
  if a.1=2 then(if x.phase=2/\0<=a.2.2/\a.2.2<p.2.length then WyD w x k a.2.2.toNat p else w)else
  if a.1=3 then(if(1<=x.phase/\x.phase<=4)\/(x.phase=5/\x.cm.phase<=3)then Wo.put (w,{x with doomed:=true}) k else w)else w
 else w
def Wft(s:Sc):Wo:={mem:=Wkh s.1.1,shelf:=(WpM s.1.2.1,s.1.2.2),roots:=Xu s.2.1.length {}}
def Wes(s:Sc):Wo:=s.2.2.foldl (Wcw s) (Wft s)
structure RMk(code:List Opn)(pc:Nat)(marks:List RM)(rl wl ul:Nat):Prop where
 pcs:marks.map (·.1)=(stk code pc).map λm:Nat=>(m:Int)
 each:∀q∈marks,Vals 4 q.2.2.2.2/\(0<=q.2.1/\q.2.1<=q.1+72*frk code q.1.toNat/\q.2.1<=rl)/\(0<=q.2.2.1/\q.2.2.1<=q.1+8/\q.2.2.1<=wl)/\0<=q.2.2.2.1/\q.2.2.2.1<=q.1/\q.2.2.2.1<=ul
 up:marks.Pairwise λa b=>a.2.1<=b.2.1/\a.2.2.1<=b.2.2.1/\a.2.2.2.1<=b.2.2.2.1
structure RLive(p:Pg)(n:Int)(x:Rt):Prop where
 pc:0<=x.pc/\x.pc<=p.1.length
 spare:0<=x.spare/\x.spare<=2
 rv:0<=x.rv/\x.rv<=1000000
 regs:Vals 4 x.regs
 reads:WdN x.reads
 rl:(x.reads.length:Int)<=x.pc+72*frk p.1 x.pc.toNat
 writes:WdN x.writes
 wl:(x.writes.length:Int)<=x.pc+8
 ul:(x.undos.length:Int)<=x.pc
 marks:RMk p.1 x.pc.toNat x.marks x.reads.length x.writes.length x.undos.length
 pb:x.busy=true->Wlg x.pb=true
 fork:x.phase=2->x.pc<p.1.length/\(opN p.1 x.pc).1=11/\FOk p.2 n x.fam
 back:x.phase=3\/x.phase=4->x.marks.length≠0
 newRv:0<=x.newRv/\x.newRv<=1000000
 pos:x.phase=4->0<=x.pos/\x.pos<=x.last.2.1
 unw:x.phase=4->(x.undos.length:Int)<=x.last.2.2.2.1
structure ROk(p:Pg)(n:Int)(x:Rt):Prop where
 phase:0<=x.phase/\x.phase<=8
 tries:0<=x.tries/\x.tries<=n
 live:1<=x.phase/\x.phase<=4->RLive p n x
 comm:x.phase=5->CmOk x.cm
 undos:∀u∈x.undos,UnV u
 ul:x.undos.length<=24
 rg:x.regs.length<=4
 ord:x.order.length<=3
structure POk(p:Pg):Prop where
 code:CC p.1
 kids:∀c∈p.2,KC c
 k3:p.2.length<=3
def HE(h:Wr):Prop:=h.2.2.length<=8/\WdN h.2.2/\1<=h.2.1/\h.2.1<=9
structure WOk(ps:List Pg)(n:Int)(w:Wo):Prop where
 len:w.roots.length=ps.length
 l4:ps.length<=4
 progs:∀p∈ps,POk p
 now:w.now=n
 n0:0<=n
 mem:W2 w.mem=true
 shelf:ShOk w.shelf
 holds:HOk w.holds
 hist:(w.hist.length:Int)<=n
 histE:∀h∈w.hist,HE h
 root:∀(k:Nat) (h:k<w.roots.length),ROk (ps.getD k pg0) n w.roots[k]
end
section
theorem rtP(x:Rt):x.e.1=x.phase/\x.e.2.1=x.tries/\x.e.2.2.1=x.spare/\x.e.2.2.2.1=x.pc/\P4 x.e=x.rv/\P5 x.e=x.newRv/\P6 x.e=x.pos/\P7 x.e=x.fate/\P8 x.e=x.stamp/\P11 x.e=x.doomed/\P12 x.e=x.regs/\P13 x.e=x.reads/\P14 x.e=x.writes/\P15 x.e=x.marks/\P16 x.e=x.undos/\P18 x.e=x.busy/\P19 x.e=x.pb/\P20 x.e=x.cm.e/\Q21 x.e=x.fam.e/\P24 x.e=x.fam.lost/\P28 x.e=x.fam.order/\P29 x.e=x.fam.reads:=
 ⟨rfl,rfl,rfl,rfl,rfl,rfl,rfl,rfl,rfl,rfl,rfl,rfl,rfl,rfl,rfl,rfl,rfl,rfl,rfl,rfl,rfl,rfl⟩
theorem S5e(w:Wo)(k:Nat)(x:Rt):S5 (Xk (w.roots.map Rt.e) k x.e) w.e=Wo.e {w with roots:=w.roots.set k x}:=by
 unfold S5 Wo.e;rw[List.map_set]
theorem Wdh{w w':Wo}{k:Nat}{x':Rt}{y:Y_Root}{g:Y_World}(hy:y=x'.e)(hg:g=w'.e)(hr:w'.roots=w.roots):
  some ((S5 (Xk (w.roots.map Rt.e) k y) g,()),())=some (((Wo.put (w',x') k).e,()),()):=by
 subst hy hg;rw[←hr,S5e];rfl
variable{N:Nat}{w:Wo}{k:Nat}{x:Rt}{o:Opn}{p:Pg}{n:Int}{code:List Opn}
theorem woG(hk:k<w.roots.length)(aQ:w.roots[k]=x):Xd (w.roots.map Rt.e) k d_Root=x.e/\Xd (w.roots.map Rt.e) (Xb (k:Int)) d_Root=x.e/\S5 (Xk (w.roots.map Rt.e) (Xb (k:Int)) x.e) w.e=w.e/\inb (k:Int) (w.roots.map Rt.e).length=true/\S5 (Xk (w.roots.map Rt.e) k x.e) w.e=w.e:=by
 have h1:Xd (w.roots.map Rt.e) k d_Root=x.e:=by
  have:=Wsp Rt.e w.roots k {};rw[Wp hk,aQ]at this;exact this
 have h2:S5 (Xk (w.roots.map Rt.e) k x.e) w.e=w.e:=by rw[S5e,←aQ,Xbd]
 rw[Xj];refine⟨h1,h1,h2,?_,h2⟩;rw[Wag,Xab];exact Wf hk
theorem Wqq(hk:k<w.roots.length)(aQ:w.roots[k]=x):Wo.put (w,x) k=w:=by
 unfold Wo.put;simp only;rw[←aQ,Xbd]
theorem Wfb:Zbe N x.e=some (((Wdf x).e,()),()):=rfl
theorem WeO(hs:0<=x.spare/\x.spare<=2):Zdd N x.e=some (((WR x).e,()),()):=by
 obtain⟨r0,r1,r2,r3,r4,r5,r6,r7,r8,jT,ji,im,io,iN,iO,kN,kO,jU,jV,kP,kQ,kR⟩:=rtP x;unfold Zdd WR;simp only[WH,iN,r2,Wj,Wfb,Xc];by_cases h1:x.marks.length=0
 .rw[Wb (by omega),Wb (.inl h1)]
 .rw[Wa (by omega)];by_cases h2:x.spare=2
  .rw[Wb h2,Wb (.inr h2)]
  .rw[Wa h2,Wa (by omega),WJ (by unfold I64;omega)];rfl
theorem We0{α:Type}{l:List α}(h:l.length≠0)(hl:l.length<=1000)(d:α):inb (WZ .i64 (Wj l) 1) l.length=true/\Xd l (Xb (WZ .i64 (Wj l) 1)) d=Wh2 l d/\Xaf (Xb (WZ .i64 (Wj l) 1)) l=l.dropLast/\(decide ((0:Int)<=WZ .i64 (Wj l) 1)&&decide (WZ .i64 (Wj l) 1<=(l.length:Int)))=true:=by
 have e:WZ .i64 (Wj l) 1=((l.length-1:Nat):Int):=by rw[Wqi (by omega)];omega
 rw[e];refine⟨by rw[Wag];exact Wf (by omega),by rw[Xj];rfl,by rw[Xj,List.dropLast_eq_take],by simp⟩
theorem WpK(h:x.marks.length≠0)(hl:x.marks.length<=1000):Zie N x.e=some ((x.e,()),(x.last,())):=by
 obtain⟨a,b,c,d⟩:=We0 h hl zRM;unfold Zie;rw[show x.e.2.2.2.2.2.2.2.2.2.2.2.2.2.2.2.1=x.marks from rfl,a];simp only[We];rw[show((0:Int),((0:Int),((0:Int),((0:Int),([]:List Int)))))=zRM from rfl,b];rfl
theorem WmV(h:x.marks.length≠0)(hl:x.marks.length<=1000):Zd2 N x.e=some ((),((x.last.1,(x.last.2.1,(x.last.2.2.1,x.last.2.2.2.1))),())):=by
 obtain⟨a,b,c,d⟩:=We0 h hl zRM;unfold Zd2;simp only[WD];rw[show P15 x.e=x.marks from rfl,a];simp only[We];rw[show((0:Int),((0:Int),((0:Int),((0:Int),([]:List Int)))))=zRM from rfl,b];rfl
theorem Wly(hk:k<w.roots.length)(aQ:w.roots[k]=x)(hz:x.undos.length≠0)(hl:x.undos.length<=1000)(hu:∀u∈x.undos,UnV u)(hs:ShOk w.shelf)(hN:1048576<N):
  Zcn N w.e k=some (((Wo.put (Wea w x) k).e,()),()):=by
 obtain⟨g1,g2,g3,g4,g5⟩:=woG hk aQ;obtain⟨a,b,c,d⟩:=We0 hz hl ((0,0,0):Un);have hmem:Wh2 x.undos ((0,0,0):Un)∈x.undos:=by
  unfold Wh2;rw[Wp (show x.undos.length-1<x.undos.length by omega)];exact Xo _
 unfold Zcn Wea;simp only[WD];rw[show P5 w.e=w.roots.map Rt.e from rfl,g1];rw[show x.e.2.2.2.2.2.2.2.2.2.2.2.2.2.2.2.2.1=x.undos from rfl,a,b,show w.e.2.2.2.1=w.shelf from rfl,WiY hs (hu _ hmem) hN,c];simp only[We,Xc,d];exact Wdh rfl rfl rfl
theorem WtC(hk:k<w.roots.length)(aQ:w.roots[k]=x)(mw:k<=1000):Zgq N w.e (k:Int)=some (((Wo.put (Wkw w x k) k).e,()),()):=by
 obtain⟨g1,g2,g3,g4,g5⟩:=woG hk aQ;unfold Zgq Wkw;simp only[WD];rw[show P5 w.e=w.roots.map Rt.e from rfl,g4,g2,WcO (by omega),Xj];simp only[We,WH];rw[show w.e.2.1=w.token from rfl];by_cases h:w.token=(k:Int)+1
 .rw[Wb h];simp only[Wb h];exact Wdh rfl rfl rfl
 .rw[Wa h];simp only[Wa h];exact Wdh rfl rfl rfl
theorem WnK(hk:k<w.roots.length)(aQ:w.roots[k]=x)(mw:k<=8)(hh:HOk w.holds)(jv:0<=x.rv/\x.rv<=1000000)(hr:Wav x.reads=true)(hw:Wav x.writes=true){out:Int}(hN:1048576<N):
  Zg7 N w.e (k:Int) out=some (((Wo.put (WaC w x k out) k).e,()),()):=by
 obtain⟨g1,g2,g3,g4,g5⟩:=woG hk aQ;obtain⟨r0,r1,r2,r3,r4,r5,r6,r7,r8,jT,ji,im,io,iN,iO,kN,kO,jU,jV,kP,kQ,kR⟩:=rtP x;have uJ:=Wmi hh;have uD:∀y:Rt,Zgq N (S5 (Xk (w.roots.map Rt.e) (Xb (k:Int)) y.e) w.e) (k:Int)=some (((Wo.put (Wkw w y k) k).e,()),()):=λy=>by
  rw[Xj,S5e];have h1:k<({w with roots:=w.roots.set k y}:Wo).roots.length:=by simpa using hk
  rw[WtC (x:=y) h1 (by simp) (by omega)];unfold Wkw Wo.put;simp only[Xdl]
 unfold Zg7 WaC;simp only[WD];rw[show P5 w.e=w.roots.map Rt.e from rfl,g4,g2,WcO (by omega),show P4 w.e=w.holds from rfl];have qh:∀{α:Type} (a b:α),(bif ((0:Int)==(0:Int))then a else b)=a:=λ_ _=>rfl;have Am:∀{α:Type} (a b:α),(bif ((0:Nat)==(0:Nat))then a else b)=a:=λ_ _=>rfl;simp only[qh,Am];simp only[We,WH,r4,im,io,Wix (who:=(k:Int)+1) hh (by omega) hN,ret,Xc,Wj];have qY:∀rows,Wav rows=true->Zer N ((k:Int)+1) x.rv rows x.reads=some ((),((Wbl ((k:Int)+1) x.rv rows x.reads).e,(true,()))):=λrows mE=>WwU (by omega) jv mE hr hN;have bG:Zer N ((k:Int)+1) x.rv ([]:List Kc) x.reads=some ((),((Wbl ((k:Int)+1) x.rv [] x.reads).e,(true,()))):=qY [] rfl;have aM:(S8 x.rv (S7 out x.e))=Rt.e {x with fate:=out,stamp:=x.rv}:=rfl;rw[bG,qY _ hw,aM,uD];simp only[Xc];by_cases ho:out=2
 .rw[Wb ho,Wb ho];by_cases hz:(Wf0 w.holds ((k:Int)+1)).length=0
  .rw[Wb (by omega),Wb ⟨rfl,hz⟩]
  .rw[Wa (by omega),Wa (λh=>hz h.2),Xj];exact Wdh rfl rfl rfl
 .rw[Wa ho,Wa ho];by_cases hy:x.writes.length=0
  .rw[Wb (by omega)];by_cases hz:(Wf0 w.holds ((k:Int)+1)).length=0
   .rw[Wb (by omega),Wb ⟨hy,hz⟩]
   .rw[Wa (by omega),Wa (λh=>hz h.2),Xj];exact Wdh rfl rfl rfl
  .rw[Wa (by omega),Wa (λh=>hy h.1),Xj];exact Wdh rfl rfl rfl
theorem Wm5{l:List Rw}(h:WdN l)(hl:l.length<=300):Wav l=true:=by
 unfold Wav;rw[Wic.2 h,Wf hl];rfl
theorem Wf6(hc:CC code):∀j,j<=code.length->frk code j<=1
 |0,_=>by simp[frk]
 |j+1,h=>by
  have hj:j<code.length:=by omega
  by_cases fz:code[j].1=11
  .exact(hc.fk j hj fz).2
  .rw[Weg hj,show(code[j].1==11)=false by simpa using fz];have:=Wf6 hc j (by omega);simpa using this
theorem RLive.sz(hc:CC p.1)(h:RLive p n x):x.reads.length<=96/\x.writes.length<=32/\x.undos.length<=24/\x.marks.length<=24/\Wav x.reads=true/\Wav x.writes=true:=by
 have h1:=h.pc;have h2:=hc.len;have h3:=Wf6 hc x.pc.toNat (by omega);have h4:=h.rl;have h5:=h.wl;have h6:=h.ul;have h7:=Wk Xa h.marks.pcs;simp only[Xab]at h7;have h8:=WbJ hc.up x.pc.toNat (by omega);have h9:=(WdE p.1 x.pc.toNat).2;exact⟨by omega,by omega,by omega,by omega,Wm5 h.reads (by omega),Wm5 h.writes (by omega)⟩
theorem Wsa(hb:x.busy=true->Wlg x.pb=true){c:Int}(hc:0<=c/\c<=7):Wlg (if x.busy then x.pb else(c,0,0,0))=true:=by
 split
 .exact hb ‹_›
 .rw[We9];simp only;omega
theorem WvJ(hk:k<w.roots.length)(aQ:w.roots[k]=x)(hc:CC p.1)(hx:RLive p n x)(hm:W2 w.mem=true)(h5:o.1=5)(ho:Wey o=true)(hN:1048576<N):
  Zjs N w.e k o=some (((Wo.put (w,Wdg w x o) k).e,()),()):=by
 obtain⟨g1,g2,g3,g4,g5⟩:=woG hk aQ;obtain⟨r0,r1,r2,r3,r4,r5,r6,r7,r8,jT,ji,im,io,iN,iO,kN,kO,jU,jV,kP,kQ,kR⟩:=rtP x;obtain⟨z1,z2,z3,z4,z5,z6⟩:=hx.sz hc;obtain⟨hA,hB⟩:=Wxt ho h5;have hB':0<=o.2.2.1/\o.2.2.1<=7:=by unfold WaF at hB;simpa using hB
 have dj:=hx.regs.len;have aT:=hx.pc;have hcl:=hc.len;have jo:=hx.spare;unfold Zjs Wdg;simp only[WD];rw[show P5 w.e=w.roots.map Rt.e from rfl,g1,show w.e.2.2.1=w.mem from rfl];simp only[r3,r4,ji,im,io,kN,kO];rw[We4 (by omega) hN,Wbg hA dj,WcO (by omega)];cases hl:Wbv x.writes o.2.2.1 with
 |some v=>
  simp only[opI,Xc,We];exact Wdh rfl rfl rfl
 |none=>
  have az:WM (x.reads.length+ [(o.2.2.1,(0:Int))].length)=true:=WB (by simp;omega);have lv:Zfl N o.2.2.1=some ((),((o.2.2.1,0,0,0),(true,()))):=by
   unfold Zfl;rw[WaQ,hB];rfl
  have gI:=Wsa hx.pb hB';have tt:S18 true x.e=Rt.e {x with busy:=true}:=rfl;simp only[opI,Xc,Wc,WH,lv,tt];have dR:∀q:Pb,S19 q (Rt.e {x with busy:=true})=Rt.e {x with busy:=true,pb:=q}:=λq=>rfl;simp only[dR,WeO (x:={x with busy:=true,pb:=_}) jo];cases hb:x.busy with
  |false=>
   rw[hb]at gI;simp only[Xbh,Wau]at gI;rw[Wfa hm gI hN];simp only[Xdi,We,ret,Xc,Xbh,Wau];generalize W5 w.mem x.rv (o.2.2.1,0,0,0)=q;by_cases h4:q.2.1=4
   .rw[Wb h4,Wb h4];exact Wdh rfl rfl rfl
   .rw[Wa h4,Wa h4];by_cases h3:q.2.1=3
    .rw[Wb h3,Wb h3,WB (by simp;omega)];exact Wdh rfl rfl rfl
    .rw[Wa h3,Wa h3];exact Wdh rfl rfl rfl
  |true=>
   have bo:∀q:Pb,S19 q x.e=Rt.e {x with busy:=true,pb:=q}:=λq=>by
    have:S19 q x.e=Rt.e {x with pb:=q}:=rfl;rw[this]
    conv=>lhs;rw[show({x with pb:=q}:Rt)={x with busy:=x.busy,pb:=q}from rfl,hb]
   rw[hb]at gI;simp only[Waq]at gI;rw[Wfa hm gI hN];simp only[Xt,Wc,ret,Xc,Waq,bo,WeO (x:={x with busy:=true,pb:=_}) jo];generalize W5 w.mem x.rv x.pb=q;by_cases h4:q.2.1=4
   .rw[Wb h4,Wb h4];exact Wdh rfl rfl rfl
   .rw[Wa h4,Wa h4];by_cases h3:q.2.1=3
    .rw[Wb h3,Wb h3,WB (by simp;omega)];exact Wdh rfl rfl rfl
    .rw[Wa h3,Wa h3];exact Wdh rfl rfl rfl
end
section
variable{N:Nat}{w:Wo}{k:Nat}{x:Rt}{o:Opn}{p:Pg}{n:Int}{code:List Opn}
theorem RLive.mk24(hc:CC p.1)(h:RLive p n x)(hz:x.marks.length≠0):∃(m:Nat) (q:List RM),x.marks=q++ [x.last]/\x.last.1=(m:Int)/\(∃hm:m<p.1.length,p.1[m].1=8)/\(m:Int)<x.pc/\Mate p.1 m (WiD p.1 m)/\x.pc<=WiD p.1 m/\stk p.1 m=(stk p.1 x.pc.toNat).dropLast/\x.marks.dropLast=q/\
  Vals 4 x.last.2.2.2.2/\(0<=x.last.2.1/\x.last.2.1<=x.last.1+72*frk p.1 x.last.1.toNat/\x.last.2.1<=x.reads.length)/\(0<=x.last.2.2.1/\x.last.2.2.1<=x.last.1+8/\x.last.2.2.1<=x.writes.length)/\0<=x.last.2.2.2.1/\x.last.2.2.2.1<=x.last.1/\x.last.2.2.2.1<=x.undos.length:=by
 have hp:=h.pc;obtain⟨m,q,y,e1,e2,e3,e4,e5,e6,e7,e8,e9⟩:=WhQ (d:=zRM) hc (show x.pc.toNat<=p.1.length by omega) h.marks.pcs hz;have hl:x.last=y:=e2;have hy:=h.marks.each y (by grind)
 grind
theorem Wul(hk:k<w.roots.length)(aQ:w.roots[k]=x)(mw:k<=8)(hc:CC p.1)(hx:RLive p n x)(hu:∀u∈x.undos,UnV u)(hs:ShOk w.shelf)(hh:HOk w.holds)(hN:1048576<N):
  Zjb N w.e (k:Int) p.1=some (((Wo.put (Wb0 w x k p.1) k).e,()),()):=by
 obtain⟨g1,g2,g3,g4,g5⟩:=woG hk aQ;obtain⟨r0,r1,r2,r3,r4,r5,r6,r7,r8,jT,ji,im,io,iN,iO,kN,kO,jU,jV,kP,kQ,kR⟩:=rtP x;obtain⟨z1,z2,z3,z4,z5,z6⟩:=hx.sz hc;have hcl:=hc.len;unfold Zjb Wb0;simp only[WD];rw[show P5 w.e=w.roots.map Rt.e from rfl,g4,g2];simp only[We,WH,iN,Wj];by_cases hz:x.marks.length=0
 .rw[Wb (by omega),Wb hz,g3,WnK hk aQ mw hh hx.rv z5 z6 hN];rfl
 .rw[Wa (by omega),Wa hz,WpK hz (by omega)];simp only[Xc,iO,WaV];obtain⟨m,q,e1,e2,⟨hm,kS⟩,e4,e5,e6,e7,e8,e9,mx,nh,qi,qj,my⟩:=hx.mk24 hc hz;by_cases hgt:(x.undos.length:Int)>x.last.2.2.2.1
  .rw[Wb hgt,Wb hgt,g3,Xj,Wly hk aQ (by omega) (by omega) hu hs hN];rfl
  .rw[Wa hgt,Wa hgt];simp only[io,iN];obtain⟨a,b,c,d⟩:=We0 hz (by omega) zRM;have d':(decide ((0:Int)<=WZ .i64 (x.marks.length:Int) 1)&&decide (WZ .i64 (x.marks.length:Int) 1<=(x.marks.length:Int)))=true:=d;have c':Xaf (Xb (WZ .i64 (x.marks.length:Int) 1)) x.marks=x.marks.dropLast:=c;rw[d',c',Wbe (by rw[e9.len];omega),e2,Wag,Wf hm];have o1:Xd p.1 (Xb ((m:Nat):Int)) ((0,0,0,0):Opn)=opN p.1 (m:Int):=rfl;have hr:=Wyp (hc.ok m hm).1 kS;rw[←Wmf hm]at hr;simp only[We,ret,Xc,o1];rw[Wbg hr e9.len];have b2:(decide ((0:Int)<=x.last.2.2.1)&&decide (x.last.2.2.1<=(x.writes.length:Int)))=true:=by simp;omega
   rw[b2];simp only[We];rw[WdF (by grind),Wis (by omega) hN ⟨hm,kS⟩ e5];simp only[ret,Xc];rw[WcO (by have:=e5.len;omega),Xj];exact Wdh rfl rfl rfl
theorem Wsm(hk:k<w.roots.length)(aQ:w.roots[k]=x)(mw:k<=8)(hc:CC p.1)(hx:RLive p n x)(ho:Wey o=true)(fO:12<=o.1)(hs:ShOk w.shelf)(hh:HOk w.holds)(hN:1048576<N):
  Zg8 N w.e (k:Int) o=some (((Wo.put (WbO w x k o) k).e,()),()):=by
 obtain⟨g1,g2,g3,g4,g5⟩:=woG hk aQ;obtain⟨r0,r1,r2,r3,r4,r5,r6,r7,r8,jT,ji,im,io,iN,iO,kN,kO,jU,jV,kP,kQ,kR⟩:=rtP x;obtain⟨z1,z2,z3,z4,z5,z6⟩:=hx.sz hc;have uJ:=Wmi hh;have aT:=hx.pc;have hcl:=hc.len;have tu:(0<=(WaH o).1/\(WaH o).1<=8)/\1<=(WaH o).2/\(WaH o).2<=2:=by
  grind [WaH,WoN,Wfu,WvL,WvN,WcX,Wwm]
 unfold Zg8 WbO;simp only[WD,WgX];rw[show P5 w.e=w.roots.map Rt.e from rfl,g4,g2,WcO (by omega),Wmb ho fO,show P4 w.e=w.holds from rfl,show w.e.2.2.2.1=w.shelf from rfl];simp only[We,Xc,Wir hh (show 1<=(k:Int)+1/\(k:Int)+1<=9 by omega) tu.1 tu.2 (by omega) hN,r3,ji,iO,WeO hx.spare];cases ha:WaX w.holds ((k:Int)+1) (WaH o).1 (WaH o).2 with
 |none=>
  simp only[Option.isSome_none,Xdi,We,Xj];exact Wdh rfl rfl rfl
 |some cP=>
  simp only[Xha,Xt,Wc,Xex,Xj,Wjf hs hx.regs ho fO hN,Xc,Wdj];rw[WcO (by omega),WB (by simp;omega)];by_cases hz:(Wbx w.shelf o x.regs).2.2.1=0
  .rw[Wb hz,Wb hz];exact Wdh rfl rfl rfl
  .rw[Wa hz,Wa hz];exact Wdh rfl rfl rfl
theorem WwB(hk:k<w.roots.length)(aQ:w.roots[k]=x)(mw:k<=8)(hp:POk p)(hx:RLive p n x)(hu:∀u∈x.undos,UnV u)(hm:W2 w.mem=true)(hs:ShOk w.shelf)(hh:HOk w.holds)(hN:1048576<N):
  Zig N w.e (k:Int) p=some (((Wo.put (Wgk w x k p) k).e,()),()):=by
 obtain⟨g1,g2,g3,g4,g5⟩:=woG hk aQ;obtain⟨r0,r1,r2,r3,r4,r5,r6,r7,r8,jT,ji,im,io,iN,iO,kN,kO,jU,jV,kP,kQ,kR⟩:=rtP x;have hc:=hp.code;obtain⟨z1,z2,z3,z4,z5,z6⟩:=hx.sz hc;have aT:=hx.pc;have hcl:=hc.len;have dj:=hx.regs.len;unfold Zig Wgk;simp only[WD];rw[show P5 w.e=w.roots.map Rt.e from rfl,g4,g2,g3];simp only[We,r3,r4,ji,im,io,iN,iO,WaV,WH,show Wj p.1=(p.1.length:Int)from rfl];by_cases fB:x.pc>=p.1.length
 .rw[Wb fB,Wb fB,WnK hk aQ mw hh hx.rv z5 z6 hN];rfl
 .rw[Wa fB,Wa fB];obtain⟨j,hj,ej,eo⟩:=WfI (l:=p.1) aT.1 (by omega);have wA:Xd p.1 (Xb x.pc) ((0,0,0,0):Opn)=opN p.1 x.pc:=rfl;have gV:inb x.pc p.1.length=true:=by grind [Wag,decide_eq_true]
  rw[gV];obtain⟨ok,o1,gD⟩:=hc.ok j hj;simp only[We,wA];rw[←eo]at ok o1 gD;rw[WcO (show 0<=x.pc/\x.pc<=1000000 by omega)];have tv:(opN p.1 x.pc).1=9->x.marks.length≠0:=λh9 hz=>by
   have h1:=Wk Xa hx.marks.pcs;simp only[Xab,hz]at h1;have h2:=WbJ hc.up j (by omega);have h3:=hc.up j hj
   grind [WaJ,WrF,Xj]
  generalize opN p.1 x.pc=o at*;have wF:o.1>=12->Zg8 N w.e (k:Int) o=some (((Wo.put (WbO w x k o) k).e,()),()):=λfO=>Wsm hk aQ mw hc hx ok fO hs hh hN;by_cases h5:o.1=5
  .rw[Wb h5,Wb h5,Xj,WvJ hk aQ hc hx hm h5 ok hN];rfl
  .rw[Wa h5,Wa h5];by_cases cN:o.1=10
   .rw[Wb cN,Wb cN,Wul hk aQ mw hc hx hu hs hh hN];rfl
   .rw[Wa cN,Wa cN];by_cases fz:o.1=11
    .rw[Wb fz,Wb fz,show Wj p.2=((p.2.length:Nat):Int)from rfl,WjU (by omega) (by omega) hp.k3 hN,Xj];exact Wdh rfl rfl rfl
    .rw[Wa fz,Wa fz];by_cases fO:o.1>=12
     .rw[Wb fO];have hb:=wF fO;have:o.1=12\/o.1=13\/o.1=14\/o.1=15\/o.1=16:=by omega
      rcases this with h|h|h|h|h
      .rw[Wb h,Wb h,hb];rfl
      .rw[Wa (by omega),Wb h,Wb h,hb];rfl
      .rw[Wa (by omega),Wa (by omega),Wb h,Wb h,hb];rfl
      .rw[Wa (by omega),Wa (by omega),Wa (by omega),Wb h,Wb h,hb];rfl
      .rw[Wa (by omega),Wa (by omega),Wa (by omega),Wa (by omega),Wb h,hb];rfl
     .rw[Wa fO,Wa (show¬o.1=12 by omega),Wa (show¬o.1=13 by omega),Wa (show¬o.1=14 by omega),Wa (show¬o.1=15 by omega),Wa (show¬o.1=16 by omega)];by_cases h6:o.1=6
      .rw[Wb h6,Wb h6,Wbg (Wyr ok h6).2 dj,WB (by simp;omega),Xj];exact Wdh rfl rfl rfl
      .rw[Wa h6,Wa h6];by_cases h7:o.1=7
       .rw[Wb h7,Wb h7];have h:=Wxs ok h7;rw[Wbg h.1 dj,WJ (a:=x.pc) (b:=o.2.2.1) (by unfold I64;omega),WcO (a:=x.pc+o.2.2.1) (by omega),Xj];by_cases hg:Xd x.regs (Xb o.2.1) 0=0
        .rw[Wb hg,Wb (show Wcl x.regs o.2.1 0=0 from hg)];exact Wdh rfl rfl rfl
        .rw[Wa hg,Wa (show¬Wcl x.regs o.2.1 0=0 from hg)];exact Wdh rfl rfl rfl
       .rw[Wa h7,Wa h7];by_cases h8:o.1=8
        .rw[Wb h8,Wb h8,Wbe (by omega)];simp only[ret,Xc];rw[WB (by simp;omega),Xj];exact Wdh rfl rfl rfl
        .rw[Wa h8,Wa h8];by_cases h9:o.1=9
         .rw[Wb h9,Wb h9];have hz:=tv h9;obtain⟨a,b,c,d⟩:=We0 hz (by omega) zRM;obtain⟨m,q,e1,e2,⟨gS,kS⟩,e4,e5,e6,e7,e8,e9,mx,nh,qi,qj,my⟩:=hx.mk24 hc hz;rw[WmV hz (by omega)];simp only[Xc];rw[d,c,e2,Wag,Wf gS];have o1:Xd p.1 (Xb ((m:Nat):Int)) ((0,0,0,0):Opn)=opN p.1 (m:Int):=rfl;have hr:=Wyp (hc.ok m gS).1 kS;rw[←Wmf gS]at hr;simp only[We,o1];rw[Wbg hr dj,Xj];exact Wdh rfl rfl rfl
         .rw[Wa h9,Wa h9,Whw hN ok (by omega) (by omega) hx.regs,Xj];exact Wdh rfl rfl rfl
theorem WvA(hk:k<w.roots.length)(aQ:w.roots[k]=x)(jj:w.roots.length<=8)(hN:1048576<N):
  Zf6 N w.e (k:Int)=some (((Wo.put (Wds w x k) k).e,()),()):=by
 obtain⟨g1,g2,g3,g4,g5⟩:=woG hk aQ;have gv:=Wqq hk aQ;have dj:(w.roots.map Rt.e).length=w.roots.length:=by simp
 unfold Zf6;rw[show P5 w.e=w.roots.map Rt.e from rfl,g4,g2,WcO (by omega),Xj];simp only[We,Wdj,WH,WaV,show w.e.2.1=w.token from rfl,show x.e.2.1=x.tries from rfl,show w.e.1=w.now from rfl,show w.e.2.2.1.1=w.mem.1 from rfl];have nR:∀(K0:Bool->Int->Bool->Option ((Y_World×Unit)×Unit)) (d j n:Nat) (al:Bool),j+d=w.roots.length->d<n->
   Zaw N (k:Int) k (Wj (w.roots.map Rt.e)) w.now w.token w.mem.1 w.e.2.2.2.1.2 (w.roots.map Rt.e) w.e.2.2.1.2 w.e.2.2.2.1.1 (P4 w.e) (Q6 w.e) K0 n al (j:Int)=K0 (al&&Wab k (w.roots.drop j) j) (w.roots.length:Int) false:=by
  intro K0 d
  induction d with
  |zero=>
   intro j n al hj hn;obtain⟨n,rfl⟩:∃n',n=n'+1:=⟨n-1,by omega⟩;have:j=(w.roots.map Rt.e).length:=by omega
   rw[Zaw,this,Wae (Xm _),dj,Xdk];simp[Wab]
  |succ d ih=>
   intro j n al hj hn;obtain⟨n,rfl⟩:∃n',n=n'+1:=⟨n-1,by omega⟩;have hlt:j<(w.roots.map Rt.e).length:=by omega
   have qk:j<w.roots.length:=by omega
   rw[Zaw];simp only[W4 hlt,Ww hlt,Wx hlt,Wn (show j<4611686018427387904 by omega),We,ih (j+1) n _ (by omega) (by omega),List.getElem_map];rw[Xbm qk,Wab];generalize Wab k (w.roots.drop (j+1)) (j+1)=b;have hp:(Rt.e w.roots[j]).1=w.roots[j].phase:=rfl;rw[hp];simp only[WH];cases al with
   |false=>simp
   |true=>
    simp only[We,Xce];by_cases h1:j=k
    .rw[Wb (by omega),Wf h1];simp
    .rw[Wa (by omega),Wq h1];by_cases h2:w.roots[j].phase=0
     .rw[Wb h2,Wf h2];simp
     .rw[Wa h2,Wq h2];have:(w.roots[j].phase==8)=decide (w.roots[j].phase=8):=by
       by_cases h3:w.roots[j].phase=8<;>simp[h3]
      rw[this];simp
 have:=nR;refine(nR _ w.roots.length 0 N true (by omega) (by omega)).trans ?_;rw[List.drop_zero,Xce];unfold Wds;have cQ:some ((S5 (Xk (w.roots.map Rt.e) k ((1:Int),(x.tries,((0:Int),((0:Int),(w.mem.1,((0:Int),((0:Int),((0:Int),((0:Int),(w.now,((0:Int),(false,(Xu (Xb (4:Int)) (0:Int),(([]:List Kc),(([]:List Kc),(([]:List Kj),(([]:List Kb),(([]:List Int),(false,(((0:Int),((0:Int),((0:Int),(0:Int)))),(((0:Int),((0:Int),((0:Int),((0:Int),((0:Int),(([]:List Kc),([]:List Int))))))),d_Family)))))))))))))))))))))) w.e,()),())=some (((Wo.put (w,{phase:=1,tries:=x.tries,rv:=w.mem.1,began:=w.now,regs:=[0,0,0,0]}) k).e,()),()):=Wdh (x':={phase:=1,tries:=x.tries,rv:=w.mem.1,began:=w.now,regs:=[0,0,0,0]}) (w':=w) rfl rfl rfl;have wH:some (((w.now,((k:Int)+1,w.e.2.2)),()),())=some (((Wo.put ({w with token:=(k:Int)+1},x) k).e,()),()):=by
  have:Wo.put ({w with token:=(k:Int)+1},x) k={w with token:=(k:Int)+1}:=by unfold Wo.put;simp only;rw[←aQ,Xbd]
  rw[this];rfl
 have az:(((decide ((0:Int)<=(4:Int)))&&(decide ((4:Int)<=(4:Int))))&&(WM (Xb (4:Int))))=true:=rfl;have bo:some ((w.e,()),())=some (((Wo.put (w,x) k).e,()),()):=by rw[gv]
 rw[az];simp only[We,cQ];by_cases t0:w.token=0
 .rw[Wb t0];rw[Wa (show¬(w.token≠0/\w.token≠(k:Int)+1) by omega)];by_cases ht:x.tries>=3
  .rw[Wb ht,Wb t0,Wb ⟨ht,t0⟩];exact wH
  .rw[Wa ht,Wa (show¬w.token=(k:Int)+1 by omega),Wa (λh=>ht h.1),Wa (by omega)]
 .rw[Wa t0];by_cases t1:w.token=(k:Int)+1
  .rw[Wb t1,Wa (show¬(w.token≠0/\w.token≠(k:Int)+1) by omega),Wa (show¬(x.tries>=3/\w.token=0) by omega)];have g0:∀b:Bool,(bif !b then some ((w.e,()),())else some (((Wo.put (w,{phase:=1,tries:=x.tries,rv:=w.mem.1,began:=w.now,regs:=[0,0,0,0]}) k).e,()),()))=some (((Wo.put (if w.token=(k:Int)+1/\b=false then(w,x)else(w,{phase:=1,tries:=x.tries,rv:=w.mem.1,began:=w.now,regs:=[0,0,0,0]})) k).e,()),()):=λb=>by
    cases b with
    |false=>rw[Wb ⟨t1,rfl⟩];exact bo
    |true=>rw[Wa (by simp)];rfl
   by_cases ht:x.tries>=3
   .rw[Wb ht,Wa t0,Wb t1];exact g0 _
   .rw[Wa ht,Wb t1];exact g0 _
  .rw[Wa t1,Wb ⟨t0,t1⟩];exact bo
theorem Wuw(hp:POk p)(hx:RLive p n x)(h2:x.phase=2)(hN:1048576<N):Zih N x.e=some (((WbR x).e,()),()):=by
 obtain⟨r0,r1,r2,r3,r4,r5,r6,r7,r8,jT,ji,im,io,iN,iO,kN,kO,jU,jV,kP,kQ,kR⟩:=rtP x;have hc:=hp.code;obtain⟨z1,z2,z3,z4,z5,z6⟩:=hx.sz hc;obtain⟨f1,f2,f3⟩:=hx.fork h2;have aT:=hx.pc;have hcl:=hc.len;have ql:x.fam.kids.length<=3:=by have:=f3.len;have:=hp.k3;omega
 have qf:=f3.len3 hp.k3;have kJ:=f3.readsL;unfold Zih WbR;simp only[r3,im,jV,kP,kQ,kR,Wfb,Xc];rw[Wmr ql hN,Wl9 f3.regs ql (λy hy=>by
  obtain⟨i,hi,rfl⟩:=Xao hy;rw[(f3.kid i hi).regs.len];omega) hN,Wni (by have:=f3.buf8;omega) hN,WB (by omega),Wbe (by omega),WcO (by omega),Wig]
 by_cases hl:x.fam.lost=true
 .rw[Wb hl,Wb hl]
 .rw[Wa hl,Wa hl];simp only[ret,Xc,We];cases ho:Wbj x.fam
  .rw[Wa (by simp)];rfl
  .rw[Wb rfl];rfl
theorem Wrg(hk:k<w.roots.length)(aQ:w.roots[k]=x)(hp:POk p)(hx:RLive p n x)(h4:x.phase=4)(hm:W2 w.mem=true):
  Zgj N w.e k=some (((Wo.put (w,WaA w x) k).e,()),()):=by
 obtain⟨g1,g2,g3,g4,g5⟩:=woG hk aQ;obtain⟨r0,r1,r2,r3,r4,r5,r6,r7,r8,jT,ji,im,io,iN,iO,kN,kO,jU,jV,kP,kQ,kR⟩:=rtP x;have hc:=hp.code;obtain⟨z1,z2,z3,z4,z5,z6⟩:=hx.sz hc;have hz:=hx.back (.inr h4);obtain⟨m,q,e1,e2,⟨gS,kS⟩,e4,e5,e6,e7,e8,e9,mx,nh,qi,qj,my⟩:=hx.mk24 hc hz;have ch:=hx.pos h4;have aT:=hx.pc;have hcl:=hc.len;unfold Zgj WaA;simp only[WD];rw[show P5 w.e=w.roots.map Rt.e from rfl,g1,WpK hz (by omega)];simp only[Xc,r4,r5,r6,im,io,WaV,Wfb,show w.e.2.2.1.2=w.mem.2 from rfl];by_cases hlt:x.pos<x.last.2.1
 .rw[Wb hlt,Wb hlt];have hj:x.pos.toNat<x.reads.length:=by omega
  have gV:inb x.pos x.reads.length=true:=by unfold inb;simp;omega
  have hg:Xd x.reads (Xb x.pos) ((0:Int),(0:Int))=Wcl x.reads x.pos (0,0):=rfl;have hv:0<=(Wcl x.reads x.pos (0,0)).1/\(Wcl x.reads x.pos (0,0)).1<=7:=by
   unfold Wcl;rw[Wp hj];exact(hx.reads _ (Xo hj)).1
  rw[gV,hg,Whg hm hv,show Xd w.mem.2 (Xb (Wcl x.reads x.pos (0,0)).1) ((0:Int),((0:Int),(0:Int)))=Wz w.mem (Wcl x.reads x.pos (0,0)).1 from rfl,WcO (by omega)];simp only[We,Wdj];by_cases a:(Wz w.mem (Wcl x.reads x.pos (0,0)).1).2.2=0
  .rw[Wb a];by_cases b:(Wz w.mem (Wcl x.reads x.pos (0,0)).1).2.1>x.rv
   .rw[Wb b,Wb (.inr b)];exact Wdh rfl rfl rfl
   .rw[Wa b,Wa (by omega)];exact Wdh rfl rfl rfl
  .rw[Wa a,Wb (.inl a)];exact Wdh rfl rfl rfl
 .rw[Wa hlt,Wa hlt];have b1:(decide ((0:Int)<=x.last.2.1)&&decide (x.last.2.1<=(x.reads.length:Int)))=true:=by simp;omega
  have b2:(decide ((0:Int)<=x.last.2.2.1)&&decide (x.last.2.2.1<=(x.writes.length:Int)))=true:=by simp;omega
  rw[b1,b2,WdF (by rw[Xan];omega),WdF (by rw[Xan];omega),Wbe (by rw[e9.len];omega),WcO (by omega)];simp only[We,ret,Xc];exact Wdh rfl rfl rfl
theorem Wra(hk:k<w.roots.length)(aQ:w.roots[k]=x)(mw:k<=8)(lB:CmOk x.cm)(hm:W2 w.mem=true)(hh:w.hist.length<=500000)(hN:1048576<N):
  Zgk N w.e (k:Int)=some (((Wo.put (Waf w x k) k).e,()),()):=by
 obtain⟨g1,g2,g3,g4,g5⟩:=woG hk aQ;obtain⟨r0,r1,r2,r3,r4,r5,r6,r7,r8,jT,ji,im,io,iN,iO,kN,kO,jU,jV,kP,kQ,kR⟩:=rtP x;have aM:=WmS lB hm;unfold Zgk Waf;simp only[WD,WgX];rw[show P5 w.e=w.roots.map Rt.e from rfl,g4,g2,WcO (by omega),Xj];simp only[We,r7,jT,jU,show w.e.2.2.1=w.mem from rfl,show Q6 w.e=w.hist from rfl];rw[Wig];by_cases hd:x.doomed=true
 .rw[Wb hd,Wb hd];obtain⟨b,hb⟩:=Ws6 (N:=N) lB hN;rw[hb];simp only[Xc,WH,show(Waa x.cm).e.2.2.1=(Waa x.cm).phase from rfl];by_cases h8:(Waa x.cm).phase=8
  .rw[Wb h8,Wb h8];have:S20 (Waa x.cm).e (S11 false x.e)=Rt.e {x with cm:=Waa x.cm,doomed:=false}:=rfl;rw[this,Wfb];exact Wdh rfl rfl rfl
  .rw[Wa h8,Wa h8];exact Wdh rfl rfl rfl
 .rw[Wa hd,Wa hd,Wms lB hm hN];simp only[Xc];obtain⟨m',c',hq⟩:∃m' c',Ws w.mem x.cm=(m',c'):=⟨_,_,rfl⟩;rw[hq]at aM⊢;simp only at aM⊢;have jS:Zbn N (P5 c'.e)=ret c'.puts:=WdF (by have:=aM.1.plen;show c'.puts.length<=1048576;omega);have hS:S20 c'.e x.e=Rt.e {x with cm:=c'}:=rfl;rw[jS,hS,Wfb];simp only[ret,Xc];rw[WB (by simp;omega)];simp only[We,WH,WaV,show c'.e.2.2.1=c'.phase from rfl,show(Cm.e x.cm).2.2.1=x.cm.phase from rfl,show P4 c'.e=c'.wv from rfl];unfold WaL;simp only;by_cases h3:x.cm.phase<=3
  .rw[Wb h3];by_cases h4:c'.phase=4
   .rw[Wb h4,Wa (by omega),Wa (by omega),Wb (show x.cm.phase<=3/\c'.phase=4 from⟨h3,h4⟩),Wa (by omega),Wa (by omega)];exact Wdh (w':={w with mem:=m',hist:=w.hist++ [(c'.wv,(k:Int)+1,c'.puts)]}) rfl rfl rfl
   .rw[Wa h4,Wa (show¬(x.cm.phase<=3/\c'.phase=4)fromλh=>h4 h.2)];by_cases h8:c'.phase=8
    .rw[Wb h8,Wb h8];exact Wdh (w':={w with mem:=m'}) rfl rfl rfl
    .rw[Wa h8,Wa h8];by_cases h6:c'.phase=6
     .rw[Wb h6,Wb h6];by_cases h2:x.fate=2
      .rw[Wb h2,Wb h2];exact Wdh (w':={w with mem:=m'}) rfl rfl rfl
      .rw[Wa h2,Wa h2];exact Wdh (w':={w with mem:=m'}) rfl rfl rfl
     .rw[Wa h6,Wa h6];exact Wdh (w':={w with mem:=m'}) rfl rfl rfl
  .rw[Wa h3,Wa (show¬(x.cm.phase<=3/\c'.phase=4)fromλh=>h3 h.1)];by_cases h8:c'.phase=8
   .rw[Wb h8,Wb h8];exact Wdh (w':={w with mem:=m'}) rfl rfl rfl
   .rw[Wa h8,Wa h8];by_cases h6:c'.phase=6
    .rw[Wb h6,Wb h6];by_cases h2:x.fate=2
     .rw[Wb h2,Wb h2];exact Wdh (w':={w with mem:=m'}) rfl rfl rfl
     .rw[Wa h2,Wa h2];exact Wdh (w':={w with mem:=m'}) rfl rfl rfl
    .rw[Wa h6,Wa h6];exact Wdh (w':={w with mem:=m'}) rfl rfl rfl
end
end Go.Sx
