/- Plain laws of the Lean functions. -/
import Derived.Test.YtceijnpnofmkkaaGreatMW4
open Int renaming le_refl→Xx,fdiv_eq_ediv_of_nonneg→Xea,toNat_natCast→Xj,toNat→Xb
open List renaming getElem_mem→Xo,getElem?_eq_getElem→Xp,getElem?_set_self→Xev,getElem?_set_ne→Xdu,mem_cons_of_mem→Xe,mem_cons_self→Xg,pairwise_cons→Xv,foldl_cons→Xbb,mem_cons→Xq,mem_of_mem_take→Xca,getD_eq_getElem?_getD→Xap,length_set→Xah,getElem_set→Xau,length_cons→Xr,mem_iff_getElem→Xcv,mem_append→Xn,mem_map→Xw,mem_singleton→Xac,map_cons→Xae,map_nil→Xbt,length→Xa,append→Xf,nil_append→Xbn,set_cons_succ→Xem,set_cons_zero→Xeh,length_nil→Xcm,singleton_append→Xdc,length_take→Xan,getElem_append_left→Xei,take_succ_eq_append_getElem→Xbf,getD→Xd,drop_eq_getElem_cons→Xbm,take→Xaf,drop_zero→Xby,length_append→Xs,drop_drop→Xbs,length_drop→Xcy,append_assoc→Xbo,length_map→Xab,take_left→Xgl,flatten_cons→Xfx,drop_left→Xcq,take_length→Xdm,getElem_map→Xds,mergeSort_perm→Xed,pairwise_iff_getElem→Xak,getElem_take→Xfu,any_eq_true→Xhl,any_append→Xhs,any_cons→Xfs,any_nil→Xhf
open Option renaming bind_some→Xc
open Bool renaming not_true→Xt,eq_false_iff→Xbw,and_self→Xbl,or_false→Xft
open Nat renaming le_refl→Xm,div_lt_iff_lt_mul→Xgu,pow_succ→Xej,and_two_pow_sub_one_eq_mod→Xfj,two_pow_add_eq_or_of_lt→Xfr,pow_le_pow_right→Xgw
namespace Go.Sx
set_option linter.unusedVariables false
set_option linter.unusedSimpArgs false
section
variable{b:Int->Int}{m m':Mm}{H:List Wr}{C:Nat->Option Cm}{k:Nat}{c c':Cm}{o o':Option Cm}{v i x:Int}
def cmO(c:Cm):Option Cm:=if c.phase=6\/c.phase=8 then none else some c
def Wbn(k:Nat)(c:Cm)(q:Cm)(H:List Wr):List Wr:=if c.phase<=3/\q.phase=4 then H++ [(q.wv,(k:Int)+1,q.puts)]else H
theorem Wn4:Weu (Weu C k o) k o'=Weu C k o':=by
 funext j;unfold Weu;split<;>rfl
theorem WlP(h:cmO c=some c'):c'=c/\c.phase≠6/\c.phase≠8:=by
 unfold cmO at h;split at h
 .cases h
 .cases h;exact⟨rfl,by omega,by omega⟩
def Keep(b:Int->Int)(m:Mm)(H:List Wr)(C:Nat->Option Cm)(m':Mm)(H':List Wr)(C':Nat->Option Cm):Prop:=MI b m' H' C'/\∀v i x,RC b m H C v i x->RC b m' H' C' v i x
theorem Keep.k1(h:MI b m H C)(hc:∀c,C k=some c->c.phase≠4/\c.phase≠5)(ho:∀c',o=some c'->c'.phase≠3/\c'.phase≠4/\c'.phase≠5)
  (h1:m'.1=m.1) (hm:∀i,0<=i->i<=7->(Wz m' i).1=(Wz m i).1/\(Wz m' i).2.1=(Wz m i).2.1) (hr:∀k c,C k=some c->CmR c):Keep b m H C m' H (Weu C k o):=
 ⟨h.k1 hc ho h1 hm hr,λv i x hx=>hx.k1 (λc' e=>(ho c' e).1) h1⟩
theorem MI.step(h:MI b m H C)(hl:CL2 m C)(aG:CmOk c)(hm:W2 m=true)(df:m.1<1000000)(hc:C k=some c)(h68:c.phase≠6/\c.phase≠8):
  Keep b m H C (Ws m c).1 (Wbn k c (Ws m c).2 H) (Weu C k (cmO (Ws m c).2)):=by
 have hr:∀k c,C k=some c->CmR c:=λk c e=>(hl k c e).1;have ni:∀d,C k=some d->d=c:=λd e=>by rw[hc]at e;cases e;rfl
 obtain⟨okr,mB,jW⟩:=hl k c hc;have aW:=aG.phase;have aM:c.phase=1\/c.phase=4\/c.phase=5\/c.phase=7->c.steps=c.puts.length:=λhp=>by unfold Cm.steps;rw[Wb hp]
 have h0:=(WF hm).2.1;have back:∀n:Int,c.phase≠4/\c.phase≠5->Keep b m H C m (Wbn k c (W9 c n) H) (Weu C k (cmO (W9 c n))):=λn hp=>by
  have e:Wbn k c (W9 c n) H=H:=by unfold Wbn;rw[Wa (by rcases Wdx c n with e|e<;>omega)]
  rw[e];refine Keep.k1 h (λd hd=>by rw[ni d hd];exact hp) (λd hd=>?_) rfl (λ_ _ _=>⟨rfl,rfl⟩) hr;obtain⟨e,_⟩:=WlP hd;subst e;rcases Wdx c n with e|e<;>omega
 by_cases h1:c.phase=1
 .unfold Ws;simp only;rw[Wb h1];obtain⟨j,hj,e1,e2,e3,e4⟩:=aG.put (by omega);rw[e2];split
  .have hp:(Wv c 2).phase=1\/(Wv c 2).phase=2:=by
    unfold Wv;split
    .right;show WaM c 2=2;unfold WaM;rw[Wa (by omega),Wa (by omega)]
    .left;exact h1
   have e:Wbn k c (Wv c 2) H=H:=by unfold Wbn;rw[Wa (λz=>by have:=z.2;omega)]
   show Keep b m H C _ (Wbn k c (Wv c 2) H) _;rw[e];refine Keep.k1 h (λd hd=>by rw[ni d hd];omega) (λd hd=>?_) rfl (λi a z=>?_) hr
   .obtain⟨e,_⟩:=WlP hd;rw[show d=Wv c 2 from e];omega
   .show(Wz (Wl1 m c.puts[j].1 c.who) i).1=_/\_;unfold Wl1;rw[Wco hm e3 ⟨a,z⟩];split
    .rename_i he;subst he;exact⟨rfl,rfl⟩
    .exact⟨rfl,rfl⟩
  .exact back _ (by omega)
 by_cases h2:c.phase=2
 .have et:tick m=((m.1+1,m.2),m.1+1):=by unfold tick;rw[Wb df]
  unfold Ws;simp only;rw[Wa h1,Wb h2,et];simp only;rw[Wa (by omega)];generalize eU:({c with wv:=m.1+1,phase:=3,pos:=0}:Cm)=c2;have p3:c2.phase=3:=by rw[←eU]
  have pw:c2.wv=m.1+1:=by rw[←eU]
  have pp:c2.puts=c.puts:=by rw[←eU]
  have pwho:c2.who=c.who:=by rw[←eU]
  have k2:MI b (m.1+1,m.2) H (Weu C k (some c2)):=h.k2 hc h2 p3 pw h0;have wU:∀v i x,RC b m H C v i x->RC b (m.1+1,m.2) H (Weu C k (some c2)) v i x:=λv i x hx=>hx.k2 pw;have fR:CL2 (m.1+1,m.2) (Weu C k (some c2)):=λj d hd=>by
   by_cases e:j=k
   .subst e;rw[WaD]at hd;cases hd;have tO:∀i,lkd c2 i↔lkd c i:=λi=>WdK pp λj hj=>by unfold lkA;omega
    refine⟨⟨by rw[pp];exact okr.rows,by rw[pp];exact okr.pup⟩,by rw[pwho];exact mB,λi a z=>?_,λ_=>⟨by rw[pw];exact Xx _,λi hi=>?_⟩⟩
    .rw[pwho,tO];exact jW.own i a z
    .rw[pw];obtain⟨l,cg,a,_⟩:=(tO i).1 hi;have AP:=(okr.rows _ (Xo cg)).1;have hcl:=WeT.1 (WdV hm AP);rw[←a];show(Wz m c.puts[l].1).2.1<=m.1+1;omega
   .rw[W0 e]at hd;obtain⟨a,z,q⟩:=hl j d hd;exact⟨a,z,q.own,λhz=>⟨by have:=(q.ver hz).1;show d.wv<=m.1+1;omega,(q.ver hz).2⟩⟩
  have hq:∀a,WaM {c with wv:=m.1+1} 3=a->WcV {c with wv:=m.1+1} 3={c with wv:=m.1+1,phase:=a,pos:=0}:=λa e=>by unfold WcV;rw[e]
  by_cases ll:c.reads.length=0
  .by_cases kX:c.puts.length=0
   .rw[hq 6 (by unfold WaM;rw[Wb ⟨.inl ⟨rfl,ll⟩,kX⟩])];have e:Wbn k c {c with wv:=m.1+1,phase:=6,pos:=0} H=H:=by unfold Wbn;rw[Wa (λz=>by have:=z.2;simp only at this;omega)]
    have eo:cmO {c with wv:=m.1+1,phase:=6,pos:=0}=none:=by unfold cmO;rw[Wb (.inl rfl)]
    rw[e,eo,←Wn4 (C:=C) (k:=k) (o:=some c2)];refine⟨k2.k1 (λd hd=>?_) (λd hd=>by cases hd) rfl (λ_ _ _=>⟨rfl,rfl⟩) (λj d hd=>(fR j d hd).1),λv i x hx=>(wU v i x hx).k1 (λd hd=>by cases hd) rfl⟩;rw[WaD]at hd;cases hd;omega
   .rw[hq 4 (by unfold WaM;rw[Wa (λz=>kX z.2),Wb ⟨rfl,ll⟩])];have e:Wbn k c {c with wv:=m.1+1,phase:=4,pos:=0} H=H++ [(c2.wv,(k:Int)+1,c2.puts)]:=by unfold Wbn;rw[Wb ⟨by omega,rfl⟩,pw,pp]
    have eo:cmO {c with wv:=m.1+1,phase:=4,pos:=0}=some {c with wv:=m.1+1,phase:=4,pos:=0}:=by unfold cmO;rw[Wa (by simp)]
    rw[e,eo,←Wn4 (C:=C) (k:=k) (o:=some c2)];exact⟨k2.k4 (c':={c with wv:=m.1+1,phase:=4,pos:=0}) fR (by show m.1+1<=1000000;omega) WaD p3 rfl rfl pw.symm pp.symm,λv i x hx=>(wU v i x hx).k4 WaD p3 rfl⟩
  .have e3:WcV {c with wv:=m.1+1} 3=c2:=by
    rw[hq 3 (by unfold WaM;rw[Wa (λz=>by rcases z.1 with y|y;exact ll y.2;omega),Wa (λz=>ll z.2)]),←eU]
   rw[e3];have e:Wbn k c c2 H=H:=by unfold Wbn;rw[Wa (λz=>by have:=z.2;omega)]
   have eo:cmO c2=some c2:=by unfold cmO;rw[Wa (by omega)]
   rw[e,eo];exact⟨k2,wU⟩
 by_cases h3:c.phase=3
 .unfold Ws;simp only;rw[Wa h1,Wa h2,Wb h3];split
  .exact back _ (by omega)
  .by_cases cX:c.pos+1=c.steps
   .have en:Wv c 4={c with phase:=WaM c 4,pos:=0}:=by unfold Wv;rw[Wb cX];rfl
    by_cases kX:c.puts.length=0
    .have ea:WaM c 4=6:=by unfold WaM;rw[Wb ⟨.inr rfl,kX⟩]
     rw[en,ea];have e:Wbn k c {c with phase:=6,pos:=0} H=H:=by unfold Wbn;rw[Wa (λz=>by have:=z.2;simp only at this;omega)]
     have eo:cmO {c with phase:=6,pos:=0}=none:=by unfold cmO;rw[Wb (.inl rfl)]
     show Keep b m H C m (Wbn k c {c with phase:=6,pos:=0} H) (Weu C k (cmO {c with phase:=6,pos:=0}));rw[e,eo];exact Keep.k1 h (λd hd=>by rw[ni d hd];omega) (λd hd=>by cases hd) rfl (λ_ _ _=>⟨rfl,rfl⟩) hr
    .have ea:WaM c 4=4:=by unfold WaM;rw[Wa (λz=>kX z.2),Wa (by omega)]
     rw[en,ea];have e:Wbn k c {c with phase:=4,pos:=0} H=H++ [(c.wv,(k:Int)+1,c.puts)]:=by unfold Wbn;rw[Wb ⟨by omega,rfl⟩]
     have eo:cmO {c with phase:=4,pos:=0}=some {c with phase:=4,pos:=0}:=by unfold cmO;rw[Wa (by simp)]
     show Keep b m H C m (Wbn k c {c with phase:=4,pos:=0} H) (Weu C k (cmO {c with phase:=4,pos:=0}));rw[e,eo];exact⟨h.k4 (c':={c with phase:=4,pos:=0}) hl (by omega) hc h3 rfl rfl rfl rfl,λv i x hx=>hx.k4 hc h3 rfl⟩
   .have en:Wv c 4={c with pos:=c.pos+1}:=by unfold Wv;rw[Wa cX]
    rw[en];have e:Wbn k c {c with pos:=c.pos+1} H=H:=by unfold Wbn;rw[Wa (λz=>by have:=z.2;simp only at this;omega)]
    have eo:cmO {c with pos:=c.pos+1}=some {c with pos:=c.pos+1}:=by unfold cmO;rw[Wa (by simp only;omega)]
    show Keep b m H C m (Wbn k c {c with pos:=c.pos+1} H) (Weu C k (cmO {c with pos:=c.pos+1}));rw[e,eo];exact⟨h.k3 hc h3 h3 rfl,λv i x hx=>hx.k3 hc h3 rfl rfl⟩
 by_cases h4:c.phase=4
 .obtain⟨j,hj,e1,e2,e3,e4⟩:=aG.put (by omega);have hs:=aM (by omega);unfold Ws;simp only;rw[Wa h1,Wa h2,Wa h3,Wb h4,e2];have e:Wbn k c (Wv c 5) H=H:=by unfold Wbn;rw[Wa (λz=>by have:=z.1;omega)]
  obtain⟨p1,p2,p3⟩:=Wa6 c 5;have aW:(Wv c 5).phase=4/\(Wv c 5).pos=(j:Int)+1\/(Wv c 5).phase=5/\(Wv c 5).pos=0/\j+1=c.puts.length:=by
   unfold Wv;split
   .exact .inr ⟨Ws0 c,rfl,by omega⟩
   .exact .inl ⟨h4,by show c.pos+1=_;omega⟩
  have eo:cmO (Wv c 5)=some (Wv c 5):=by unfold cmO;rw[Wa (by omega)]
  show Keep b m H C (WcK m c.puts[j].1 c.who c.puts[j].2) (Wbn k c (Wv c 5) H) (Weu C k (cmO (Wv c 5)));rw[e,eo];refine⟨h.k5 hl hm hc h4 hj e1 p1 p3 aW,λv i x hx=>hx.k1 (λd hd=>by cases hd;omega) ?_⟩;unfold WcK;split<;>rfl
 by_cases h5:c.phase=5
 .obtain⟨j,hj,e1,e2,e3,e4⟩:=aG.put (by omega);have hs:=aM (by omega);unfold Ws;simp only;rw[Wa h1,Wa h2,Wa h3,Wa h4,Wb h5,e2];have e:Wbn k c (Wv c 6) H=H:=by unfold Wbn;rw[Wa (λz=>by have:=z.1;omega)]
  obtain⟨p1,p2,p3⟩:=Wa6 c 6;have ho:(∃c',cmO (Wv c 6)=some c'/\c'.puts=c.puts/\c'.wv=c.wv/\c'.phase=5/\c'.pos=(j:Int)+1)\/(cmO (Wv c 6)=none/\j+1=c.puts.length):=by
   by_cases cX:c.pos+1=c.steps
   .right;have:(Wv c 6).phase=6:=by unfold Wv;rw[Wb cX];exact Wuh c
    exact⟨by unfold cmO;rw[Wb (.inl this)],by omega⟩
   .left;have en:Wv c 6={c with pos:=c.pos+1}:=by unfold Wv;rw[Wa cX]
    refine⟨Wv c 6,by unfold cmO;rw[Wa (by rw[en];simp only;omega)],p1,p3,by rw[en];exact h5,by rw[en];show c.pos+1=_;omega⟩
  show Keep b m H C (WaR m c.puts[j].1 c.who c.wv) (Wbn k c (Wv c 6) H) (Weu C k (cmO (Wv c 6)));rw[e];refine⟨h.k6 hl hm hc h5 hj e1 ho,λv i x hx=>hx.k1 (λd hd=>?_) ?_⟩
  .rcases ho with⟨c',q,_,_,q3,_⟩|⟨q,_⟩
   .rw[q]at hd;cases hd;omega
   .rw[q]at hd;cases hd
  .unfold WaR;split<;>rfl
 .have h7:c.phase=7:=by omega
  obtain⟨j,hj,e1,e2,e3,e4⟩:=aG.put (by omega);unfold Ws;simp only;rw[Wa h1,Wa h2,Wa h3,Wa h4,Wa h5,Wb h7,e2];have e:Wbn k c (W9 c c.pos) H=H:=by unfold Wbn;rw[Wa (λz=>by have:=z.1;omega)]
  show Keep b m H C (WaR m c.puts[j].1 c.who (Wz m c.puts[j].1).2.1) (Wbn k c (W9 c c.pos) H) (Weu C k (cmO (W9 c c.pos)));rw[e];refine Keep.k1 h (λd hd=>by rw[ni d hd];omega) (λd hd=>?_) (by unfold WaR;split<;>rfl) (λi a z=>?_) hr
  .obtain⟨e,_⟩:=WlP hd;subst e;rcases Wdx c c.pos with e|e<;>omega
  .unfold WaR;split
   .rw[Wco hm e3 ⟨a,z⟩];split
    .rename_i he;subst he;exact⟨rfl,rfl⟩
    .exact⟨rfl,rfl⟩
   .exact⟨rfl,rfl⟩
end
section
variable{b:Int->Int}{s:Sc}{w v:Wo}{n:Int}{x y:Rt}{k:Nat}{p:Pg}{o:Opn}{a:Ac}
def cmX(x:Rt):Option Cm:=if x.phase=5 then some x.cm else none
def WfT(l:List Rt)(k:Nat):Option Cm:=(l[k]?).bind cmX
theorem Wpe(h:k<w.roots.length):WfT w.roots k=cmX w.roots[k]:=by unfold WfT;rw[Xp h];rfl
theorem WpT{l:List Rt}(h:k<l.length):WfT (l.set k y)=Weu (WfT l) k (cmX y):=by
 funext j;unfold WfT Weu;by_cases e:j=k
 .subst e;rw[Wb rfl,Xev h];rfl
 .rw[Wa e,Xdu (λz=>e z.symm)]
theorem Wk7{c:Cm}(h:cmX x=some c):x.phase=5/\c=x.cm:=by
 unfold cmX at h;split at h
 .cases h;exact⟨‹_›,rfl⟩
 .cases h
theorem Wi4{l:List Rt}{c:Cm}(h:WfT l k=some c):∃hk:k<l.length,l[k].phase=5/\c=l[k].cm:=by
 by_cases hk:k<l.length
 .unfold WfT at h;rw[Xp hk]at h;exact⟨hk,Wk7 h⟩
 .unfold WfT at h;rw[List.getElem?_eq_none (by omega)]at h;cases h
theorem WxZ(h:WOk s.2.1 n w)(hl:LX w):CL2 w.mem (WfT w.roots):=λk c hc=>by
 obtain⟨hk,h5,e⟩:=Wi4 hc;subst e;exact⟨((h.root k hk).comm h5).r,((hl.root k hk).cm h5).1,((hl.root k hk).cm h5).2⟩
structure RN(w:Wo)(x:Rt)(q:Wo×Rt):Prop where
 mem:q.1.mem=w.mem
 hist:q.1.hist=w.hist
 cm:q.2.phase=5->q.2.cm.phase=1\/q.2.cm.phase=2
theorem Wde{q:Wo×Rt}(h1:q.1.mem=w.mem)(h2:q.1.hist=w.hist)(h5:q.2.phase≠5):RN w x q:=⟨h1,h2,λh=>Wi h h5⟩
theorem WmH{out:Int}:RN w x (WaC w x k out):=by
 unfold WaC;simp only;generalize (if out=2 then []else x.writes)=rows;split
 .exact Wde rfl rfl (by show(8:Int)≠5;omega)
 .refine⟨rfl,rfl,λ_=>?_⟩;show(Wbl ((k:Int)+1) x.rv rows x.reads).phase=1\/_;unfold Wbl;simp only;split<;>simp
theorem WpQ(h5:x.phase≠5):RN w x (WW w x k p):=by
 have cf:∀z:Rt,(WR z).phase≠5:=λz=>Wc8.2.1;unfold WW;split
 .exact Wde rfl rfl (by show(6:Int)≠5;omega)
 split
 .unfold Wds;split
  .exact Wde rfl rfl h5
  .split
   .exact Wde rfl rfl h5
   .split
    .exact Wde rfl rfl h5
    .exact Wde rfl rfl (by show(1:Int)≠5;omega)
 split
 .rename_i h1;unfold Wgk;split
  .exact WmH
  .simp only;generalize opN p.1 x.pc=o;split
   .exact Wde rfl rfl (WlD h1).2.1
   .split
    .unfold Wb0;split
     .exact WmH
     .split
      .exact Wde rfl rfl h5
      .exact Wde rfl rfl h5
    .split
     .exact Wde rfl rfl (by show(2:Int)≠5;omega)
     .split
      .unfold WbO;cases WaX w.holds ((k:Int)+1) (WaH o).1 (WaH o).2 with
       |none=>exact Wde rfl rfl (cf _)
       |some hs=>exact Wde rfl rfl h5
      .repeat' split
       all_goals exact Wde rfl rfl h5
 split
 .refine Wde rfl rfl ?_;show(WbR x).phase≠5;unfold WbR;split
  .show(6:Int)≠5;omega
  .split
   .show(1:Int)≠5;omega
   .exact h5
 split
 .unfold Wa1;split
  .exact Wde rfl rfl h5
  .exact Wde rfl rfl (by show(4:Int)≠5;omega)
 split
 .refine Wde rfl rfl ?_;show(WaA w x).phase≠5;unfold WaA;simp only;split
  .split
   .show(6:Int)≠5;omega
   .exact h5
  .show(1:Int)≠5;omega
 split
 .split
  .exact Wde rfl rfl h5
  .exact Wde rfl rfl (by show(7:Int)≠5;omega)
 split
 .split
  .exact Wde rfl rfl (by show(0:Int)≠5;omega)
  .exact Wde rfl rfl (by show(8:Int)≠5;omega)
 .exact Wde rfl rfl h5
theorem Wp4(h5:x.phase=5)(hd:x.doomed=false):(WW w x k p).1.mem=(Ws w.mem x.cm).1/\(WW w x k p).1.hist=Wbn k x.cm (Ws w.mem x.cm).2 w.hist/\(WW w x k p).2=WaL {x with cm:=(Ws w.mem x.cm).2}:=by
 have e:WW w x k p=Waf w x k:=by
  unfold WW;rw[Wa (by omega),Wa (by omega),Wa (by omega),Wa (by omega),Wa (by omega),Wa (by omega),Wb h5]
 rw[e];unfold Waf;rw[Wa (by rw[hd];simp)];exact⟨rfl,rfl,rfl⟩
theorem Wwh{z:Rt}(h:z.phase≠5):cmX z=none:=by unfold cmX;rw[Wa h]
theorem Wvo(c:Cm):cmX (WaL {x with cm:=c,phase:=5})=cmO c:=by
 by_cases h8:c.phase=8
 .have e:cmO c=none:=by unfold cmO;rw[Wb (.inr h8)]
  rw[e];unfold WaL;rw[Wb h8];exact Wwh (by show(6:Int)≠5;omega)
 .by_cases h6:c.phase=6
  .have e:cmO c=none:=by unfold cmO;rw[Wb (.inl h6)]
   rw[e];unfold WaL;rw[Wa h8,Wb h6];exact Wwh (by show(if x.fate=2 then(6:Int)else 7)≠5;split<;>omega)
  .have e:cmO c=some c:=by unfold cmO;rw[Wa (by omega)]
   rw[e];unfold WaL;rw[Wa h8,Wa h6];rfl
def WwK(b:Int->Int)(w v:Wo):Prop:=Keep b w.mem w.hist (WfT w.roots) v.mem v.hist (WfT v.roots)
theorem WdH{l:List Rt}(h:MI b w.mem w.hist (WfT w.roots))(e:WfT l=WfT w.roots):Keep b w.mem w.hist (WfT w.roots) w.mem w.hist (WfT l):=by
 rw[e];exact⟨h,λ_ _ _ hx=>hx⟩
theorem WvM{q:Wo×Rt}(h:WOk s.2.1 n w)(hl:LX w)(hx:WX w)(ht:WT w)(hn:n<1000000)(hM:MI b w.mem w.hist (WfT w.roots))(hk:k<w.roots.length)(hq:q=WW {w with now:=w.now+1} w.roots[k] k p)(hr:q.1.roots=w.roots):WwK b w (Wo.put q k):=by
 have hcl:=WxZ h hl;have df:w.mem.1<1000000:=by have:=ht.clk;have:=h.now;omega
 unfold WwK;show Keep b w.mem w.hist (WfT w.roots) q.1.mem q.1.hist (WfT (q.1.roots.set k q.2));rw[hr,WpT hk];have q9:=hx k hk;have hCk:=Wpe (w:=w) hk;by_cases h5:w.roots[k].phase=5
 .have hC:WfT w.roots k=some w.roots[k].cm:=by rw[hCk];unfold cmX;rw[Wb h5]
  have jS:=(ht.root k hk).cm h5;by_cases hd:w.roots[k].doomed=false
  .obtain⟨e1,e2,e3⟩:=Wp4 (w:={w with now:=w.now+1}) (x:=w.roots[k]) (k:=k) (p:=p) h5 hd;rw[hq,e1,e2,e3];have ex:({w.roots[k]with cm:=(Ws w.mem w.roots[k].cm).2}:Rt)={w.roots[k]with cm:=(Ws w.mem w.roots[k].cm).2,phase:=5}:=by rw[←h5]
   show Keep b w.mem w.hist (WfT w.roots) (Ws w.mem w.roots[k].cm).1 (Wbn k w.roots[k].cm (Ws w.mem w.roots[k].cm).2 w.hist) (Weu (WfT w.roots) k (cmX (WaL {w.roots[k]with cm:=(Ws w.mem w.roots[k].cm).2})));rw[ex,Wvo];exact hM.step hcl ((h.root k hk).comm h5) h.mem df hC jS
  .have cZ:w.roots[k].doomed=true:=by simpa using hd
   have tq:w.roots[k].cm.phase<=3:=by
    rcases q9.doom cZ with e|e
    .omega
    .exact e.2
   have mF:=((h.root k hk).comm h5).phase;have e:WW {w with now:=w.now+1} w.roots[k] k p=({w with now:=w.now+1},if(Waa w.roots[k].cm).phase=8 then Wdf w.roots[k]else{w.roots[k]with cm:=Waa w.roots[k].cm,doomed:=false}):=by
    unfold WW;rw[Wa (by omega),Wa (by omega),Wa (by omega),Wa (by omega),Wa (by omega),Wa (by omega),Wb h5];unfold Waf;rw[Wb cZ]
   rw[hq,e];refine Keep.k1 hM (λd gQ=>by rw[hC]at gQ;cases gQ;omega) (λd gQ=>?_) rfl (λ_ _ _=>⟨rfl,rfl⟩) (λj d e=>(hcl j d e).1);obtain⟨f1,f2⟩:=Wk7 gQ;by_cases h8:(Waa w.roots[k].cm).phase=8
   .simp only[Wb h8]at f1;exact Wi (show(6:Int)=5 from f1) (by omega)
   .simp only[Wa h8]at f2;have:d=Waa w.roots[k].cm:=f2;rw[this];unfold Waa at h8⊢;split
    .rcases Wdx w.roots[k].cm w.roots[k].cm.pos with e|e<;>omega
    .split
     .rcases Wdx w.roots[k].cm w.roots[k].cm.puts.length with e|e<;>omega
     .omega
 .have hC:WfT w.roots k=none:=by rw[hCk];unfold cmX;rw[Wa h5]
  obtain⟨r1,r2,r3⟩:=WpQ (w:={w with now:=w.now+1}) (k:=k) (p:=p) h5;rw[hq,r1,r2];refine Keep.k1 hM (λd gQ=>by rw[hC]at gQ;cases gQ) (λd gQ=>?_) rfl (λ_ _ _=>⟨rfl,rfl⟩) (λj d e=>(hcl j d e).1);obtain⟨f1,f2⟩:=Wk7 gQ;have:=r3 f1;rw[f2];omega
theorem Wsb(h:WOk s.2.1 n w)(hl:LX w)(hx:WX w)(ht:WT w)(hn:n<1000000)(hM:MI b w.mem w.hist (WfT w.roots)):WwK b w (Wcw s w a):=by
 have same:∀(k:Nat) (hk:k<w.roots.length) (y:Rt),cmX y=cmX w.roots[k]->WfT (w.roots.set k y)=WfT w.roots:=λk hk y e=>by
  rw[WpT hk,e,←Wpe hk];funext j;unfold Weu;split
  .rename_i e;rw[e]
  .rfl
 unfold Wcw;simp only;split
 .rename_i hb;have hk:a.2.1.toNat<w.roots.length:=by omega
  rw[Wp hk];split
  .unfold WiC;rw[Wp (show a.2.1.toNat<({w with now:=w.now+1}:Wo).roots.length from hk)];exact WvM h hl hx ht hn hM hk rfl (WhU h hk)
  .split
   .split
    .exact WdH hM (same _ hk _ rfl)
    .exact WdH hM rfl
   .split
    .split
     .exact WdH hM (same _ hk _ rfl)
     .exact WdH hM rfl
    .exact WdH hM rfl
 .exact WdH hM rfl
end
section
variable{b:Int->Int}{s:Sc}{w v:Wo}{n:Int}{x y:Rt}{k:Nat}{p:Pg}{o:Opn}{a:Ac}{m m':Mm}{H H':List Wr}{C:Nat->Option Cm}{c:Cm}{i:Int}
structure Mono(b:Int->Int)(m:Mm)(H:List Wr)(m':Mm)(H':List Wr):Prop where
 ver:∀i,0<=i->i<=7->(Wz m i).2.1<=(Wz m' i).2.1
 top:∀i,(top (b i) i H).1<(top (b i) i H').1\/top (b i) i H'=top (b i) i H
theorem Mono.refl:Mono b m H m H:=⟨λ_ _ _=>Xx _,λ_=>.inr rfl⟩
structure PBs(b:Int->Int)(m:Mm)(H:List Wr)(x:Rt):Prop where
 cell:x.busy=true->0<=x.pb.1/\x.pb.1<=7
 rv:x.busy=true->x.pb.2.2.1<=x.rv
 one:x.busy=true->x.pb.2.1=1->x.pb.2.2.1<=(Wz m x.pb.1).2.1
 two:x.busy=true->x.pb.2.1=2->x.pb.2.2.1<=(top (b x.pb.1) x.pb.1 H).1/\((top (b x.pb.1) x.pb.1 H).1=x.pb.2.2.1->x.pb.2.2.2=(top (b x.pb.1) x.pb.1 H).2)
theorem PBs.no(h:x.busy=false):PBs b m H x:=⟨λe=>(by rw[h]at e;cases e),λe=>(by rw[h]at e;cases e),λe=>(by rw[h]at e;cases e),λe=>(by rw[h]at e;cases e)⟩
theorem PBs.mono(h:PBs b m H x)(hm:Mono b m H m' H'):PBs b m' H' x:=by
 refine⟨h.cell,h.rv,λe h1=>?_,λe h2=>?_⟩
 .have:=h.cell e;have:=h.one e h1;have:=hm.ver x.pb.1 (by omega) (by omega);omega
 .obtain⟨a,d⟩:=h.two e h2;rcases hm.top x.pb.1 with t|t
  .exact⟨by omega,λz=>by omega⟩
  .rw[t];exact⟨a,d⟩
end
section
def lst:List Rw->Int->Option Int
 | [],_=>none
 |r::l,c=>match lst l c with
  |some v=>some v
  |none=>if r.1=c then some r.2 else none
theorem Wht{l:List Rw}(h:WdN l)(hl:l.length<=300):Wav l=true:=by
 unfold Wav;rw[Bool.and_eq_true];exact⟨Wf hl,Wic.2 h⟩
theorem Wo4{c v:Int}:∀{l:List Rw},lst l c=some v->(c,v)∈l
 | [],h=>by cases h
 |r::l,h=>by
  rw[lst]at h;cases hl:lst l c with
  |some w=>rw[hl]at h;cases h;exact Xe _ (Wo4 hl)
  |none=>
   rw[hl]at h;by_cases hc:r.1=c
   .simp only[Wb hc]at h;cases h;rw[←hc];exact Xg ..
   .simp only[Wa hc]at h;cases h
theorem Wui{c:Int}{e:En}:∀{rows:List Rw} {b:List En},Ris cfE b->rows.Pairwise (λa b=>a.1<b.1)->
  (e∈WbX c b rows↔(∃r∈rows,e=(r.1,r.2,c))\/(e∈b/\∀r∈rows,r.1≠e.1))
 | [],b,_,_=>by unfold WbX;simp
 |r::rows,b,hb,hr=>by
  obtain⟨kd,gX⟩:=Xv.1 hr;have:=Wui (c:=c) (e:=e) (rows:=rows) (b:=Wdt cfE b (r.1,r.2,c)) (Wb4 Wvw hb) gX;unfold WbX at this⊢;rw[Xbb,this,Wbm Wvw hb];constructor
  .rintro(⟨r',h1,h2⟩|⟨h1|⟨h1,h2⟩,h3⟩)
   .exact .inl ⟨r',Xe _ h1,h2⟩
   .exact .inl ⟨r,Xg ..,h1⟩
   .refine .inr ⟨h1,λr' bK=>?_⟩;rcases Xq.1 bK with rfl|bK
    .rw[apE]at h2;exactλq=>h2 q.symm
    .exact h3 r' bK
  .rintro(⟨r',h1,h2⟩|⟨h1,h2⟩)
   .rcases Xq.1 h1 with rfl|h1
    .refine .inr ⟨.inl h2,λr'' wV=>?_⟩;have:=kd r'' wV;rw[h2];simp only;omega
    .exact .inl ⟨r',h1,h2⟩
   .refine .inr ⟨.inr ⟨h1,?_⟩,λr' bK=>h2 r' (Xe _ bK)⟩;rw[apE];exactλq=>h2 r (Xg ..) q.symm
def Wus(f:Fm)(k:Int):List Rw:=(f.kids.getD k.toNat {}).writes
def WcJ(f:Fm)(n:Nat):List Rw:=f.start++((f.order.take n).map (Wus f)).flatten
theorem WnF{f f':Fm}{n:Nat}(hs:f'.start=f.start)(ho:f'.order.take n=f.order.take n)(hw:∀k∈f.order,Wus f' k=Wus f k):WcJ f' n=WcJ f n:=by
 unfold WcJ;rw[hs,ho];congr 2;exact List.map_congr_left λk hk=>hw k (Xca hk)
def SN(M:Int->Int->Prop)(f:Fm)(x:Kd):Prop:=∀e∈x.seen,
 (e.2.2= -1/\lst (WcJ f x.since.toNat) e.1=none/\M e.1 e.2.1)\/
 (0<=e.2.2/\e.2.2<=x.since/\lst (WcJ f e.2.2.toNat) e.1=some e.2.1/\lst (WcJ f x.since.toNat) e.1=some e.2.1)
structure FT(M:Int->Int->Prop)(f:Fm):Prop where
 buf:∀e∈f.buf,∀n:Nat,e.2.2<=(n:Int)->n<=f.order.length->lst (WcJ f n) e.1=some e.2.1
 non:∀c:Int,0<=c->c<=7->(∀e∈f.buf,e.1≠c)->∀n:Nat,n<=f.order.length->lst (WcJ f n) c=none
 sn:∀(k:Nat) (h:k<f.kids.length),SN M f f.kids[k]
 nod:f.order.Nodup
 ord:∀k∈f.order,0<=k/\∃h:k.toNat<f.kids.length,f.kids[k.toNat].phase=3
theorem FT.wk{M M':Int->Int->Prop}{f:Fm}(h:FT M f)(hM:∀c v,M c v->M' c v):FT M' f:=
 ⟨h.buf,h.non,λk hk e he=>(h.sn k hk e he).imp (λ⟨a,b,c⟩=>⟨a,b,hM _ _ c⟩) id,h.nod,h.ord⟩
section
variable{M:Int->Int->Prop}{N:Nat}{codes:List (List Opn)}{n:Int}{f:Fm}{k:Nat}{code:List Opn}{m:Mm}{x y:Kd}
theorem WyZ(hk:k<f.kids.length):f.kids.getD k {}=f.kids[k]:=by rw[Xap,Xp hk];rfl
theorem FT.put(h:FT M f)(hk:k<f.kids.length)(hp:f.kids[k].phase≠3){g:Fm}(hs:g.start=f.start)(ho:g.order=f.order)(hb:g.buf=f.buf)(hg:g.kids=f.kids.set k y)(hy:SN M f y):FT M g:=by
 have hw:∀j∈f.order,Wus g j=Wus f j:=λj hj=>by
  obtain⟨j0,j1,j2⟩:=h.ord j hj;unfold Wus;have hne:k≠j.toNat:=λe=>by subst e;exact hp j2
  rw[hg,Xap,Xap,Xdu hne]
 have hr:∀n,WcJ g n=WcJ f n:=λn=>WnF hs (by rw[ho]) hw;refine⟨λe he n h1 h2=>?_,λc c0 c7 hc n hn=>?_,λj hj e he=>?_,by rw[ho];exact h.nod,λj hj=>?_⟩
 .rw[hr];exact h.buf e (by rw[←hb];exact he) n h1 (by rw[←ho];exact h2)
 .rw[hr];exact h.non c c0 c7 (by rw[←hb];exact hc) n (by rw[←ho];exact hn)
 .rw[hr,hr];have hj':j<f.kids.length:=by rw[hg,Xah]at hj;exact hj
  have bP:g.kids[j]=if k=j then y else f.kids[j]:=by simp only[hg,Xau]
  rw[bP]at he⊢;split at he
  .rename_i e1;rw[Wb e1];exact hy e he
  .rename_i e1;rw[Wa e1];exact h.sn j hj' e he
 .rw[ho]at hj;obtain⟨j0,j1,j2⟩:=h.ord j hj;refine⟨j0,by rw[hg,Xah];exact j1,?_⟩;simp only[hg,Xau];split
  .rename_i e;subst e;exact Wi j2 hp
  .exact j2
theorem SN.nil(h:x.seen= []):SN M f x:=λe he=>by rw[h]at he;cases he
theorem SN.same(h:SN M f x)(hs:y.seen=x.seen)(hq:y.since=x.since):SN M f y:=λe he=>by rw[hq];exact h e (by rw[←hs];exact he)
theorem Wwc{r:Rw}:∀{l:List Rw},l.Pairwise (λa b=>a.1<b.1)->r∈l->lst l r.1=some r.2
 | [],_,h=>by cases h
 |a::l,hp,hm=>by
  obtain⟨p1,p2⟩:=Xv.1 hp;rw[lst];rcases Xq.1 hm with rfl|hm
  .cases hl:lst l r.1 with
   |some v=>have:=p1 _ (Wo4 hl);simp only at this;omega
   |none=>simp
  .rw[Wwc p2 hm]
end
end
section
noncomputable def mt(l:List Opn)(m:Nat):Nat:=@dite _ (∃k,Mate l m k) (Classical.propDecidable _) (λh=>Classical.choose h) λ_=>0
abbrev Mk:=Int×Int×List Int
structure KS where
 regs:List Int
 cells:List Int
 log:List Rw
 back:Int
 marks:List Mk
 reads:List Int
def zMk:Mk:=(0,0,[])
def Wwz(s:KS):Mk:=s.marks.getD (s.marks.length-1) zMk
def WyB(l:List Opn)(i:Nat):Opn:=l.getD i (0,0,0,0)
noncomputable def Wxy(l:List Opn)(pc:Nat)(s:KS)(o:Opn):Bool×Nat×KS:=
 bif o.1==5 then(true,pc+1,{s with regs:=s.regs.set o.2.1.toNat (s.cells.getD o.2.2.1.toNat 0),reads:=bif s.log.any (λr=>r.1==o.2.2.1)then s.reads else s.reads++ [o.2.2.1]})else
 bif o.1==6 then(true,pc+1,{s with cells:=s.cells.set o.2.1.toNat (s.regs.getD o.2.2.1.toNat 0),log:=s.log++ [(o.2.1,s.cells.getD o.2.1.toNat 0)]})else
 bif o.1==7 then(true,bif s.regs.getD o.2.1.toNat 0==0 then pc+1+o.2.2.1.toNat else pc+1,s)else
 bif o.1==8 then(true,pc+1,{s with marks:=s.marks++ [((pc:Int),(s.log.length:Int),s.regs)]})else
 bif o.1==9 then(true,pc+1,{s with marks:=s.marks.take (s.marks.length-1),regs:=s.regs.set (WyB l (Wwz s).1.toNat).2.1.toNat 1})else
 bif o.1==10 then
  (bif s.marks.isEmpty then(false,pc,{s with cells:=Wy2 s.cells s.log,log:=[],back:=s.back+s.log.length})
  else(true,mt l (Wwz s).1.toNat+1,{s with cells:=Wy2 s.cells (s.log.drop (Wwz s).2.1.toNat),log:=s.log.take (Wwz s).2.1.toNat,back:=s.back+s.log.length-(Wwz s).2.1,marks:=s.marks.take (s.marks.length-1),regs:=(Wwz s).2.2.set (WyB l (Wwz s).1.toNat).2.1.toNat 0}))
 else(true,pc+1,{s with regs:=Wo3 o s.regs})
noncomputable def Wvp(l:List Opn)(pc:Nat)(s:KS):Bool×Nat×KS:=Wxy l pc s (WyB l pc)
structure KI(l:List Opn)(pc:Nat)(s:KS):Prop where
 pcl:pc<=l.length
 rg:Vals 4 s.regs
 cl:Vals 8 s.cells
 lg:WdN s.log/\s.log.length<=pc
 mp:s.marks.map (·.1)=(stk l pc).map λm:Nat=>(m:Int)
 mr:∀m∈s.marks,Vals 4 m.2.2/\0<=m.2.1/\m.2.1<=s.log.length
 mo:s.marks.Pairwise λa b=>a.2.1<=b.2.1
 bk:0<=s.back/\s.back<=24*pc
 rd:s.reads.length<=pc/\∀x∈s.reads,0<=x/\x<=7
section
variable{l:List Opn}{pc:Nat}{s:KS}
end
noncomputable def WxH(l:List Opn):Nat->Nat->KS->Bool×KS
 |0,_,s=>(false,s)
 |n+1,pc,s=>bif decide (pc<l.length)then(bif (Wvp l pc s).1 then WxH l n (Wvp l pc s).2.1 (Wvp l pc s).2.2 else(true,(Wvp l pc s).2.2))else(false,s)
def ks0(regs cells:List Int):KS:=⟨regs,cells,[],0,[],[]⟩
section
variable{N:Nat}{l:List Opn}{regs cells:List Int}
end
section
variable{N:Nat}{l:List Opn}{R:Type}
end
end
section
def ovl(c:List Int)(rows:List Rw):List Int:=rows.foldl (λc r=>c.set r.1.toNat r.2) c
theorem WlY:∀{l:List Rw} {c:List Int},Vals 8 c->WdN l->Vals 8 (ovl c l)
 | [],c,h,_=>h
 |r::l,c,h,hr=>WlY (l:=l) (h.set r.1.toNat (hr r (Xg ..)).2) λx hx=>hr x (Xe _ hx)
theorem WoT{c:Int}:∀{l:List Rw} {A:List Int},Vals 8 A->WdN l->0<=c->c<=7->(ovl A l).getD c.toNat 0=match lst l c with|some v=>v|none=>A.getD c.toNat 0
 | [],A,_,_,_,_=>rfl
 |r::l,A,hA,hr,h0,h7=>by
  have ll:=hr r (Xg ..);have ih:=WoT (c:=c) (l:=l) (A:=A.set r.1.toNat r.2) (hA.set r.1.toNat ll.2) (λx hx=>hr x (Xe _ hx)) h0 h7;show(ovl (A.set r.1.toNat r.2) l).getD c.toNat 0=_;rw[ih,lst];cases lst l c with
  |some v=>rfl
  |none=>
   simp only;by_cases hc:r.1=c
   .rw[Wb hc,←hc,Xap,Xev (by rw[hA.len];omega)];rfl
   .rw[Wa hc,Xap,Xap,Xdu (by omega)]
def Wy0:List Int->List Rw->List Rw
 |_,[]=>[]
 |A,r::l=>(r.1,A.getD r.1.toNat 0)::Wy0 (A.set r.1.toNat r.2) l
structure EM(A:List Int)(x:Kd)(s:KS):Prop where
 regs:s.regs=x.regs
 cells:s.cells=ovl A x.writes
 log:s.log=Wy0 A x.writes
 marks:s.marks=x.marks
def Sim(code:List Opn)(r0:List Int)(x:Kd):Prop:=∀A:List Int,Vals 8 A->(∀e∈x.seen,A.getD e.1.toNat 0=e.2.1)->∀F:Nat,25<=F->
 (x.phase=0/\∃(j:Nat) (s:KS),(j:Int)<=x.pc/\EM A x s/\KI code x.pc.toNat s/\WxH code F 0 (ks0 r0 A)=WxH code (F-j) x.pc.toNat s)\/
 (x.phase≠0/\((x.out=1/\∃s:KS,s.regs=x.regs/\s.cells=ovl A x.writes/\WxH code F 0 (ks0 r0 A)=(false,s))\/(x.out=2/\x.writes= []/\∃s,s.cells=A/\WxH code F 0 (ks0 r0 A)=(true,s))))
section
variable{M:Int->Int->Prop}{N:Nat}{codes:List (List Opn)}{n:Int}{f:Fm}{k:Nat}{code:List Opn}{m:Mm}{x y:Kd}{r0:List Int}
theorem Sim.same(h:Sim code r0 x)(h0:y.phase=x.phase)(hp:y.pc=x.pc)(hg:y.regs=x.regs)(hw:y.writes=x.writes)(hm:y.marks=x.marks)(hs:y.seen=x.seen)(ho:y.out=x.out):Sim code r0 y:=λA hA qu F hF=>by
 rcases h A hA (λe he=>qu e (by rw[hs];exact he)) F hF with⟨a,j,s,b,c,d,e⟩|⟨a,⟨b,s,c,c',d⟩|⟨b,c,s,d,e⟩⟩
 .exact .inl ⟨by rw[h0];exact a,j,s,by rw[hp];exact b,⟨by rw[hg];exact c.regs,by rw[hw];exact c.cells,by rw[hw];exact c.log,by rw[hm];exact c.marks⟩,by rw[hp];exact d,by rw[hp];exact e⟩
 .exact .inr ⟨by rw[h0];exact a,.inl ⟨by rw[ho];exact b,s,by rw[hg];exact c,by rw[hw];exact c',d⟩⟩
 .exact .inr ⟨by rw[h0];exact a,.inr ⟨by rw[ho];exact b,by rw[hw];exact c,s,d,e⟩⟩
theorem EM.cell{A:List Int}{s:KS}(h:EM A x s)(hA:Vals 8 A)(hr:WdN x.writes){c:Int}(h0:0<=c)(h7:c<=7):s.cells.getD c.toNat 0=match lst x.writes c with|some v=>v|none=>A.getD c.toNat 0:=by
 rw[h.cells,WoT hA hr h0 h7]
end
end
section
section
variable{M:Int->Int->Prop}{N:Nat}{codes:List (List Opn)}{n:Int}{f g:Fm}{k:Nat}{code:List Opn}{m:Mm}{x y:Kd}{r0:List Int}
def VL(f:Fm)(x:Kd):Prop:=∀j:Nat,(j:Int)<x.pos->∀h:j<x.seen.length,Wv6 f.buf x.seen[j].1=x.seen[j].2.2
structure FV(M:Int->Int->Prop)(codes:List (List Opn))(f:Fm):Prop where
 sim:∀(k:Nat) (h:k<f.kids.length),Sim (codes.getD k []) f.regs f.kids[k]
 own:∀(k:Nat) (h:k<f.kids.length),f.kids[k].phase=2->f.owner=(k:Int)+1
 val:∀(k:Nat) (h:k<f.kids.length),f.kids[k].phase=2->VL f f.kids[k]
 pz:∀(k:Nat) (h:k<f.kids.length),f.kids[k].phase≠2->f.kids[k].pos=0
 mrg:∀(i:Nat) (h:i<f.order.length),∀e∈(f.kids.getD f.order[i].toNat {}).seen,lst (WcJ f i) e.1=some e.2.1\/(lst (WcJ f i) e.1=none/\M e.1 e.2.1)
theorem FV.put(hv:FV M codes f)(h:FT M f)(hk:k<f.kids.length)(hp:f.kids[k].phase≠3)(hs:g.start=f.start)(ho:g.order=f.order)(hb:g.buf=f.buf)(hg:g.kids=f.kids.set k y)(hr:g.regs=f.regs)
  (wW:Sim (codes.getD k []) f.regs y) (hown:∀(j:Nat) (hj:j<f.kids.length),j≠k->f.kids[j].phase=2->g.owner=(j:Int)+1) (hy:y.phase=2->g.owner=(k:Int)+1/\VL f y) (AQ:y.phase≠2->y.pos=0):FV M codes g:=by
 have bP:∀(j:Nat) (hj:j<g.kids.length) (hj':j<f.kids.length),g.kids[j]=if k=j then y else f.kids[j]:=λj hj hj'=>by simp only[hg,Xau]
 have hlen:g.kids.length=f.kids.length:=by rw[hg,Xah]
 have hne:∀j∈f.order,k≠j.toNat:=λj hj e=>by
  obtain⟨j0,j1,j2⟩:=h.ord j hj;subst e;exact hp j2
 have nA:∀j∈f.order,g.kids.getD j.toNat {}=f.kids.getD j.toNat {}:=λj hj=>by
  rw[hg,Xap,Xap,Xdu (hne j hj)]
 have jn:∀n,WcJ g n=WcJ f n:=λn=>WnF hs (by rw[ho]) λj hj=>by unfold Wus;rw[nA j hj]
 refine⟨λj hj=>?_,λj hj eV=>?_,λj hj eV=>?_,λj hj eV=>?_,λi hi e he=>?_⟩
 .rw[bP j hj (by omega),hr];split
  .rename_i e;subst e;exact wW
  .exact hv.sim j (by omega)
 .rw[bP j hj (by omega)]at eV;split at eV
  .rename_i e;subst e;exact(hy eV).1
  .rename_i e;exact hown j (by omega) (λq=>e q.symm) eV
 .rw[bP j hj (by omega)]at eV⊢;unfold VL;rw[hb];split at eV
  .rename_i e;rw[Wb e];exact(hy eV).2
  .rename_i e;rw[Wa e];exact hv.val j (by omega) eV
 .rw[bP j hj (by omega)]at eV⊢;split at eV
  .rename_i e;rw[Wb e];exact AQ eV
  .rename_i e;rw[Wa e];exact hv.pz j (by omega) eV
 .have gz:i<f.order.length:=by rw[←ho];exact hi
  have e1:g.order[i]=f.order[i]:=by simp only[ho]
  rw[e1,nA _ (Xo gz)]at he;rw[jn];exact hv.mrg i gz e he
end
end
section
section
variable{M:Int->Int->Prop}{Z:Pb->Prop}{N:Nat}{codes:List (List Opn)}{n:Int}{f g:Fm}{k:Nat}{code:List Opn}{m:Mm}{x y:Kd}{rv:Int}
def PK(Z:Pb->Prop)(code:List Opn)(f:Fm)(x:Kd):Prop:=x.busy=true->x.phase=0/\x.pc<code.length/\(opN code x.pc).1=5/\Z x.pb/\x.pb.1=(opN code x.pc).2.2.1/\Wbv x.writes (opN code x.pc).2.2.1=none/\∀e∈f.buf,e.1=(opN code x.pc).2.2.1->x.since<e.2.2
theorem PK.no(h:x.busy=false):PK Z code f x:=λe=>by rw[h]at e;cases e
theorem PK.buf(h:PK Z code f x)(hb:g.buf=f.buf\/∃rows,rows.Pairwise (λa b:Rw=>a.1<b.1)/\g.buf=WbX (f.clock+1) f.buf rows)(hF:Ris cfE f.buf)(hs:x.since<=f.clock):PK Z code g x:=λhx=>by
 obtain⟨a,b,c,d,e,f1,f2⟩:=h hx;refine⟨a,b,c,d,e,f1,λz hz hc=>?_⟩;rcases hb with hb|⟨rows,hr,hb⟩
 .rw[hb]at hz;exact f2 z hz hc
 .rw[hb]at hz;rcases(Wui hF hr).1 hz with⟨r,_,rfl⟩|⟨h1,_⟩
  .simp only;omega
  .exact f2 z h1 hc
theorem PK.same(h:PK Z code f x)(hb:y.busy=x.busy)(h1:x.busy=true->y.phase=x.phase/\y.pc=x.pc/\y.pb=x.pb/\y.writes=x.writes/\y.since=x.since):PK Z code f y:=λhy=>by
 rw[hb]at hy;obtain⟨a1,a2,a3,a4,a5⟩:=h1 hy;rw[a1,a2,a3,a4,a5];exact h hy
structure FP(M:Int->Int->Prop)(Z:Pb->Prop)(codes:List (List Opn))(f:Fm):Prop where
 ft:FT M f
 pk:f.lost=false->∀(k:Nat) (h:k<f.kids.length),PK Z (codes.getD k []) f f.kids[k]
end
end
section
theorem Wk5{α β V R:Type}{body:Int->α->V->(V->Option R)->Option R}{K:Int->V->Option R}{f:V->α->V}(P:V->Prop):∀(l:List α) (j:Nat) (v:V),P v->(∀x∈l,∀v,P v->P (f v x))->(∀(j:Nat) x v k,x∈l->P v->body j x v k=k (f v x))->Wbw body K l j v=K ((j+l.length:Nat):Int) (l.foldl f v)
 | [],j,v,_,_,_=>rfl
 |x::l,j,v,hv,hp,h=>by
  rw[Wbw,h j x v _ (Xg ..) hv,Wk5 (β:=β) P l (j+1) _ (hp x (Xg ..) v hv) (λy hy=>hp y (Xe _ hy)) λj y v k hy=>h j y v k (Xe _ hy),Xbb,Xr];rw[show j+1+l.length=j+(l.length+1) by omega]
section
variable{M:Int->Int->Prop}{Z:Pb->Prop}{N:Nat}{codes:List (List Opn)}{n:Int}{f g:Fm}{k:Nat}{code:List Opn}{m:Mm}{x y:Kd}{rv:Int}{base:List Int}
theorem Wye{c:List Int}{r:Rw}(hc:Vals 8 c)(hr:0<=r.1/\r.1<=7):inb r.1 c.length=true:=by unfold inb;rw[hc.len];simp;omega
theorem Wpq{c:List Int}{l:List Rw}(hc:Vals 8 c)(hr:WdN l)(hl:l.length<=300)(hN:1048576<N):Zgv N c l=ret (ovl c l):=by
 unfold Zgv;have hcl:=hc.len;rw[Wdo (by omega) hN,Wa5 (by omega) hN,Wil.2 hc,Wht hr hl,Wbe (by omega)];simp only[ret,Xc,Xt,Wc];have h1:=WC (l:=l) (V:=List Int) (R:=Unit×(List Int×Unit)) (lp:=λn j v=>Zc6 N l (λba dE bg=>some ((),(bg,()))) n j v) (n:=N) (by omega)
  (body:=λj x v k=>bif inb x.1 v.length then k (v.set x.1.toNat x.2)else none) (K:=λ_ v=>some ((),(v,())))
  (λn i v hi=>by simp only[Zc6,W4 hi,Ww hi,Wx hi,Wn (show i<4611686018427387904 by omega),We])
  (λn v=>by simp only[Zc6,Wae (Xm l.length),Wc]) c
 refine h1.trans ?_;rw[Wk5 (β:=Unit) (f:=λv r=>v.set r.1.toNat r.2) (λv=>Vals 8 v) l 0 c hc (λx hx v hv=>hv.set _ (hr x hx).2) (λj x v k hx hv=>by rw[Wye hv (hr x hx).1];rfl)];rfl
structure FZ(f:Fm):Prop where
 st:WdN f.start/\f.start.length<=300
 l3:f.kids.length<=3
 wr:∀x∈f.kids,WdN x.writes/\x.writes.length<=300
 sn:∀x∈f.kids,x.seen.length<=300/\0<=x.since/\x.since<=300/\∀e∈x.seen,0<=e.1/\e.1<=7
 ord:f.order.length<=300/\∀k∈f.order,0<=k/\k<f.kids.length
theorem FZ.of{ny:List Rw}(h:FT M f)(hF:FOk codes n f)(h3:codes.length<=3)(hcl:∀c∈codes,c.length<=24)(hs:f.start=WcT ny):FZ f:=by
 have hl:=hF.len;have hk:∀x∈f.kids,∃c:List Opn,c.length<=24/\KOk c f.clock n x:=λx hx=>by
  obtain⟨i,hi,rfl⟩:=Xcv.1 hx;refine⟨_,?_,hF.kid i hi⟩;rw[Xap,Xp (by omega)];exact hcl _ (Xo _)
 have hcl:=hF.clock;have ho:=hF.len3 h3;refine⟨by rw[hs];exact⟨WeE,by have:=Wfk ny;omega⟩,by omega,λx hx=>?_,λx hx=>?_,by omega,λk hk=>?_⟩
 .obtain⟨c,h1,h2⟩:=hk x hx;have:=h2.wl;have:=h2.pc;exact⟨h2.rows,by omega⟩
 .obtain⟨c,h1,h2⟩:=hk x hx;have:=h2.sl;have:=h2.pc;have:=h2.since;exact⟨by omega,by omega,by omega,λe he=>(h2.seen e he).1⟩
 .obtain⟨a,b,_⟩:=h.ord k hk;omega
theorem FZ.rows(h:FZ f)(n:Nat):WdN (WcJ f n):=by
 unfold WcJ;intro r hr;rcases Xn.1 hr with hr|hr
 .exact h.st.1 r hr
 .obtain⟨l,hl,hr⟩:=List.mem_flatten.1 hr;obtain⟨k,hk,rfl⟩:=Xw.1 hl;obtain⟨a,b⟩:=h.ord.2 k (Xca hk);unfold Wus at hr;rw[WyZ (k:=k.toNat) (by omega)]at hr;exact(h.wr _ (Xo _)).1 r hr
theorem FZ.kid(h:FZ f){i:Nat}(hi:i<f.order.length):∃hk:(f.order[i]).toNat<f.kids.length,Wus f f.order[i]=f.kids[(f.order[i]).toNat].writes/\0<=f.order[i]:=by
 obtain⟨a,b⟩:=h.ord.2 _ (Xo hi);have hk:(f.order[i]).toNat<f.kids.length:=by omega
 refine⟨hk,?_,a⟩;unfold Wus;rw[WyZ hk]
end
end
section
section
variable{b:Int->Int}{s:Sc}{w v:Wo}{n:Int}{x y:Rt}{k:Nat}{p:Pg}{o:Opn}{m m':Mm}{H H':List Wr}{C C':Nat->Option Cm}{c:Cm}{i rv:Int}{f:Fm}{codes:List (List Opn)}{code:List Opn}
def ZW(b:Int->Int)(m:Mm)(H:List Wr)(rv:Int)(p:Pb):Prop:=
 (0<=p.1/\p.1<=7)/\p.2.2.1<=rv/\(p.2.1=1/\p.2.2.1<=(Wz m p.1).2.1\/p.2.1=2/\p.2.2.1<=(top (b p.1) p.1 H).1/\((top (b p.1) p.1 H).1=p.2.2.1->p.2.2.2=(top (b p.1) p.1 H).2))
theorem ZW.mono{p:Pb}(h:ZW b m H rv p)(hm:Mono b m H m' H'):ZW b m' H' rv p:=by
 obtain⟨h1,h2,h3⟩:=h;refine⟨h1,h2,h3.imp (λ⟨a,c⟩=>⟨a,?_⟩) λ⟨a,c,d⟩=>⟨a,?_⟩⟩
 .have:=hm.ver p.1 h1.1 h1.2;omega
 .rcases hm.top p.1 with t|t
  .exact⟨by omega,λz=>by omega⟩
  .rw[t];exact⟨c,d⟩
theorem PK.wk{Z Z':Pb->Prop}{q:Kd}(h:PK Z code f q)(hz:∀p,Z p->Z' p):PK Z' code f q:=λe=>by
 obtain⟨a,b,c,d,r⟩:=h e;exact⟨a,b,c,hz _ d,r⟩
structure FB(M:Int->Int->Prop)(Z:Pb->Prop)(codes:List (List Opn))(f:Fm):Prop where
 fp:FP M Z codes f
 rd:∀r∈f.reads,M r.1 r.2
theorem FP.wk{M M':Int->Int->Prop}{Z Z':Pb->Prop}(h:FP M Z codes f)(hM:∀c v,M c v->M' c v)(hz:∀p,Z p->Z' p):FP M' Z' codes f:=
 ⟨h.ft.wk hM,λhl k hk=>(h.pk hl k hk).wk hz⟩
theorem FB.wk{M M':Int->Int->Prop}{Z Z':Pb->Prop}(h:FB M Z codes f)(hM:∀c v,M c v->M' c v)(hz:∀p,Z p->Z' p):FB M' Z' codes f:=⟨h.fp.wk hM hz,λr hr=>hM _ _ (h.rd r hr)⟩
structure RO(b:Int->Int)(m:Mm)(H:List Wr)(C:Nat->Option Cm)(p:Pg)(x:Rt):Prop where
 rv:0<=x.rv/\x.rv<=m.1
 rows:x.phase=0\/5<=x.phase->WdN x.reads/\x.reads.length<=300
 rd:∀r∈x.reads,RC b m H C x.rv r.1 r.2
 pb:x.busy=true->x.phase=1/\x.pc<p.1.length/\(opN p.1 x.pc).1=5/\ZW b m H x.rv x.pb/\x.pb.1=(opN p.1 x.pc).2.2.1/\Wbv x.writes (opN p.1 x.pc).2.2.1=none
 ext:x.phase=4->x.rv<=x.newRv/\x.newRv<=m.1/\∀(i:Nat) (h:i<x.reads.length),(i:Int)<x.pos->RC b m H C x.newRv x.reads[i].1 x.reads[i].2
 fam:x.phase=2->x.fam.rv=x.rv/\(∃rows,x.fam.start=WcT rows)/\FB (RC b m H C x.rv) (ZW b m H x.rv) p.2 x.fam
 fam0:x.phase≠2->x.fam={}
theorem RO.keep(h:RO b m H C p x)(hK:∀v i z,RC b m H C v i z->RC b m' H' C' v i z)(hm:Mono b m H m' H')(h1:m.1<=m'.1):RO b m' H' C' p x:=
 ⟨⟨h.rv.1,by have:=h.rv.2;omega⟩,h.rows,λr hr=>hK _ _ _ (h.rd r hr),λhb=>by
  obtain⟨a,c,d,e,g⟩:=h.pb hb;exact⟨a,c,d,e.mono hm,g⟩,λh4=>by
  obtain⟨a,c,d⟩:=h.ext h4;exact⟨a,by omega,λi hi hp=>hK _ _ _ (d i hi hp)⟩,λh2=>by
  obtain⟨a,c,d⟩:=h.fam h2;exact⟨a,c,d.wk (λ_ _=>hK _ _ _) λ_ hz=>hz.mono hm⟩,h.fam0⟩
theorem RO.nil(h0:0<=m.1)(jv:0<=y.rv/\y.rv<=m.1)(kJ:y.reads= [])(hb:y.busy=false)(hp:y.phase≠2)(AR:y.phase≠4)(hf:y.fam={}):RO b m H C p y:=
 ⟨jv,λ_=>by rw[kJ];exact⟨(λr hr=>by cases hr),by simp⟩,λr hr=>(by rw[kJ]at hr;cases hr),λz=>(by rw[hb]at z;cases z),λz=>Wi z AR,λz=>Wi z hp,λ_=>hf⟩
end
end
section
section
variable{b:Int->Int}{s:Sc}{w v:Wo}{n:Int}{x y:Rt}{k:Nat}{p:Pg}{o:Opn}{m m':Mm}{H H':List Wr}{C C':Nat->Option Cm}{c:Cm}{i rv:Int}{f:Fm}{codes:List (List Opn)}{code:List Opn}
end
end
section
section
variable{b:Int->Int}{s:Sc}{w v:Wo}{n:Int}{x y:Rt}{k:Nat}{p:Pg}{o:Opn}{m m':Mm}{H H':List Wr}{C C':Nat->Option Cm}{c:Cm}{a:Ac}
theorem Wx0(hM:MI b m H C)(aG:CmOk c)(hm:W2 m=true)(df:m.1<1000000)(hC:C k=some c)(h3:c.phase<=3)(h4:(Ws m c).2.phase=4):(Ws m c).2.puts=c.puts/\∀h∈H,h.1≠(Ws m c).2.wv:=by
 have aW:=aG.phase;revert h4;unfold Ws;simp only;by_cases h1:c.phase=1
 .rw[Wb h1];split
  .intro h4;have:(Wv c 2).phase=1\/(Wv c 2).phase=2:=by
    unfold Wv;split
    .right;show WaM c 2=2;unfold WaM;rw[Wa (by omega),Wa (by omega)]
    .left;exact h1
   simp only at h4;omega
  .intro h4;simp only at h4;have:=Wdx c c.pos;omega
 rw[Wa h1];by_cases h2:c.phase=2
 .have et:tick m=((m.1+1,m.2),m.1+1):=by unfold tick;rw[Wb df]
  have h0:=(WF hm).2.1;rw[Wb h2,et];simp only;rw[Wa (by omega)];intro _;refine⟨rfl,λh hh=>?_⟩;have:=hM.st h hh;show h.1≠m.1+1;omega
 rw[Wa h2,Wb (by omega)];split
 .intro h4;simp only at h4;have:=Wdx c c.puts.length;omega
 .intro _;obtain⟨e1,_,e3⟩:=Wa6 c 4;refine⟨e1,λh hh=>?_⟩;show h.1≠(Wv c 4).wv;rw[e3];exact(hM.fr k c hC (by omega)).2.2 h hh
theorem Wse:∀(n:Nat) (l:List Int),l.Nodup->(∀x∈l,1<=x/\x<=n)->l.length<=n
 |0,l,_,h=>by
  cases l with
  |nil=>simp
  |cons a l=>have:=h a (Xg ..);omega
 |n+1,l,hn,h=>by
  by_cases hm:((n+1:Nat):Int)∈l
  .have:=Wse n (l.erase ((n+1:Nat):Int)) (hn.erase _) λx hx=>by
    obtain⟨h1,h2⟩:=(List.Nodup.mem_erase_iff hn).1 hx;have:=h x h2;omega
   rw[List.length_erase_of_mem hm]at this;omega
  .have:=Wse n l hn λx hx=>by
    have:=h x hx;have hne:x≠((n+1:Nat):Int):=λe=>hm (e▸hx);omega
   omega
structure HW(l:List Rt)(H:List Wr):Prop where
 who:∀h∈H,∃k:Nat,∃hk:k<l.length,h.2.1=(k:Int)+1/\stl l[k]=true
 nod:(H.map (·.2.1)).Nodup
 dist:H.Pairwise λa b=>a.1≠b.1
 up:∀h∈H,h.2.2.Pairwise λa b=>a.1<b.1
theorem HW.stay{l l':List Rt}(h:HW l H)(hl:l.length=l'.length)(hs:∀(i:Nat) (h:i<l.length) (h':i<l'.length),stl l[i]=true->stl l'[i]=true):HW l' H:=
 ⟨λe he=>by
  obtain⟨k,hk,e1,e2⟩:=h.who e he;exact⟨k,by omega,e1,hs k hk (by omega) e2⟩,h.nod,h.dist,h.up⟩
theorem HW.len{l:List Rt}(h:HW l H)(hl:l.length<=4):H.length<=4:=by
 have h1:=Wse 4 (H.map (·.2.1)) h.nod λz hz=>by
  obtain⟨e,he,rfl⟩:=Xw.1 hz;obtain⟨k,hk,e1,_⟩:=h.who e he;omega
 simpa using h1
theorem HW.app{l l':List Rt}(h:HW l H)(hk:k<l.length)(hl:l'.length=l.length)(hs:∀(i:Nat) (h:i<l.length) (h':i<l'.length),stl l[i]=true->stl l'[i]=true){e:Wr}(he:e.2.1=(k:Int)+1)(h0:stl l[k]=false)(h1:stl (l'[k]'(by omega))=true)(hd:∀z∈H,z.1≠e.1)(hu:e.2.2.Pairwise λa b=>a.1<b.1):HW l' (H++ [e]):=by
 refine⟨λz hz=>?_,?_,?_,λz hz=>?_⟩
 .rcases Xn.1 hz with hz|hz
  .obtain⟨j,hj,e1,e2⟩:=h.who z hz;exact⟨j,by omega,e1,hs j hj (by omega) e2⟩
  .rw[Xac.1 hz];exact⟨k,by omega,he,h1⟩
 .rw[List.map_append,List.nodup_append];refine⟨h.nod,by simp,λz hz u wX=>?_⟩;obtain⟨z',AS,rfl⟩:=Xw.1 hz;simp only[Xae,Xbt,Xac]at wX;obtain⟨j,hj,e1,e2⟩:=h.who z' AS;intro q;have:j=k:=by omega
  subst this;rw[h0]at e2;cases e2
 .rw[List.pairwise_append];refine⟨h.dist,List.pairwise_singleton ..,λz hz u wX=>?_⟩;rw[Xac.1 wX];exact hd z hz
 .rcases Xn.1 hz with hz|hz
  .exact h.up z hz
  .rw[Xac.1 hz];exact hu
theorem Wwu(aG:WOk s.2.1 n w)(AT:WX w)(wP:WT w)(rU:MI b w.mem w.hist (WfT w.roots))(yM:HW w.roots w.hist)(hn:n<=99999):HW (Wcw s w a).roots (Wcw s w a).hist:=by
 have nz:=WdL (a:=a) aG AT;have hlen:=nz.2.len;have aM:∀(i:Nat) (h:i<w.roots.length) (h':i<(Wcw s w a).roots.length),stl w.roots[i]=true->stl (Wcw s w a).roots[i]=true:=λi h1 h2 hs=>((nz.2.root i h1 h2).st hs).1;have df:w.mem.1<1000000:=by have:=wP.clk;have:=aG.now;omega
 have km:(Wcw s w a).hist=w.hist\/∃k:Nat,∃hk:k<w.roots.length,(w.roots[k].phase=5/\w.roots[k].doomed=false/\w.roots[k].cm.phase<=3/\(Ws w.mem w.roots[k].cm).2.phase=4)/\(Wcw s w a).hist=w.hist++ [((Ws w.mem w.roots[k].cm).2.wv,(k:Int)+1,(Ws w.mem w.roots[k].cm).2.puts)]/\(Wcw s w a).roots[k]?=some (WaL {w.roots[k]with cm:=(Ws w.mem w.roots[k].cm).2}):=by
  unfold Wcw;simp only;split
  .rename_i hb;have hk:a.2.1.toNat<w.roots.length:=by omega
   rw[Wp hk];generalize a.2.1.toNat=k at*;split
   .unfold WiC;rw[Wp (show k<({w with now:=w.now+1}:Wo).roots.length from hk)];have hr:=WhU aG hk;show(WW {w with now:=w.now+1} w.roots[k] k (s.2.1.getD k pg0)).1.hist=_\/_;by_cases h5:w.roots[k].phase=5
    .by_cases hd:w.roots[k].doomed=false
     .obtain⟨e1,e2,e3⟩:=Wp4 (w:={w with now:=w.now+1}) (x:=w.roots[k]) (k:=k) (p:=s.2.1.getD k pg0) h5 hd;by_cases hc:w.roots[k].cm.phase<=3/\(Ws w.mem w.roots[k].cm).2.phase=4
      .right;refine⟨k,hk,⟨h5,hd,hc.1,hc.2⟩,?_,?_⟩
       .show(WW {w with now:=w.now+1} w.roots[k] k (s.2.1.getD k pg0)).1.hist=_;rw[e2];unfold Wbn;rw[Wb hc]
       .show((WW {w with now:=w.now+1} w.roots[k] k (s.2.1.getD k pg0)).1.roots.set k _)[k]?=_;rw[hr,Xev hk,e3]
      .left;rw[e2];unfold Wbn;rw[Wa hc]
     .left;have cZ:w.roots[k].doomed=true:=by simpa using hd
      unfold WW;rw[Wa (by omega),Wa (by omega),Wa (by omega),Wa (by omega),Wa (by omega),Wa (by omega),Wb h5];unfold Waf;rw[Wb cZ]
    .left;obtain⟨_,r2,_⟩:=WpQ (w:={w with now:=w.now+1}) (k:=k) (p:=s.2.1.getD k pg0) h5;exact r2
   .left;split
    .split<;>rfl
    .split
     .split<;>rfl
     .rfl
  .left;rfl
 rcases km with e|⟨k,hk,⟨c1,c2,c3,c4⟩,e,er⟩
 .rw[e];exact yM.stay hlen aM
 .rw[e];obtain⟨p1,p2⟩:=Wx0 (k:=k) rU ((aG.root k hk).comm c1) aG.mem df (by rw[Wpe hk];unfold cmX;rw[Wb c1]) c3 c4;have cw:k<(Wcw s w a).roots.length:=by omega
  rw[Xp cw]at er;have er:=Option.some.inj er;refine yM.app (k:=k) (e:=((Ws w.mem w.roots[k].cm).2.wv,(k:Int)+1,(Ws w.mem w.roots[k].cm).2.puts)) hk (by omega) aM rfl ?_ ?_ p2 (by show(Ws w.mem w.roots[k].cm).2.puts.Pairwise _;rw[p1];exact((aG.root k hk).comm c1).pup)
  .rw[Xbw];intro z;rcases WbH.1 z with z|z|z<;>omega
  .rw[er];have e2:WaL {w.roots[k]with cm:=(Ws w.mem w.roots[k].cm).2}={w.roots[k]with cm:=(Ws w.mem w.roots[k].cm).2}:=by
    unfold WaL;rw[Wa (by simp only;omega),Wa (by simp only;omega)]
   rw[e2];exact WbH.2 (.inr (.inl ⟨c1,.inl c4⟩))
end
end
section
theorem Whf{α:Type}(a:Option α):WfS a a=a:=by unfold WfS;simp
theorem Wii{n:Nat}(h:n<=255):IntKind.wrap .u8 (n:Int)=n:=by
 show(if(false&&decide ((n:Int)%256>=128))=true then(n:Int)%256-256 else(n:Int)%256)=n;simp only[Bool.false_and,Bool.false_eq_true,Wau];omega
def vlF:Nat->Nat->List Nat
 |0,n=>[n]
 |k+1,n=>if n<128 then [n]else(n%128+128)::vlF k (n/128)
def var(n:Nat):List UInt8:=(vlF 8 n).map UInt8.ofNat
theorem Wso:∀(k n:Nat),1<=(vlF k n).length/\(vlF k n).length<=k+1
 |0,n=>by simp[vlF]
 |k+1,n=>by
  unfold vlF;split
  .simp
  .have:=Wso k (n/128);simp;omega
theorem Wpr(n:Nat):1<=(var n).length/\(var n).length<=9:=by
 have:=Wso 8 n;unfold var;simpa using this
theorem Wqx:∀(k n:Nat),n<128^(k+1)->∃(a:List Nat) (b:Nat),vlF k n=a++ [b]/\b<128/\∀x∈a,128<=x/\x<256
 |0,n,h=>⟨[],n,rfl,by simpa using h,by simp⟩
 |k+1,n,h=>by
  unfold vlF;split
  .exact⟨[],n,rfl,by omega,by simp⟩
  .obtain⟨a,b,e,h1,h2⟩:=Wqx k (n/128) (by rw[Xgu (by omega)];rw[Xej]at h;exact h);refine⟨(n%128+128)::a,b,by rw[e];rfl,h1,?_⟩;intro x hx;rcases Xq.1 hx with rfl|hx
   .omega
   .exact h2 x hx
theorem Wjk{n:Nat}(h:n<562949953421312):∃(a:List UInt8) (b:UInt8),var n=a++ [b]/\b.toNat<128/\∀x∈a,128<=x.toNat:=by
 obtain⟨a,b,e,h1,h2⟩:=Wqx 8 n (by omega);refine⟨a.map UInt8.ofNat,UInt8.ofNat b,by unfold var;rw[e];simp,by simp;omega,?_⟩;intro x hx;obtain⟨y,hy,rfl⟩:=Xw.1 hx;have:=h2 y hy;simp;omega
theorem Wyd(n:Nat):n&&&127=n%128:=Xfj n 7
theorem WyH{n:Nat}(h:n<128):n|||128=n+128:=by
 have:=Xfr (i:=7) (b:=n) (by simpa using h) 1;rw[Nat.or_comm];simp at this;omega
theorem WyR(n:Nat):WjE .i64 (n:Int) 7=((n/128:Nat):Int):=by
 unfold WjE;show Int.fdiv (n:Int) 128=_;rw[Xea _ (by omega)];rfl
def Wxq(l:List Nat):List Int:=l.map λx:Nat=>Int.ofNat x
@[simp] theorem Wyv:Wxq [] = []:=rfl
@[simp] theorem WxI (a:Nat) (l:List Nat):Wxq (a :: l) = (a:Int) :: Wxq l:=rfl
theorem Wko{N:Nat}:∀(f n m:Nat) (acc:List Int),n<128^(f+1)->n<9223372036854775808->f<m->acc.length+f<=1000->
  Ze5 N (λn8 t9 eB=>(bif WM ((Xa eB)+(Xa ([(IntKind.wrap .u8 n8)])))then(some ((),(Wio (Xf eB ([(IntKind.wrap .u8 n8)])),())))else none)) m (n:Int) acc=ret (Wio (acc++Wxq (vlF f n)))
 |f,n,0,acc,_,_,h2,_=>by omega
 |0,n,m+1,acc,h,h9,h2,h3=>by
  have e:decide ((n:Int)>127)=false:=by simp at h;simp;omega
  have e1:IntKind.wrap .u8 (n:Int)=n:=Wii (by simp at h;omega);simp only[Ze5,e,Wc,e1];rw[WB (by simp;omega)];simp[vlF]
 |f+1,n,m+1,acc,h,h9,h2,h3=>by
  unfold vlF;by_cases hn:n<128
  .have e:decide ((n:Int)>127)=false:=by simp;omega
   have e1:IntKind.wrap .u8 (n:Int)=n:=Wii (by omega);simp only[Ze5,e,Wc,e1];rw[WB (by simp;omega),Wb hn];simp
  .have e:decide ((n:Int)>127)=true:=by simp;omega
   have a1:WhY .i64 (n:Int) 127=((n%128:Nat):Int):=by rw[show(127:Int)=((127:Nat):Int)from rfl,Wk8 h9 (by omega),Wyd]
   have a2:ior .i64 ((n%128:Nat):Int) 128=((n%128+128:Nat):Int):=by rw[show(128:Int)=((128:Nat):Int)from rfl,WtG (by omega) (by omega),WyH (by omega)]
   have a3:IntKind.wrap .u8 ((n%128+128:Nat):Int)=((n%128+128:Nat):Int):=Wii (by omega);rw[Wa hn];have:=Wko (N:=N) f (n/128) m (acc++ [((n%128+128:Nat):Int)]) (by rw[Xgu (by omega)];rw[Xej]at h;exact h) (by omega) (by omega) (by simp;omega);rw[Ze5,e,a1,a2,a3,WyR,WB (by simp;omega)];simp only[We,show inn (7:Int)=true from rfl];refine this.trans ?_;simp
def WgZ(n:Int):List UInt8:=if 0<=n/\n<=562949953421311 then var n.toNat else []
theorem WkP{n:Nat}(h:n<562949953421312):WgZ (n:Int)=var n:=by unfold WgZ;rw[Wb (by omega)];simp
theorem WsF(l:List Nat):Wio (Wxq l)=l.map UInt8.ofNat:=by simp[Wio,Wxq]
theorem Wd1{N:Nat}{n:Int}(hN:1048576<N):Zdf N n=ret (WgZ n):=by
 unfold Zdf WgZ;simp only[WV,ret,Xc];by_cases h:0<=n/\n<=562949953421311
 .obtain⟨q,rfl⟩:=Int.eq_ofNat_of_zero_le h.1;have e:(!(decide (0<=(q:Int))&&decide ((q:Int)<=562949953421311)))=false:=by simp;omega
  rw[Wb h,e];simp only[Wc];refine(Wko 8 q N [] (by omega) (by omega) (by omega) (by simp)).trans ?_;simp only[Xbn,WsF,Xj];rfl
 .have e:(!(decide (0<=n)&&decide (n<=562949953421311)))=true:=by simp;omega
  rw[Wa h,e];rfl
def Wyo(c:Nat):Nat:=if c%2=1 then(c/2)^^^2197175160 else c/2
def cIt:Nat->Nat->Nat
 |0,c=>c
 |k+1,c=>cIt k (Wyo c)
def WxW:List UInt8->Nat->Nat
 | [],c=>c
 |b::l,c=>WxW l (cIt 8 (c^^^b.toNat))
def crc(l:List UInt8):Nat:=4294967295-WxW l 4294967295
theorem Wkd{a b:Nat}(h:a<4294967296)(h2:b<4294967296):a^^^b<4294967296:=Nat.xor_lt_two_pow (n:=32) (by simpa using h) (by simpa using h2)
theorem WwC{c:Nat}(h:c<4294967296):Wyo c<4294967296:=by
 unfold Wyo;split
 .exact Wkd (by omega) (by omega)
 .omega
theorem WsB:∀(k:Nat) {c:Nat},c<4294967296->cIt k c<4294967296
 |0,c,h=>h
 |k+1,c,h=>WsB k (WwC h)
theorem WuA(b:UInt8):b.toNat<256:=b.toNat_lt
theorem Wtj:∀(l:List UInt8) {c:Nat},c<4294967296->WxW l c<4294967296
 | [],c,h=>h
 |b::l,c,h=>Wtj l (WsB 8 (Wkd h (by have:=WuA b;omega)))
theorem Wp8{a b:Nat}(ha:a<4294967296)(hb:b<4294967296):Wr4 .i64 (a:Int) (b:Int)=((a^^^b:Nat):Int):=by
 unfold Wr4;show IntKind.wrap .i64 ((BitVec.ofInt 64 (a:Int)^^^BitVec.ofInt 64 (b:Int)).toNat:Int)=_;rw[BitVec.toNat_xor,WgB (by omega),WgB (by omega)];have:=Wkd ha hb;exact wrap_i64 (by unfold I64;omega)
theorem WyC(n:Nat):WjE .i64 (n:Int) 1=((n/2:Nat):Int):=by
 unfold WjE;show Int.fdiv (n:Int) 2=_;rw[Xea _ (by omega)];rfl
theorem WlG{N:Nat}{R:Type}{s:List UInt8}{i:Int}{K:Int->Int->Bool->Option R}:∀(j t m c:Nat),t+j=8->j<m->c<4294967296->
  Zdg N s i K m (c:Int) (t:Int)=K ((cIt j c:Nat):Int) 8 false
 |j,t,0,c,_,h,_=>by omega
 |0,t,m+1,c,h,_,_=>by
  have:t=8:=by omega
  subst this;rfl
 |j+1,t,m+1,c,h,h1,h2=>by
  have e:decide ((t:Int)<8)=true:=by simp;omega
  have e1:WhY .i64 (c:Int) 1=((c%2:Nat):Int):=by rw[show(1:Int)=((1:Nat):Int)from rfl,Wk8 (by omega) (by omega),Nat.and_one_is_mod]
  have e2:Wr4 .i64 ((c/2:Nat):Int) 2197175160=((c/2^^^2197175160:Nat):Int):=Wp8 (a:=c/2) (b:=2197175160) (by omega) (by decide);have e3:Wm .i64 (t:Int) 1=((t+1:Nat):Int):=by rw[WJ (by unfold I64;omega)];rfl
  rw[Zdg,e,e1,WyC,e2,e3,cIt,Wyo];simp only[We,show inn (1:Int)=true from rfl];by_cases hc:c%2=1
  .rw[Wb hc,hc];exact WlG j (t+1) m _ (by omega) (by omega) (Wkd (by omega) (by omega))
  .have:c%2=0:=by omega
   rw[Wa hc,this];exact WlG j (t+1) m _ (by omega) (by omega) (by omega)
theorem WqB{K:Int->Option Kv}{body:Int->UInt8->Int->(Int->Option Kv)->Option Kv}
  (hb:∀j b (c:Nat) k,c<4294967296->body j b (c:Int) k=k ((cIt 8 (c^^^b.toNat):Nat):Int)):∀(l:List UInt8) (j c:Nat),c<4294967296->Wbw body (λ_ v=>K v) l j (c:Int)=K ((WxW l c:Nat):Int)
 | [],j,c,h=>rfl
 |b::l,j,c,h=>by
  rw[Wbw,hb _ _ _ _ h,WxW];exact WqB hb l (j+1) _ (WsB 8 (Wkd h (by have:=WuA b;omega)))
theorem Wyf(l:List UInt8):crc l<4294967296:=by unfold crc;omega
theorem Wpc{N:Nat}{s:List UInt8}(hs:s.length<=1048576)(hN:1048576<N):Zm5 N s=ret ((crc s:Nat):Int):=by
 unfold Zm5;have h1:=WC (l:=s) (V:=Int) (R:=Unit×Kh) (lp:=λn j v=>Zgt N s (λvX zN t23=>some ((),(WZ .i64 (4294967295:Int) vX,()))) n v j) (n:=N) (by omega)
  (body:=λj b c k=>Zdg N s j (λtg eR gH=>k tg) N (Wr4 .i64 c (IntKind.wrap .i64 (((UInt8.toNat b:Nat):Int)))) 0) (K:=λ_ v=>some ((),(WZ .i64 (4294967295:Int) v,())))
  (λn i v hi=>by simp only[Zgt,W4 hi,Ww hi,Wx hi,Wn (show i<4611686018427387904 by omega),We])
  (λn v=>by simp only[Zgt,Wae (Xm s.length),Wc]) (4294967295:Int)
 refine h1.trans ?_;have h2:=WqB (K:=λv=>some ((),(WZ .i64 (4294967295:Int) v,()))) (body:=λj b c k=>Zdg N s j (λtg eR gH=>k tg) N (Wr4 .i64 c (IntKind.wrap .i64 (((UInt8.toNat b:Nat):Int)))) 0)
  (λj b c k hc=>by
   have:=WuA b;rw[wrap_i64 (WqD (by omega)),Wp8 hc (by omega)];exact WlG 8 0 N _ rfl (by omega) (Wkd hc (by omega))) s 0 4294967295 (by omega)
 refine h2.trans ?_;have:=Wtj s (c:=4294967295) (by omega);unfold crc;rw[Wam (by unfold I64;omega)];congr 3;omega
def fx(n:Nat):List UInt8:=[UInt8.ofNat (n/256/256/256%256),UInt8.ofNat (n/256/256%256),UInt8.ofNat (n/256%256),UInt8.ofNat (n%256)]
theorem Wx6(n:Nat):n&&&255=n%256:=Xfj n 8
theorem WuE(n:Nat):WjE .i64 (n:Int) 8=((n/256:Nat):Int):=by
 unfold WjE;show Int.fdiv (n:Int) 256=_;rw[Xea _ (by omega)];rfl
theorem WuR(n:Nat)(h:n<9223372036854775808):IntKind.wrap .u8 (WhY .i64 (n:Int) 255)=((n%256:Nat):Int):=by
 rw[show(255:Int)=((255:Nat):Int)from rfl,Wk8 h (by omega),Wx6];exact Wii (by omega)
theorem WlB{N n:Nat}(h:n<4294967296)(hN:1048576<N):Zkb N (n:Int) 4=ret (fx n):=by
 obtain⟨m,rfl⟩:∃m,N=m+5:=⟨N-5,by omega⟩;unfold Zkb;have e1:decide ((n:Int)<0)=false:=by simp
 have e2:decide ((n:Int)>=Wqg .i64 1 (Wet .i64 8 4))=false:=by
  have:Wqg .i64 1 (Wet .i64 8 4)=4294967296:=by rfl
  rw[this];simp;omega
 simp only[WV,ret,Xc,e1,e2,Wc,We,show inn (Wet .i64 8 4)=true from rfl,show(!(decide ((1:Int)<=4)&&decide ((4:Int)<=7)))=false from rfl,
  show(((decide ((0:Int)<=4))&&(decide ((4:Int)<=4)))&&(WM (Xb 4)))=true from rfl]
 have z:List.replicate (Xb 4) (0:Int)= [0,0,0,0]:=rfl;rw[z,show WZ .i64 (4:Int) 1=3 from rfl];rw[Zce,WuR n (by omega),WuE,show WZ .i64 (3:Int) 1=2 from rfl];simp only[show inn (8:Int)=true from rfl,show decide ((3:Int)>=0)=true from rfl,We,show inb 3 (Xa [(0:Int),0,0,0])=true from rfl,show Xb 3=3 from rfl,Xem,Xeh];rw[Zce,WuR _ (by omega),WuE,show WZ .i64 (2:Int) 1=1 from rfl];simp only[show inn (8:Int)=true from rfl,show decide ((2:Int)>=0)=true from rfl,We,Xr,Xcm,show inb 2 (0+1+1+1+1)=true from rfl,show Xb 2=2 from rfl,Xem,Xeh];rw[Zce,WuR _ (by omega),WuE,show WZ .i64 (1:Int) 1=0 from rfl];simp only[show inn (8:Int)=true from rfl,show decide ((1:Int)>=0)=true from rfl,We,Xr,Xcm,show inb 1 (0+1+1+1+1)=true from rfl,show Xb 1=1 from rfl,Xem,Xeh];rw[Zce,WuR _ (by omega),WuE,show WZ .i64 (0:Int) 1= -1 from rfl];simp only[show inn (8:Int)=true from rfl,show decide ((0:Int)>=0)=true from rfl,We,Xr,Xcm,show inb 0 (0+1+1+1+1)=true from rfl,show Xb 0=0 from rfl,Xem,Xeh];rw[Zce];simp only[show decide ((-1:Int)>=0)=false from rfl,Wc,Wio,Xae,Xbt,Xj];rfl
theorem WdU{a b:List UInt8}(h:a.length+b.length<=4611686018427387904):Woa a b=true:=by
 unfold Woa;have:IntKind.max .i64=9223372036854775807:=rfl;rw[this];simp;omega
def fr(s:List UInt8):List UInt8:=if s.length>120 then []else fx (crc (UInt8.ofNat s.length::s))++UInt8.ofNat s.length::s
theorem WqL{n:Nat}(h:n<128):WgZ (n:Int)= [UInt8.ofNat n]:=by
 rw[WkP (by omega)];unfold var vlF;rw[Wb h];rfl
theorem WgQ{N:Nat}{s:List UInt8}(hs:s.length<=1048576)(hN:1048576<N):Zd4 N s=ret (fr s):=by
 unfold Zd4 fr;by_cases h:s.length>120
 .have e:decide (Wj s>120)=true:=by simp[Wj];omega
  rw[e,Wb h];rfl
 .have e:decide (Wj s>120)=false:=by simp[Wj];omega
  rw[e,Wa h];simp only[Wc,Wd1 hN,ret,Xc,Wj,WqL (show s.length<128 by omega),Xdc];rw[WdU (by simp;omega),Wpc (by simp;omega) hN];simp only[We,ret,Xc,WlB (Wyf _) hN];rw[WdU (by simp[fx];omega)];rfl
end
section
def dec:List UInt8->Nat
 | []=>0
 |b::r=>b.toNat%128+128*dec r
theorem WtZ:∀l:List UInt8,dec l<128^l.length
 | []=>by simp[dec]
 |b::r=>by
  have:=WtZ r;rw[dec,Xr,Xej];omega
theorem WpG(b:UInt8):∀l:List UInt8,dec (l++ [b])=dec l+128^l.length*(b.toNat%128)
 | []=>by simp[dec]
 |x::r=>by
  rw[List.cons_append,dec,dec,WpG b r,Xr,Xej,Nat.mul_add];rw[Nat.mul_comm (128^r.length) 128,Nat.mul_assoc];omega
theorem WlW{l:List UInt8}{k:Nat}(hk:k<=7):dec (l.take k)<562949953421312:=by
 have:=WtZ (l.take k);have h2:(l.take k).length<=k:=by simp;omega
 have h3:128^(l.take k).length<=128^7:=Xgw (by omega) (by omega);have:(128:Nat)^7=562949953421312:=by decide
 omega
def rvF(s:List UInt8):Nat->Nat->Nat×Nat
 |0,k=>(0,0)
 |j+1,k=>if k<=s.length then(if var (dec (s.take k))=s.take k then(dec (s.take k),k)else rvF s j (k+1))else(0,0)
def rv(s:List UInt8):Nat×Nat:=rvF s 7 1
theorem WqH(s:List UInt8):∀j k,k+j<=8->1<=k->(rvF s j k=(0,0))\/(k<=(rvF s j k).2/\(rvF s j k).2<=7/\(rvF s j k).2<=s.length/\(rvF s j k).1<562949953421312/\var (rvF s j k).1=s.take (rvF s j k).2)
 |0,k,_,_=>Or.inl rfl
 |j+1,k,h,h1=>by
  unfold rvF;split
  .split
   .rename_i h2 h3;exact Or.inr ⟨Xm _,by omega,h2,WlW (by omega),h3⟩
   .rcases WqH s j (k+1) (by omega) (by omega)with h|h
    .exact Or.inl h
    .exact Or.inr ⟨by omega,h.2⟩
  .exact Or.inl rfl
theorem WsD(s:List UInt8):(rv s=(0,0))\/(1<=(rv s).2/\(rv s).2<=7/\(rv s).2<=s.length/\(rv s).1<562949953421312/\var (rv s).1=s.take (rv s).2):=WqH s 7 1 (by omega) (by omega)
theorem Wyw(s:List UInt8):(rv s).2<=s.length/\(rv s).2<=7/\(rv s).1<562949953421312:=by
 rcases WsD s with h|h
 .rw[h];simp
 .omega
theorem WpW{s:List UInt8}{i:Nat}(hi:i<s.length)(hb:s[i].toNat<128):∀j k,k+j<=8->i+1<k->rvF s j k=(0,0)
 |0,k,_,_=>rfl
 |j+1,k,h,h1=>by
  unfold rvF;split
  .rename_i hk;have hne:var (dec (s.take k))≠s.take k:=by
    intro e;obtain⟨a,b,e1,h2,h3⟩:=Wjk (WlW (l:=s) (k:=k) (by omega));rw[e]at e1;have hl:(s.take k).length=a.length+1:=by rw[e1];simp
    rw[Xan,Nat.min_eq_left hk]at hl;have mS:i<a.length:=by omega
    have:s[i]=a[i]:=by
     have e2:(s.take k)[i]'(by simp;omega)=s[i]:=by simp
     rw[←e2];simp only[e1];rw[Xei mS]
    have:=h3 a[i] (Xo mS);rw[←‹s[i]=a[i]›]at this;omega
   rw[Wa hne];exact WpW hi hb j (k+1) (by omega) (by omega)
  .rfl
theorem Wt5{s:List UInt8}{i:Nat}(hi:i<s.length)(h6:i<=6)(hb:¬s[i].toNat<128):var (dec (s.take (i+1)))≠s.take (i+1):=by
 intro e;obtain⟨a,b,e1,h2,h3⟩:=Wjk (WlW (l:=s) (k:=i+1) (by omega));rw[e]at e1;rw[Xbf hi]at e1;have:=List.append_inj' e1 rfl;have h:=this.2;simp at h;rw[h]at hb;omega
theorem WuK{s:List UInt8}{i:Nat}(hi:i<s.length):Xd s (Xb (i:Int)) (0:UInt8)=s[i]:=Wx hi _
abbrev two{α β:Type}(p:α×β):Option (Unit×(α×(β×Unit))):=some ((),(p.1,(p.2,())))
def nn(p:Nat×Nat):Int×Int:=(p.1,p.2)
theorem Wm2{k n:Nat}(h:k<=n):(decide ((0:Int)<=(k:Int))&&decide ((k:Int)<=(n:Int)))=true:=by simp;omega
theorem WyT{b:Nat}(h:b<256):WhY .u8 (b:Int) 127=((b%128:Nat):Int):=by
 have key:∀b:Fin 256,WhY .u8 ((b:Nat):Int) 127=(((b:Nat)%128:Nat):Int):=by decide+kernel
 exact key ⟨b,h⟩
theorem WyI(i:Nat):(2:Nat)^(7*i)=128^i:=by rw[Nat.pow_mul]
theorem Wvj{s:List UInt8}{i:Nat}(hi:i<s.length)(h6:i<=6):
  ior .i64 ((dec (s.take i):Nat):Int) (Wqg .i64 (IntKind.wrap .i64 (WhY .u8 (((UInt8.toNat s[i]:Nat):Int)) (127:Int))) (Wet .i64 (7:Int) (i:Int)))=((dec (s.take (i+1)):Nat):Int):=by
 have hb:=WuA s[i];have e1:Wet .i64 7 (i:Int)=((7*i:Nat):Int):=by rw[WeP (by unfold I64;omega)];omega
 rw[WyT hb,wrap_i64 (WqD (by omega)),e1];have hlen:(s.take i).length=i:=by simp;omega
 have hlt:=WtZ (s.take i);rw[hlen]at hlt;have AU:(128:Nat)^i<=128^6:=Xgw (by omega) h6;have h6e:(128:Nat)^6=4398046511104:=by decide
 have hm:s[i].toNat%128*128^i<=127*4398046511104:=Nat.mul_le_mul (by omega) (by omega);have e2:Wqg .i64 ((s[i].toNat%128:Nat):Int) ((7*i:Nat):Int)=((s[i].toNat%128*128^i:Nat):Int):=by
  unfold Wqg;have:min (Xb ((7*i:Nat):Int)) (IntKind.bits .i64)=7*i:=by
   show min (Xb ((7*i:Nat):Int)) 64=7*i;rw[Xj];omega
  rw[this];have e3:((s[i].toNat%128:Nat):Int)*2^(7*i)=((s[i].toNat%128*128^i:Nat):Int):=by
   rw[←WyI];push_cast;rfl
  rw[e3];exact wrap_i64 (WqD (by omega))
 rw[e2,WtG (by omega) (by omega),Xbf hi,WpG,hlen];congr 1;have:=Xfr (i:=7*i) (b:=dec (s.take i)) (by rw[WyI];exact hlt) (s[i].toNat%128);rw[WyI]at this;rw[Nat.or_comm,Nat.mul_comm _ (128^i),←this];omega
theorem Wsf{N:Nat}{s:List UInt8}(hs:s.length<=1048576)(hN:1048576<N):∀(j i m:Nat),i+j=7->j<m->
  Zc5 N s (λdE bf=>(some ((),(dE,(bf,()))))) (λtf zM fG=>(some ((),((0:Int),((0:Int),()))))) m ((dec (s.take i):Nat):Int) (i:Int)=two (nn (rvF s j (i+1)))
 |j,i,0,_,h=>by omega
 |0,i,m+1,h,_=>by
  have:i=7:=by omega
  subst this;rw[Zc5,show decide (((7:Nat):Int)<7)=false from rfl];cases decide (((7:Nat):Int)<Wj s)<;>rfl
 |j+1,i,m+1,h,h2=>by
  rw[Zc5,rvF];by_cases hi:i<s.length
  .have e1:decide ((i:Int)<7)=true:=by simp;omega
   have e2:inn (Wet .i64 (7:Int) (i:Int))=true:=by
    unfold inn;rw[WeP (by unfold I64;omega)];simp;omega
   have e4:Wm .i64 (i:Int) 1=((i+1:Nat):Int):=Wn (by omega);rw[W4 hi,e1,Ww hi,e2,WuK hi,Wvj hi (by omega),e4,Wb (by omega)];simp only[We];by_cases hb:s[i].toNat<128
   .have e5:decide (((s[i].toNat:Nat):Int)<128)=true:=by simp;omega
    rw[e5];simp only[Wm2 (show i+1<=s.length from hi),We,Wd1 hN,ret,Xc,Whf,WkP (WlW (l:=s) (k:=i+1) (by omega)),Xj,Wih];by_cases hv:var (dec (s.take (i+1)))=s.take (i+1)
    .rw[Wb hv,hv,WgH];rfl
    .rw[Wa hv,WiH hv,WpW hi hb j (i+1+1) (by omega) (by omega)];rfl
   .have e5:decide (((s[i].toNat:Nat):Int)<128)=false:=by simp;omega
    rw[e5,Wa (Wt5 hi (by omega) hb)];simp only[Wc];exact Wsf hs hN j (i+1) m (by omega) (by omega)
  .rw[Wae (by omega),Wa (by omega)];rfl
theorem We1{N:Nat}{s:List UInt8}(hs:s.length<=1048576)(hN:1048576<N):Zh6 N s=two (nn (rv s)):=Wsf hs hN 7 0 N rfl (by omega)
def unf(s:List UInt8):List UInt8×Nat:=
 if s.length<5 then([],0)else
  if 120<(s.getD 4 0).toNat\/s.length<5+(s.getD 4 0).toNat then([],0)else
   if fr ((s.drop 5).take (s.getD 4 0).toNat)=s.take (5+(s.getD 4 0).toNat)then((s.drop 5).take (s.getD 4 0).toNat,5+(s.getD 4 0).toNat)else([],0)
def sn(p:List UInt8×Nat):List UInt8×Int:=(p.1,p.2)
theorem WyF{s:List UInt8}(h:5<=s.length):s.drop 4=s.getD 4 0::s.drop 5:=by
 have e:=Xbm (show 4<s.length by omega);rw[e];congr 1;simp[Xd,Xp (show 4<s.length by omega)]
theorem Wmw{n:Nat}(h:n<128):var n= [UInt8.ofNat n]:=by
 unfold var vlF;rw[Wb h];rfl
theorem WvI{b:UInt8}{r:List UInt8}(hb:b.toNat<128):rv (b::r)=(b.toNat,1):=by
 unfold rv rvF;have e:dec (Xaf 1 (b::r))=b.toNat:=by simp[dec];omega
 rw[e,Wmw hb];simp
theorem Wx3{b:UInt8}{r:List UInt8}(hb:¬b.toNat<128):rv (b::r)=(0,0)\/128<=(rv (b::r)).1:=by
 rcases WsD (b::r)with h|⟨h1,h2,h3,h4,h5⟩
 .exact Or.inl h
 .refine Or.inr (Nat.le_of_not_lt λhlt=>?_);rw[Wmw hlt]at h5;obtain⟨k,hk⟩:∃k,(rv (b::r)).2=k+1:=⟨(rv (b::r)).2-1,by omega⟩;rw[hk,List.take_succ_cons]at h5;have:=(List.cons.inj h5).1;rw[←this]at hb;simp at hb;omega
theorem Wrm(s:List UInt8)(n:Nat):List.drop 5 (Xaf (5+n) s)=(s.drop 5).take n:=by
 rw[List.drop_take];congr 1;omega
theorem Wja{N:Nat}{s:List UInt8}(hs:s.length<=1048576)(hN:1048576<N):Zm6 N s=two (sn (unf s)):=by
 unfold Zm6 unf;by_cases h5:s.length<5
 .have e:decide (Wj s<5)=true:=Wf (by unfold Wj;omega);rw[e,Wb h5];rfl
 .have e:decide (Wj s<5)=false:=Wq (by unfold Wj;omega);have e1:(decide ((0:Int)<=4)&&decide ((4:Int)<=((s.length:Nat):Int)))=true:=by simp;omega
  rw[e,Wa h5];simp only[Wc,e1,We];rw[show Xb 4=4 from rfl,We1 (by simp;omega) hN,WyF (by omega)];generalize s.getD 4 0=b;simp only[two,Xc];by_cases hb:b.toNat<128
  .rw[WvI hb];have e2:((nn (b.toNat,1)).2==0)=false:=rfl;rw[e2];simp only[Wc];by_cases qr:120<b.toNat
   .have e3:decide ((nn (b.toNat,1)).1>120)=true:=by simp[nn];omega
    rw[e3,Wb (Or.inl qr)];rfl
   .have e3:decide ((nn (b.toNat,1)).1>120)=false:=by simp[nn];omega
    have e4:Wm .i64 4 (nn (b.toNat,1)).2=5:=rfl;have e5:Wm .i64 5 (nn (b.toNat,1)).1=((5+b.toNat:Nat):Int):=by
     show Wm .i64 5 ((b.toNat:Nat):Int)=_;rw[WJ (by unfold I64;omega)];omega
    rw[e3,e4,e5];simp only[Wc];by_cases hl:s.length<5+b.toNat
    .have e6:decide (((5+b.toNat:Nat):Int)>Wj s)=true:=by simp[Wj];omega
     rw[e6,Wb (Or.inr hl)];rfl
    .have e6:decide (((5+b.toNat:Nat):Int)>Wj s)=false:=by simp[Wj];omega
     have e7:(decide ((0:Int)<=5)&&decide ((5:Int)<=((5+b.toNat:Nat):Int)))=true:=by simp;omega
     have e7a:decide ((0:Int)<=5)=true:=rfl;have e7b:decide ((5:Int)<=((5+b.toNat:Nat):Int))=true:=by simp;omega
     rw[e6,Wa (by omega),Wm2 (show 5+b.toNat<=s.length by omega),e7a,e7b];simp only[Wc,Xbl,We,Xj,show Xb 5=5 from rfl,Wrm];rw[WgQ (by simp;omega) hN];simp only[ret,Xc,Whf,Wih];by_cases hf:fr ((s.drop 5).take b.toNat)=s.take (5+b.toNat)
     .rw[Wb hf,hf,WgH];rfl
     .rw[Wa hf,WiH hf];rfl
  .have qr:120<b.toNat:=by omega
   rw[Wb (Or.inl qr)];rcases Wx3 (r:=s.drop 5) hb with h|h
   .rw[h];rfl
   .have e3:decide ((nn (rv (b::s.drop 5))).1>120)=true:=by simp[nn];omega
    rw[e3];cases(nn (rv (b::s.drop 5))).2==0<;>rfl
end
section
def adj:List Rw->Bool
 | []=>true
 | [_]=>true
 |a::b::r=>decide (a.1<b.1)&&adj (b::r)
def wOk(w:Wr):Bool:=(decide (1<=w.1)&&decide (w.1<=1000000))&&((decide (1<=w.2.1)&&decide (w.2.1<=99))&&(Wav w.2.2&&adj w.2.2))
def shR(l:List Rw)(s:List UInt8):List UInt8:=l.foldl (λs r=>(s++WgZ r.1)++WgZ r.2) s
def shW(w:Wr):List UInt8:=if wOk w=true then shR w.2.2 ((WgZ w.1++WgZ w.2.1)++WgZ (w.2.2.length:Int))else []
theorem Wd0(n:Int):(WgZ n).length<=9:=by
 unfold WgZ;split
 .exact(Wpr _).2
 .simp
theorem Wvh{l:List Rw}{i:Nat}(h:i+1<l.length):adj (l.drop i)=(decide (l[i].1<l[i+1].1)&&adj (l.drop (i+1))):=by
 rw[Xbm (show i<l.length by omega),Xbm h,adj]
theorem Wwx{l:List Rw}{i:Nat}(h:l.length<=i+1):adj (l.drop i)=true:=by
 rcases hd:l.drop i with _|⟨a,_|⟨b,r⟩⟩
 .rfl
 .rfl
 .have:=Wk Xa hd;simp at this;omega
theorem Wvd{i:Nat}(h:i<4611686018427387904):WZ .i64 ((i+1:Nat):Int) 1=(i:Int):=by rw[Wam (by unfold I64;omega)];omega
theorem Wi1{N:Nat}{R:Type}{l:List Rw}{K0:Option R}{K1:Int->Bool->Option R}(hl:l.length<=1048576)(B:Option R)(hB:∀i t,K1 i t=B):∀(m i:Nat),l.length-i<m->
  Zgs N l K0 K1 m ((i+1:Nat):Int)=bif adj (l.drop i)then B else K0
 |0,i,h=>by omega
 |m+1,i,h=>by
  rw[Zgs];by_cases hi:i+1<l.length
  .rw[W4 hi,Wvd (by omega),Ww hi,Ww (show i<l.length by omega),Wx hi,Wx (show i<l.length by omega),Wn (by omega),Wvh hi];simp only[We];by_cases hc:l[i].1<l[i+1].1
   .have e:decide (l[i].1>=l[i+1].1)=false:=by simp;omega
    rw[e,Wf hc,Wi1 hl B hB m (i+1) (by omega)];rfl
   .have e:decide (l[i].1>=l[i+1].1)=true:=by simp;omega
    rw[e,Wq hc];rfl
  .rw[Wae (by omega),Wwx (by omega)];simp only[Wc,We,hB]
theorem Wmt{N:Nat}{l:List Rw}(hl:l.length<=1048576)(hN:1048576<N):Zka N l=ret (Wav l&&adj l):=by
 unfold Zka;have h:=Wi1 (N:=N) (l:=l) (R:=Unit×Kq) (K0:=some ((),(false,()))) (K1:=λi6 t7=>((Za9 N l).bind λo8=>(some ((),(o8.2.1,()))))) hl (some ((),(Wav l,())))
  (λi t=>by simp only[Wa5 hl hN,ret,Xc]) N 0 (by omega)
 refine h.trans ?_;rw[Xby];cases adj l<;>simp
theorem WuS(r:Rw)(l:List Rw)(s:List UInt8):shR (r::l) s=shR l ((s++WgZ r.1)++WgZ r.2):=rfl
theorem WpF{K:List UInt8->Option (Unit×(List UInt8×Unit))}{body:Int->Rw->List UInt8->(List UInt8->Option (Unit×(List UInt8×Unit)))->Option (Unit×(List UInt8×Unit))}
  (hb:∀j r (s:List UInt8) k,s.length<=1000000->body j r s k=k ((s++WgZ r.1)++WgZ r.2)):∀(l:List Rw) (j:Nat) (s:List UInt8),s.length+18*l.length<=1000000->
  Wbw body (λ_ v=>K v) l j s=K (shR l s)
 | [],j,s,h=>rfl
 |r::l,j,s,h=>by
  rw[Xr]at h;rw[Wbw,hb _ _ _ _ (by omega),WuS];have h1:=Wd0 r.1;have h2:=Wd0 r.2;exact WpF hb l (j+1) _ (by simp only[Xs];omega)
theorem WrG{l:List Rw}(h:Wav l=true):l.length<=300:=by
 unfold Wav at h;simp at h;exact h.1
theorem Whz{N:Nat}{w:Wr}(hl:w.2.2.length<=1048576)(hN:1048576<N):Zc4 N w=ret (shW w):=by
 unfold Zc4 Zb6 shW wOk;simp only[WV,ret,Xc,Wmt hl hN];cases h1:(decide (1<=w.1)&&decide (w.1<=1000000))
 .rfl
 cases h2:(decide (1<=w.2.1)&&decide (w.2.1<=99))
 .rfl
 cases h3:(Wav w.2.2&&adj w.2.2)
 .rfl
 have hr:Wav w.2.2=true:=by cases h4:Wav w.2.2<;>simp[h4]at h3⊢
 have fR:=WrG hr;simp only[Xt,Wc,Wd1 hN,ret,Xc,Xbl,Waq];have a1:=Wd0 w.1;have a2:=Wd0 w.2.1;have a3:=Wd0 (Wj w.2.2);rw[WdU (by omega),WdU (by simp only[Xs];omega)];simp only[We];have h:=WC (l:=w.2.2) (V:=List UInt8) (R:=Unit×(List UInt8×Unit)) (lp:=λn j v=>Zcd N w.2.2 (Wj w.2.2) (λvW gH d6=>some ((),(vW,()))) n v j) (n:=N) (by omega)
  (body:=λj r s k=>bif Woa s (WgZ r.1)then(bif Woa (s++WgZ r.1) (WgZ r.2)then k ((s++WgZ r.1)++WgZ r.2)else none)else none) (K:=λ_ v=>some ((),(v,())))
  (λn i v hi=>by simp only[Zcd,W4 hi,Ww hi,Wx hi,Wn (show i<4611686018427387904 by omega),We,Wd1 hN,ret,Xc])
  (λn v=>by simp only[Zcd,Wae (Xm w.2.2.length),Wc]) ((WgZ w.1++WgZ w.2.1)++WgZ (Wj w.2.2))
 refine h.trans ?_;exact WpF (K:=λv=>some ((),(v,()))) (λj r s k hs=>by
  have h1:=Wd0 r.1;have h2:=Wd0 r.2;rw[WdU (by omega),WdU (by simp only[Xs];omega)];rfl) w.2.2 0 _ (by simp only[Xs];omega)
def rws(s:List UInt8):Nat->Nat->Option (List Rw)
 |0,_=>some []
 |n+1,p=>if(rv (s.drop p)).2=0\/(rv (s.drop (p+(rv (s.drop p)).2))).2=0 then none else
   (rws s n (p+(rv (s.drop p)).2+(rv (s.drop (p+(rv (s.drop p)).2))).2)).map λl=>((((rv (s.drop p)).1:Nat):Int),(((rv (s.drop (p+(rv (s.drop p)).2))).1:Nat):Int))::l
def p1(s:List UInt8):Nat:=(rv s).2
def p2(s:List UInt8):Nat:=p1 s+(rv (s.drop (p1 s))).2
def p3(s:List UInt8):Nat:=p2 s+(rv (s.drop (p2 s))).2
def q3(s:List UInt8):Nat:=(rv (s.drop (p2 s))).1
def mkW(s:List UInt8)(l:List Rw):Wr:=(((rv s).1:Nat),(((rv (s.drop (p1 s))).1:Nat),l))
def rdW(s:List UInt8):Option Wr:=
 if(rv s).2=0\/(rv (s.drop (p1 s))).2=0\/(rv (s.drop (p2 s))).2=0 then none else
  if 8<q3 s then none else
   (rws s (q3 s) (p3 s)).bind λl=>if shW (mkW s l)=s then some (mkW s l)else none
def opW(o:Option Wr):Option (Unit×(Wr×Kq)):=match o with
 |none=>some ((),(((0:Int),((0:Int),([]:List Kc))),(false,())))
 |some w=>some ((),(w,(true,())))
theorem Ww2:rdW []=none:=rfl
theorem WeY{N:Nat}{s:List UInt8}(hs:s.length<=1048576)(hN:1048576<N):Zg9 N s=some ((),(((rv s).1:Int),(s.drop (rv s).2,(decide ((rv s).2≠0),())))):=by
 unfold Zg9;rw[We1 hs hN];have e:(decide ((0:Int)<=(nn (rv s)).2)&&decide ((nn (rv s)).2<=((s.length:Nat):Int)))=true:=Wm2 (Wyw s).1;have e2:decide ((nn (rv s)).2>0)=decide ((rv s).2≠0):=by
  apply decide_eq_decide.2;show(0:Int)<(((rv s).2:Nat):Int)↔_;omega
 simp only[two,Xc,e,We,e2];rfl
theorem Wgi{s:List UInt8}{p:Nat}(hs:s.length<=1048576):(s.drop p).length<=1048576:=by simp;omega
theorem WiJ{N:Nat}{s:List UInt8}{t:Nat}{b1 b2:Int}(hs:s.length<=1048576)(hN:1048576<N)(ht:t<=100){R:Type}(K0:Option R)(K1:List Rw->Option R):∀(j m p i:Nat) (l:List Rw),i+j=t->j<m->l.length=i->
  Zcf N s (t:Int) b1 b2 K0 (λpF t25 oc cA=>K1 cA) m (s.drop p) (i:Int) l=match rws s j p with|none=>K0|some r=>K1 (l++r)
 |j,0,p,i,l,_,h,_=>by omega
 |0,m+1,p,i,l,h,_,hl=>by
  have e:decide ((i:Int)<(t:Int))=false:=by simp;omega
  rw[Zcf,e];simp[rws]
 |j+1,m+1,p,i,l,h,h1,hl=>by
  have e:decide ((i:Int)<(t:Int))=true:=by simp;omega
  rw[Zcf,e,WeY (Wgi hs) hN];simp only[We,Xc,Xbs];rw[WeY (Wgi hs) hN,rws];simp only[Xc,Xbs];by_cases ha:(rv (s.drop p)).2=0
  .simp[ha]
  by_cases hb:(rv (s.drop (p+(rv (s.drop p)).2))).2=0
  .simp[ha,hb]
  rw[Wa (by omega),WB (by simp;omega),Wn (by omega)];simp only[ha,hb,ne_eq,not_false_eq_true,decide_true,Xt,Wc,We];refine(WiJ hs hN ht K0 K1 j m _ (i+1) _ (by omega) (by omega) (by simp;omega)).trans ?_;cases rws s j (p+(rv (s.drop p)).2+(rv (s.drop (p+(rv (s.drop p)).2))).2)<;>simp
theorem Wmh{N:Nat}{s:List UInt8}(hs:s.length<=1048576)(hN:1048576<N):Zgu N s=opW (rdW s):=by
 unfold Zgu rdW;rw[WeY hs hN];simp only[Xc];rw[WeY (Wgi hs) hN];simp only[Xc,Xbs];rw[WeY (Wgi hs) hN];simp only[Xc,Xbs];have e1:(rv s).2=p1 s:=rfl;simp only[e1];have e2:p1 s+(rv (s.drop (p1 s))).2=p2 s:=rfl;simp only[e2];have e3:p2 s+(rv (s.drop (p2 s))).2=p3 s:=rfl;simp only[e3];by_cases ha:p1 s=0
 .simp[ha,opW]
 by_cases hb:(rv (s.drop (p1 s))).2=0
 .simp[ha,hb,opW]
 by_cases hc:(rv (s.drop (p2 s))).2=0
 .simp[ha,hb,hc,opW]
 rw[Wa (by omega)];simp only[ha,hb,hc,ne_eq,not_false_eq_true,decide_true,Xt,Wc,We];have e4:(rv (s.drop (p2 s))).1=q3 s:=rfl;simp only[e4];by_cases h8:8<q3 s
 .have e:decide (((q3 s:Nat):Int)>8)=true:=by simp;omega
  rw[e,Wb h8];rfl
 .have e:decide (((q3 s:Nat):Int)>8)=false:=by simp;omega
  rw[e,Wa h8];simp only[Wc];have hne:seq s []=false:=by
   rw[Wih];apply WiH;intro h;rw[h]at ha;exact ha rfl
  refine(WiJ hs hN (by omega) (t:=q3 s) (some ((),(((0:Int),((0:Int),([]:List Kc))),(false,())))) (λcA=>(bif seq s ([]:List UInt8)then
   (some ((),(((0:Int),((0:Int),([]:List Kc))),(false,()))))
   else
   ((Zc4 N ((((rv s).1:Nat):Int),((((rv (s.drop (p1 s))).1:Nat):Int),cA))).bind λln=>
   (bif !(seq ln.2.1 s)then
   (some ((),(((0:Int),((0:Int),([]:List Kc))),(false,()))))
   else
   (some ((),(((((rv s).1:Nat):Int),((((rv (s.drop (p1 s))).1:Nat):Int),cA)),(true,())))))))) (q3 s) N (p3 s) 0 [] (by omega) (by omega) rfl).trans ?_
  rcases hr:rws s (q3 s) (p3 s)with _|l
  .rfl
  .have hlen:∀(n p:Nat) (l:List Rw),rws s n p=some l->l.length=n:=by
    intro n
    induction n with
    |zero=>intro p l h;rw[rws]at h;cases h;rfl
    |succ n ih=>
     intro p l h;rw[rws]at h;split at h
     .cases h
     .rcases hq:rws s n (p+(rv (s.drop p)).2+(rv (s.drop (p+(rv (s.drop p)).2))).2)with _|l2
      .rw[hq]at h;cases h
      .rw[hq]at h;cases h;simp[ih _ _ hq]
   have:=hlen _ _ _ hr;simp only[Xbn,hne,Wc,Xc];rw[Whz (by simp;omega) hN];simp only[ret,Xc,Wih];show(bif !same (shW (mkW s l)) s then _ else _)=_;by_cases h:shW (mkW s l)=s
   .rw[Wb h,h,WgH];rfl
   .rw[Wa h,WiH h];rfl
end
section
theorem Wqo(s:List UInt8):unf s=([],0)\/(5<=s.length/\(s.getD 4 0).toNat<=120/\5+(s.getD 4 0).toNat<=s.length/\fr ((s.drop 5).take (s.getD 4 0).toNat)=s.take (5+(s.getD 4 0).toNat)/\unf s=((s.drop 5).take (s.getD 4 0).toNat,5+(s.getD 4 0).toNat)):=by
 unfold unf;split
 .exact Or.inl rfl
 .split
  .exact Or.inl rfl
  .split
   .exact Or.inr ⟨by omega,by omega,by omega,by assumption,rfl⟩
   .exact Or.inl rfl
theorem Wx1(s:List UInt8):(unf s).2<=s.length/\(unf s).1.length<=120:=by
 rcases Wqo s with h|⟨h1,h2,h3,h4,h⟩
 .rw[h];simp
 .rw[h];simp only[Xan,Xcy];omega
theorem Wu3{s:List UInt8}(h:(unf s).2=0):(unf s).1= []:=by
 rcases Wqo s with h0|⟨h1,h2,h3,h4,h0⟩
 .rw[h0]
 .rw[h0]at h;simp at h
def jr:Nat->Int->List UInt8->List Wr×Nat
 |0,_,_=>([],0)
 |n+1,last,s=>match rdW (unf s).1 with
  |none=>([],0)
  |some w=>if w.1<=last then([],0)else(w::(jr n w.1 (s.drop (unf s).2)).1,(unf s).2+(jr n w.1 (s.drop (unf s).2)).2)
abbrev jrR(l:List Wr)(p:Nat)(r:List Wr×Nat):Option (Unit×(List Wr×Kh)):=some ((),(l++r.1,(((p+r.2:Nat):Int),())))
theorem Wnp{N:Nat}{s:List UInt8}(hs:s.length<=1048576)(hN:1048576<N):∀(j m p:Nat) (last:Int) (l:List Wr),l.length+j=200->j<m->p<=s.length->
  Zbu N s (λpG vH t23 cK jO eT cA=>(some ((),(cK,(pG,()))))) (λpH pI jx ew=>(some ((),(ew,(pH,()))))) m (p:Int) last l=jrR l p (jr j last (s.drop p))
 |j,0,p,last,l,_,h,_=>by omega
 |0,m+1,p,last,l,h,_,_=>by
  have e:decide (Wj l<200)=false:=Wq (by unfold Wj;omega);rw[Zbu,e];simp[jr]
 |j+1,m+1,p,last,l,h,h1,hp=>by
  have e:decide (Wj l<200)=true:=Wf (by unfold Wj;omega);have hle:=Wx1 (s.drop p);rw[Xcy]at hle;rw[Zbu,e,Wm2 hp,Xj,Wja (Wgi hs) hN];simp only[We,two,Xc];rw[Wmh (by show(unf (s.drop p)).1.length<=1048576;omega) hN,jr];show(opW (rdW (unf (s.drop p)).1)).bind _=_;rcases hr:rdW (unf (s.drop p)).1 with _|w
  .simp only[opW,Xc];cases((sn (unf (s.drop p))).2==0)<;>simp
  .simp only[opW,Xc];have hne:(unf (s.drop p)).2≠0:=by
    intro h0;rw[Wu3 h0,Ww2]at hr;cases hr
   have e1:((sn (unf (s.drop p))).2==0)=false:=by simp[sn,hne]
   rw[e1];simp only[Wc,Xt];by_cases hw:w.1<=last
   .rw[Wf hw,Wb hw];simp
   .have e2:Wm .i64 (p:Int) (sn (unf (s.drop p))).2=((p+(unf (s.drop p)).2:Nat):Int):=by
     show Wm .i64 (p:Int) (((unf (s.drop p)).2:Nat):Int)=_;rw[WJ (by unfold I64;omega)];rfl
    rw[Wq hw,Wa hw,e2,WB (by simp;omega)];simp only[Wc,We];refine(Wnp hs hN j m _ w.1 (l++ [w]) (by simp;omega) (by omega) (by omega)).trans ?_;simp only[jrR,Xbs,Xbo,Xdc,Nat.add_assoc]
theorem Wkm{N:Nat}{s:List UInt8}(hs:s.length<=1048576)(hN:1048576<N):Ze6 N s=some ((),((jr 200 0 s).1,(((jr 200 0 s).2:Int),()))):=by
 have:=Wnp hs hN 200 N 0 0 [] rfl (by omega) (Nat.zero_le _);simp only[jrR,Xbn,Xby,Nat.zero_add]at this;exact this
end
section
section
variable{N:Nat}{b i v:Int}{H S:List Wr}{h e:Wr}{l:List Rw}{cells:List Int}
theorem Wyi:Lin cfW:=⟨λx=>by unfold cfW;omega,λx y z=>by unfold cfW;omega,λx y z=>by unfold cfW;omega⟩
theorem WyO{x y:Wr}:Ap cfW x y↔x.1≠y.1:=by unfold Ap cfW;omega
theorem WvD{x y:Wr}(hn:x.1≠y.1)(r:Int×Int):Wgh i v (Wgh i v r x) y=Wgh i v (Wgh i v r y) x:=by
 unfold Wgh;cases pick x.2.2 i with
 |none=>cases pick y.2.2 i<;>rfl
 |some p=>
  cases pick y.2.2 i with
  |none=>rfl
  |some q=>
   simp only;by_cases h1:x.1<=v/\r.1<x.1
   .rw[Wb h1];by_cases h2:y.1<=v/\r.1<y.1
    .rw[Wb h2];by_cases h3:x.1<y.1
     .rw[Wb (show y.1<=v/\x.1<y.1 from⟨h2.1,h3⟩),Wa (by simp only;omega)]
     .rw[Wa (by simp only;omega),Wb (show x.1<=v/\y.1<x.1 from⟨h1.1,by omega⟩)]
    .rw[Wa h2,Wa (by simp only;omega),Wb h1]
   .rw[Wa h1];by_cases h2:y.1<=v/\r.1<y.1
    .rw[Wb h2,Wa (by simp only;omega)]
    .rw[Wa h2,Wa h1]
theorem WkX:∀(S:List Wr) (r:Int×Int),(∀z∈S,z.1≠e.1)->S.foldl (Wgh i v) (Wgh i v r e)=Wgh i v (S.foldl (Wgh i v) r) e
 | [],r,_=>rfl
 |z::S,r,h=>by
  rw[Xbb,Xbb,WvD (h z (Xg ..)).symm,WkX S _ λy hy=>h y (Xe _ hy)]
theorem WsV:∀(S:List Wr) (r:Int×Int),(∀z∈S,z.1≠e.1)->(Wdt cfW S e).foldl (Wgh i v) r=Wgh i v (S.foldl (Wgh i v) r) e
 | [],r,_=>rfl
 |z::S,r,h=>by
  have hz:=h z (Xg ..);have hS:∀y∈S,y.1≠e.1:=λy hy=>h y (Xe _ hy);rw[Wdt];split
  .rw[Xbb,WsV S _ hS,Xbb]
  .split
   .rw[Xbb,WkX (z::S) r h]
   .rename_i a c;unfold cfW at a c;omega
def WcI(H:List Wr):List Wr:=H.foldr (λh l=>Wdt cfW l h) []
theorem Wg0:∀{H:List Wr},H.Pairwise (λa b=>a.1≠b.1)->Ris cfW (WcI H)/\(∀x,x∈WcI H↔x∈H)
 | [],_=>⟨List.Pairwise.nil,λx=>Iff.rfl⟩
 |h::H,hp=>by
  obtain⟨h1,h2⟩:=Xv.1 hp;obtain⟨a,c⟩:=Wg0 h2;refine⟨Wb4 Wyi a,λx=>?_⟩;show x∈Wdt cfW (WcI H) h↔_;rw[Wbm Wyi a,c,Xq];refine or_congr Iff.rfl ⟨λz=>z.1,λz=>⟨z,WyO.2 (h1 x z).symm⟩⟩
theorem WoA(hp:H.Pairwise λa b=>a.1≠b.1):(WcI H).length=H.length:=by
 obtain⟨a,c⟩:=Wg0 hp;rw[←Wi5 Wyi a (hp.imp λz=>WyO.2 z) λx=>(c x).symm];unfold sortBy;exact List.length_mergeSort _
theorem Wua:∀(H:List Wr) (r:Int×Int),H.Pairwise (λa b=>a.1≠b.1)->(WcI H).foldl (Wgh i v) r=H.foldl (Wgh i v) r
 | [],r,_=>rfl
 |h::H,r,hp=>by
  obtain⟨h1,h2⟩:=Xv.1 hp;show(Wdt cfW (WcI H) h).foldl (Wgh i v) r=_;rw[WsV _ _ λz hz=>(h1 z ((Wg0 h2).2 z|>.1 hz)).symm,Wua H r h2,Xbb,WkX H r λz hz=>(h1 z hz).symm]
theorem Wuu(hu:l.Pairwise λa b=>a.1<b.1):pick l i=lst l i:=by
 cases hp:pick l i with
 |some x=>exact(Wwc (r:=(i,x)) hu (Wmj hp)).symm
 |none=>
  cases hl:lst l i with
  |none=>rfl
  |some x=>
   unfold pick at hp;have dC:l.find? (λr=>decide (r.1=i))=none:=by
    cases hf:l.find? (λr=>decide (r.1=i))with
    |none=>rfl
    |some r=>rw[hf]at hp;cases hp
   have:=List.find?_eq_none.1 dC _ (Wo4 hl);simp at this
structure HG(H:List Wr):Prop where
 len:H.length<=4
 each:∀h∈H,(1<=h.1/\h.1<=1000000)/\(1<=h.2.1/\h.2.1<=99)/\WdN h.2.2/\h.2.2.length<=300
 up:∀h∈H,h.2.2.Pairwise λa b=>a.1<b.1
 dist:H.Pairwise λa b=>a.1≠b.1
def ovW(v:Int)(l:List Int)(h:Wr):List Int:=if h.1<=v then ovl l h.2.2 else l
def stA(cells:List Int)(H:List Wr)(v:Int):List Int:=(WcI H).foldl (ovW v) cells
theorem Wvt{A:List Int}(hA:Vals 8 A)(hr:WdN h.2.2):Vals 8 (ovW v A h):=by
 unfold ovW;split
 .exact WlY hA hr
 .exact hA
theorem Wto{c:Int}(h0:0<=c)(h7:c<=7):∀(S:List Wr) (A:List Int) (r:Int×Int),Vals 8 A->Ris cfW S->(∀h∈S,WdN h.2.2/\h.2.2.Pairwise λa b=>a.1<b.1)->(∀h∈S,r.1<h.1)->A.getD c.toNat 0=r.2->Vals 8 (S.foldl (ovW v) A)/\(S.foldl (ovW v) A).getD c.toNat 0=(S.foldl (Wgh c v) r).2
 | [],A,r,hA,_,_,_,e=>⟨hA,e⟩
 |h::S,A,r,hA,hs,hr,hlt,e=>by
  obtain⟨s1,s2⟩:=Xv.1 hs;obtain⟨r1,r2⟩:=hr h (Xg ..);have hl:=hlt h (Xg ..);rw[Xbb,Xbb];refine Wto h0 h7 S _ _ (Wvt hA r1) s2 (λy hy=>hr y (Xe _ hy)) (λy hy=>?_) ?_
  .have h1:=s1 y hy;have h2:=hlt y (Xe _ hy);unfold cfW at h1;unfold Wgh;split
   .split
    .simp only;omega
    .exact h2
   .exact h2
  .unfold ovW Wgh;rw[Wuu r2];by_cases hv:h.1<=v
   .rw[Wb hv,WoT hA r1 h0 h7];cases lst h.2.2 c with
    |some x=>simp only;rw[Wb ⟨hv,hl⟩]
    |none=>exact e
   .rw[Wa hv];cases lst h.2.2 c with
    |some x=>simp only;rw[Wa (λz=>hv z.1)];exact e
    |none=>exact e
theorem Wxz(hH:HG H)(hc:Vals 8 cells):Vals 8 (stA cells H v)/\∀c:Int,0<=c->c<=7->(stA cells H v).getD c.toNat 0=(bst (cells.getD c.toNat 0) c v H).2:=by
 obtain⟨s1,s2⟩:=Wg0 hH.dist;have key:∀c:Int,0<=c->c<=7->_:=λc h0 h7=>Wto (v:=v) h0 h7 (WcI H) cells (0,cells.getD c.toNat 0) hc s1 (λh hh=>⟨(hH.each h ((s2 h).1 hh)).2.2.1,hH.up h ((s2 h).1 hh)⟩) (λh hh=>by have:=(hH.each h ((s2 h).1 hh)).1;simp only;omega) rfl;refine⟨(key 0 (by omega) (by omega)).1,λc h0 h7=>?_⟩;have:=(key c h0 h7).2;rw[Wua H _ hH.dist]at this;exact this
end
end
section
theorem Wim{n:Nat}(h:n<256):(UInt8.ofNat n).toNat=n:=by simp;omega
theorem Wv5:∀(k n:Nat),n<128^(k+1)->dec ((vlF k n).map UInt8.ofNat)=n
 |0,n,h=>by
  have:n<128:=by simpa using h
  simp only[vlF,Xae,Xbt,dec,Wim (show n<256 by omega)];omega
 |k+1,n,h=>by
  unfold vlF;split
  .simp only[Xae,Xbt,dec,Wim (show n<256 by omega)];omega
  .rw[Xae,dec,Wv5 k (n/128) (by rw[Xej]at h;omega),Wim (by omega)];omega
theorem Wlq:∀(k j n:Nat),n<128^(j+1)->(vlF k n).length<=j+1
 |0,j,n,_=>by simp[vlF]
 |k+1,j,n,h=>by
  unfold vlF;split
  .simp
  .cases j with
   |zero=>simp at h;omega
   |succ j=>
    have:=Wlq k j (n/128) (by rw[Xej]at h;omega);rw[Xr];omega
theorem Wnf{n:Nat}(h:n<2097152)(r:List UInt8):rv (var n++r)=(n,(var n).length):=by
 have hL:(var n).length<=3:=by unfold var;rw[Xab];exact Wlq 8 2 n (by omega)
 have hd:dec (var n)=n:=Wv5 8 n (by omega);obtain⟨a,c,e1,h2,h3⟩:=Wjk (n:=n) (by omega);have hal:(var n).length=a.length+1:=by rw[e1];simp
 have key:∀j k,k+j=8->1<=k->k<=(var n).length->rvF (var n++r) j k=(n,(var n).length):=by
  intro j
  induction j with
  |zero=>intro k h1 _ h3;omega
  |succ j ih=>
   intro k hk h1 hle;unfold rvF;rw[Wb (by rw[Xs];omega)];by_cases e:k=(var n).length
   .subst e;rw[Xgl,hd,Wb rfl]
   .have hi:k-1<(var n++r).length:=by rw[Xs];omega
    have hb:¬(var n++r)[k-1].toNat<128:=by
     have tC:k-1<a.length:=by omega
     have:(var n++r)[k-1]=a[k-1]:=by
      simp only[e1];rw[Xei (by simp;omega),Xei tC]
     rw[this];have:=h3 _ (Xo tC);omega
    have:=Wt5 hi (by omega) hb;rw[show k-1+1=k by omega]at this;rw[Wa this];exact ih (k+1) (by omega) (by omega) (by omega)
 exact key 7 1 rfl (by omega) (Wpr n).1
def rwB(r:Rw):List UInt8:=WgZ r.1++WgZ r.2
theorem WtN:∀(l:List Rw) (s:List UInt8),shR l s=s++(l.map rwB).flatten
 | [],s=>by simp[shR]
 |r::l,s=>by
  show shR l ((s++WgZ r.1)++WgZ r.2)=_;rw[WtN l];simp[rwB]
theorem WfP{z:Int}(h:0<=z/\z<2097152):∃n:Nat,z=n/\n<2097152/\WgZ z=var n:=by
 obtain⟨n,rfl⟩:∃n:Nat,z=n:=⟨z.toNat,by omega⟩;exact⟨n,rfl,by omega,WkP (by omega)⟩
theorem Ws5(n:Nat):(var n).length≠0:=by have:=(Wpr n).1;omega
theorem WsK(s:List UInt8):∀(l:List Rw) (p:Nat),WdN l->s.drop p=(l.map rwB).flatten->rws s l.length p=some l
 | [],p,_,_=>rfl
 |r::l,p,hr,hs=>by
  have h0:=hr r (Xg ..);obtain⟨a,ea,la,va⟩:=WfP (z:=r.1) (by omega);obtain⟨c,ec,lc,vc⟩:=WfP (z:=r.2) (by omega);have e1:s.drop p=var a++(var c++(l.map rwB).flatten):=by
   rw[hs,Xae,Xfx];unfold rwB;rw[va,vc,Xbo]
  have r1:rv (s.drop p)=(a,(var a).length):=by rw[e1];exact Wnf la _
  have e2:s.drop (p+(var a).length)=var c++(l.map rwB).flatten:=by rw[←Xbs,e1,Xcq]
  have r2:rv (s.drop (p+(var a).length))=(c,(var c).length):=by rw[e2];exact Wnf lc _
  have e3:s.drop (p+(var a).length+(var c).length)=(l.map rwB).flatten:=by rw[←Xbs,e2,Xcq]
  rw[Xr,rws,r1];simp only;rw[r2];simp only;rw[Wa (λz=>by rcases z with z|z<;>exact Ws5 _ z),WsK s l _ (λx hx=>hr x (Xe _ hx)) e3];simp only[Option.map_some,←ea,←ec]
structure WK(w:Wr):Prop where
 ok:wOk w=true
 st:1<=w.1/\w.1<=1000000
 who:1<=w.2.1/\w.2.1<=99
 rows:WdN w.2.2
 len:w.2.2.length<=8
theorem WvP:∀{l:List Rw},l.Pairwise (λa b=>a.1<b.1)->adj l=true
 | [],_=>rfl
 | [_],_=>rfl
 |a::b::l,h=>by
  obtain⟨h1,h2⟩:=Xv.1 h;rw[adj,WvP h2,Wf (h1 b (Xg ..))];rfl
theorem WK.of{w:Wr}(h1:1<=w.1/\w.1<=1000000)(h2:1<=w.2.1/\w.2.1<=99)(h3:WdN w.2.2)(h4:w.2.2.length<=8)(h5:w.2.2.Pairwise λa b=>a.1<b.1):WK w:=by
 refine⟨?_,h1,h2,h3,h4⟩;unfold wOk;rw[Wht h3 (by omega),WvP h5];simp;omega
theorem Wsk{w:Wr}(h:WK w):rdW (shW w)=some w/\(shW w).length<=120/\shW w≠ []:=by
 obtain⟨a,ea,la,va⟩:=WfP (z:=w.1) (by have:=h.st;omega);obtain⟨c,ec,lc,vc⟩:=WfP (z:=w.2.1) (by have:=h.who;omega);obtain⟨d,ed,ld,vd⟩:=WfP (z:=(w.2.2.length:Int)) (by have:=h.len;omega);have hs:shW w=var a++(var c++(var d++(w.2.2.map rwB).flatten)):=by
  unfold shW;rw[Wb h.ok,WtN,va,vc,vd];simp
 have r1:rv (shW w)=(a,(var a).length):=by rw[hs];exact Wnf la _
 have d1:(shW w).drop (var a).length=var c++(var d++(w.2.2.map rwB).flatten):=by rw[hs,Xcq]
 have r2:rv ((shW w).drop (var a).length)=(c,(var c).length):=by rw[d1];exact Wnf lc _
 have d2:(shW w).drop ((var a).length+(var c).length)=var d++(w.2.2.map rwB).flatten:=by rw[←Xbs,d1,Xcq]
 have r3:rv ((shW w).drop ((var a).length+(var c).length))=(d,(var d).length):=by rw[d2];exact Wnf ld _
 have d3:(shW w).drop ((var a).length+(var c).length+(var d).length)=(w.2.2.map rwB).flatten:=by rw[←Xbs,d2,Xcq]
 have q1:p1 (shW w)=(var a).length:=by unfold p1;rw[r1]
 have q2:p2 (shW w)=(var a).length+(var c).length:=by unfold p2;rw[q1,r2]
 have AW:p3 (shW w)=(var a).length+(var c).length+(var d).length:=by unfold p3;rw[q2,r3]
 have q4:q3 (shW w)=d:=by unfold q3;rw[q2,r3]
 have hd:d=w.2.2.length:=by omega
 have hw:mkW (shW w) w.2.2=w:=by
  unfold mkW;rw[r1,q1,r2];show((a:Int),((c:Int),w.2.2))=w;rw[←ea,←ec]
 refine⟨?_,?_,?_⟩
 .unfold rdW;rw[r1,q1,r2,q2,r3];simp only;have yN:=d3;rw[hd]at yN;rw[Wa (λz=>by rcases z with z|z|z<;>exact Ws5 _ z),q4,Wa (by have:=h.len;omega),AW,hd,WsK (shW w) w.2.2 _ h.rows yN];simp only[Xc];rw[hw,Wb rfl]
 .have hv:∀n,n<2097152->(var n).length<=3:=λn hn=>by unfold var;rw[Xab];exact Wlq 8 2 n (by omega)
  have hf:∀l:List Rw,WdN l->((l.map rwB).flatten).length<=6*l.length:=by
   intro l
   induction l with
   |nil=>intro _;simp
   |cons r l ih=>
    intro hr;have h0:=hr r (Xg ..);obtain⟨x,_,lx,vx⟩:=WfP (z:=r.1) (by omega);obtain⟨y,_,ly,vy⟩:=WfP (z:=r.2) (by omega);have:=ih λz hz=>hr z (Xe _ hz);have h1:=hv x lx;have h2:=hv y ly;rw[Xae,Xfx,Xs,Xr];unfold rwB at this⊢;rw[vx,vy,Xs];omega
  have h1:=hv a la;have h2:=hv c lc;have h3:=hv d ld;have h4:=hf _ h.rows;have h5:=h.len;rw[hs];simp only[Xs];omega
 .intro e;have:=Ws5 a;rw[e]at hs;have:=Wk Xa hs;simp only[Xs,Xcm]at this;omega
theorem WxM{t:List UInt8}(h:t.length<=120)(r:List UInt8):unf (fr t++r)=(t,(fr t).length):=by
 have hf:fr t=fx (crc (UInt8.ofNat t.length::t))++UInt8.ofNat t.length::t:=by unfold fr;rw[Wa (by omega)]
 have AX:∀n,(fx n).length=4:=λn=>rfl;have hl:(fr t).length=5+t.length:=by rw[hf];simp[AX];omega
 have e1:(fr t++r).getD 4 0=UInt8.ofNat t.length:=by rw[hf];rfl
 have e2:(fr t++r).drop 5=t++r:=by rw[hf];rfl
 unfold unf;rw[e1,e2,Wim (by omega),Wa (by simp;omega),Wa (by simp;omega),Xgl,←hl,Xgl,Wb rfl]
theorem WvR(t:List UInt8):(fr t).length<=125:=by
 unfold fr;split
 .simp
 .simp[fx];omega
def Whx(S:List Wr):List UInt8:=(S.map λw=>fr (shW w)).flatten
theorem Wti(S:List Wr)(w:Wr):Whx (S++ [w])=Whx S++fr (shW w):=by unfold Whx;simp
theorem Wk9:∀S:List Wr,(Whx S).length<=125*S.length
 | []=>Xm _
 |w::S=>by
  have h1:=Wk9 S;have h2:=WvR (shW w);unfold Whx at h1⊢;rw[Xae,Xfx,Xs,Xr];omega
theorem WtS:∀(S:List Wr) (n:Nat) (last:Int),(∀w∈S,WK w/\last<w.1)->S.Pairwise (λa b=>a.1<b.1)->S.length<n->jr n last (Whx S)=(S,(Whx S).length)
 | [],n,last,_,_,hn=>by
  obtain⟨m,rfl⟩:∃m,n=m+1:=⟨n-1,by simp at hn;omega⟩;rfl
 |w::S,n,last,h,hp,hn=>by
  obtain⟨m,rfl⟩:∃m,n=m+1:=⟨n-1,by simp at hn;omega⟩;obtain⟨p1,p2⟩:=Xv.1 hp;obtain⟨h1,h2⟩:=h w (Xg ..);obtain⟨r1,r2,_⟩:=Wsk h1;have e:Whx (w::S)=fr (shW w)++Whx S:=rfl;have hu:=WxM r2 (Whx S);have ih:=WtS S m w.1 (λx hx=>⟨(h x (Xe _ hx)).1,p1 x hx⟩) p2 (by simp at hn;omega);rw[e,jr,hu];simp only[r1];rw[Wa (by omega),Xcq,ih,Xs]
theorem WyK{α:Type}{l:List α}(h:0<l.length)(h2:l.length<=1048576):WZ .i64 (Wj l) 1=((l.length-1:Nat):Int):=by
 unfold Wj;rw[Wam (by unfold I64;omega)];omega
theorem WoF{N:Nat}{S:List Wr}{w:Wr}(hS:∀x∈S,WK x/\x.1<w.1)(hp:S.Pairwise λa b=>a.1<b.1)(hl:S.length<=100)(hw:WK w)(hN:1048576<N):Zju N (Whx S) w=two (Whx (S++ [w]),true):=by
 obtain⟨r1,r2,r3⟩:=Wsk hw;have wY:=Wk9 S;have wZ:jr 200 0 (Whx S)=(S,(Whx S).length):=WtS S 200 0 (λx hx=>⟨(hS x hx).1,by have:=(hS x hx).1.st;omega⟩) hp (by omega);have hw8:=hw.len;have gh:=WvR (shW w);unfold Zju;rw[Whz (w:=w) (by omega) hN,Wkm (by omega) hN,wZ,Wti];have hne:seq (shW w) []=false:=by
  unfold seq;simpa using r3
 have ef:Zd4 N (shW w)=ret (fr (shW w)):=WgQ (by omega) hN;have e1:(Wj S==200)=false:=by simp[Wj];omega
 have ht:Xaf (Whx S).length (Whx S)=Whx S:=Xdm;simp only[ret,Xc,hne,Wc,ef,Wm2 (Xm (Whx S).length),We,Xj,Whf,ht,e1];rw[WdU (by omega)];simp only[We];by_cases h0:0<S.length
 .have e3:decide (Wj S>0)=true:=by simp[Wj];omega
  rw[e3,WyK h0 (by omega),Ww (show S.length-1<S.length by omega),Wx (show S.length-1<S.length by omega)];have:=(hS _ (Xo (show S.length-1<S.length by omega))).2;simp only[We];rw[Wq (by omega)];rfl
 .have e3:decide (Wj S>0)=false:=Wq (by unfold Wj;omega);rw[e3];rfl
end
section
section
variable{N:Nat}{s:Sc}{w:Wo}{n:Int}{x:Rt}{k:Nat}{p:Pg}{m:Mm}{H S:List Wr}{C:Nat->Option Cm}{cells:List Int}{b:Int->Int}{a:Ac}
structure OL(b:Int->Int)(s:Sc)(n:Int)(w:Wo):Prop where
 ok:WOk s.2.1 n w
 wx:WX w
 lx:LX w
 wt:WT w
 mi:MI b w.mem w.hist (WfT w.roots)
 hw:HW w.roots w.hist
theorem Wth:∀(l:List Ac) (n:Int) (w:Wo),OL b s n w->n+l.length<=99999->OL b s (n+l.length) (l.foldl (Wcw s) w)
 | [],n,w,h,_=>by simpa using h
 |e::l,n,w,h,hn=>by
  simp only[Xr]at hn
  push_cast at hn
  have:=Wth l (n+1) _ ⟨Wch (a:=e) h.ok,(WdL h.ok h.wx).1,Wl7 h.ok h.wx h.lx,Wpl h.ok h.wt,(Wsb h.ok h.lx h.wx h.wt (by omega) h.mi).1,Wwu h.ok h.wx h.wt h.mi h.hw (by omega)⟩ (by omega);rw[show n+((e::l).length:Int)=n+1+(l.length:Int) by simp;omega];exact this
theorem Wt4{s:Sc}(hc:Vals 8 s.1.1):MI (λi=>s.1.1.getD i.toNat 0) (Wft s).mem (Wft s).hist (WfT (Wft s).roots):=by
 have cE:∀k c,WfT (Wft s).roots k=some c->False:=λk c h=>by
  obtain⟨hk,h5,_⟩:=Wi4 h;have:(Wft s).roots[k].phase=0:=by simp only[Wft,List.getElem_replicate]
  omega
 refine⟨(λh hh=>by cases hh),λk c h=>Wi h (λh=>cE k c h),λk k' c c' _ h=>Wi h (λh=>cE k c h),λi h0 h7 _=>?_,λk c h=>Wi h (λh=>cE k c h)⟩;have hl:=hc.len;have hi:i.toNat<s.1.1.length:=by omega
 have e:Wz (Wft s).mem i=(s.1.1.getD i.toNat 0,0,0):=by
  unfold Wz Wcl Wft Wkh;simp only;rw[Wp (by simpa using hi),Wp hi,Xds];rfl
 rw[e];exact⟨rfl,rfl⟩
theorem WuT(aG:Wmo s=true):∃n,OL (λi=>s.1.1.getD i.toNat 0) s n (WaT s 6000 (Wes s)).1/\n<=99999:=by
 obtain⟨l,hl,e⟩:=Wkv aG;rw[e];exact⟨_,Wth (s.2.2++l) 0 _ ⟨Wiv aG,WvW,WtY aG,Wr7,Wt4 (WeR aG).1.cells,⟨(λh hh=>by cases hh),List.nodup_nil,List.Pairwise.nil,(λh hh=>by cases hh)⟩⟩ (by omega),by omega⟩
theorem OL.srt(h:OL b s n w)(hn:n<=99999):HG w.hist/\(∀e∈WcI w.hist,WK e)/\(WcI w.hist).Pairwise (λa b=>a.1<b.1):=by
 have jj:w.roots.length<=4:=by rw[h.ok.len];exact h.ok.l4
 have hl:=h.hw.len jj;obtain⟨s1,s2⟩:=Wg0 h.hw.dist;have each:∀e∈w.hist,(1<=e.1/\e.1<=1000000)/\(1<=e.2.1/\e.2.1<=99)/\WdN e.2.2/\e.2.2.length<=8:=λe he=>by
  obtain⟨a1,a2,a3,a4⟩:=h.ok.histE e he;obtain⟨c1,c2⟩:=h.mi.st e he;have:=h.wt.clk;have:=h.ok.now;exact⟨by omega,by omega,a2,a1⟩
 refine⟨⟨hl,λe he=>?_,h.hw.up,h.hw.dist⟩,λe he=>?_,s1.imp λ{a b} z=>by unfold cfW at z;omega⟩
 .obtain⟨a,c,d,f⟩:=each e he;exact⟨a,c,d,by omega⟩
 .have he:=(s2 e).1 he;obtain⟨a,c,d,f⟩:=each e he;exact WK.of a c d f (h.hw.up e he)
theorem WrQ(hd:H.Pairwise λa b=>a.1≠b.1):sortInts (H.map (·.1))=(WcI H).map (·.1):=by
 obtain⟨s1,s2⟩:=Wg0 hd;unfold sortInts;have hp:(H.map (·.1)).Perm ((WcI H).map (·.1)):=by
  rw[←Wi5 Wyi s1 (hd.imp λz=>WyO.2 z) λx=>(s2 x).symm];unfold sortBy;exact(Xed _ _).symm.map _
 have h1:=List.pairwise_mergeSort (le:=λx y:Int=>decide (x<=y)) (λa b c=>by simp only[Wh];omega) (λa b=>by simp only[Bool.or_eq_true,Wh];omega) (H.map (·.1));refine List.Perm.eq_of_pairwise (le:=λx y:Int=>decide (x<=y)=true) (λa b _ _ h1 h2=>?_) h1 ?_ ((Xed _ _).trans hp)
 .simp only[Wh]at h1 h2;omega
 .rw[List.pairwise_map];exact s1.imp λ{a b} z=>by unfold cfW at z;simp;omega
theorem Ww8(hp:H.Pairwise λa b=>a.1≠b.1){i:Nat}(hi:i<H.length)(hl:H.length<=1000)(hN:1048576<N):Z7 N (H.take i) H[i]=some ((H[i],()),(false,())):=by
 unfold Z7 Zx;have re:(H.take i).length<=1000:=by rw[Xan];omega
 have h1:=WC (l:=H.take i) (V:=Unit) (R:=(Wr×Unit)×Kh) (lp:=λn j v=>Zl N (H.take i) (λbf ax=>(some ((ax,()),(bf,())))) (λcR fG da=>(some ((da,()),((-1:Int),())))) n j H[i]) (n:=N) (by omega)
  (body:=λj x v k=>k v) (K:=λ_ v=>some ((H[i],()),((-1:Int),())))
  (λn j v hj=>by
   have hj':j<i:=by rw[Xan]at hj;omega
   have hne:H[j].1≠H[i].1:=Xak.1 hp j i (by omega) hi hj';have hg:(H.take i)[j]=H[j]:=Xfu ..;simp only[Zl,W4 hj,Ww hj,Wx hj,Wn (show j<4611686018427387904 by omega),We,Zov,Xc];rw[hg,show(H[j].1==H[i].1)=false by simpa using hne,Wc])
  (λn v=>by simp only[Zl,Wae (Xm _),Wc]) ()
 rw[WdD (f:=λv _=>v) (H.take i) 0 () (λj x v k _=>rfl)]at h1;rw[h1];rfl
theorem Wll(hH:HG H)(hN:1048576<N):Zi2 N H=ret true:=by
 unfold Zi2;have hl:=hH.len;have h1:=WC (l:=H) (V:=Unit) (R:=Unit×Kq) (lp:=λn j v=>Zdq N H (some ((),(false,()))) (λgH d6=>some ((),(decide ((Wj H)<=(200:Int)),()))) n j) (n:=N) (by omega)
  (body:=λj x v k=>k v) (K:=λ_ v=>some ((),(decide ((Wj H)<=(200:Int)),())))
  (λn i v hi=>by
   obtain⟨⟨a1,a2⟩,⟨a3,a4⟩,a5,a6⟩:=hH.each _ (Xo hi);have e1:(decide (1<=H[i].1)&&decide (H[i].1<=1000000))=true:=by simp;omega
   have e2:(decide (1<=H[i].2.1)&&decide (H[i].2.1<=99))=true:=by simp;omega
   have e3:((decide ((0:Int)<=(i:Int)))&&(decide ((i:Int)<=((Xa H):Int))))=true:=by simp;omega
   simp only[Zdq,W4 hi,Ww hi,Wx hi,Wn (show i<4611686018427387904 by omega),We,WV,Wbr,e1,e2,e3,ret,Xc,Xt,Wc,Wa5 (show H[i].2.2.length<=1048576 by omega) hN,Wht a5 a6];simp only[Xj,Ww8 hH.dist hi (by omega) hN,Xc,Wc])
  (λn v=>by simp only[Zdq,Wae (Xm _),Wc]) ()
 refine h1.trans ?_;rw[WdD (f:=λv _=>v) H 0 () (λj x v k _=>rfl),Wf (show Wj H<=200 by unfold Wj;omega)]
theorem WjB(hH:HG H)(hN:1048576<N):Zi3 N H=ret ((WcI H).map (·.1)):=by
 unfold Zi3;have hl:=hH.len;rw[Wll hH hN];simp only[ret,Xc,Xt,Wc];have h1:=WC (l:=H) (V:=List Int) (R:=Unit×(List Int×Unit)) (lp:=λn j v=>Zdr N H (λao aq aY=>((Zc3 N aY).bind λbX=>(some ((),(bX.1.1,()))))) n j v) (n:=N) (by omega)
  (body:=λj x v k=>bif WM (v.length+ [x.1].length)then k (Xf v [x.1])else none) (K:=λ_ v=>((Zc3 N v).bind λbX=>(some ((),(bX.1.1,())))))
  (λn i v hi=>by simp only[Zdr,W4 hi,Ww hi,Wx hi,Wn (show i<4611686018427387904 by omega),We])
  (λn v=>by simp only[Zdr,Wae (Xm _),Wc]) []
 refine h1.trans ?_;rw[Wcg (f:=λx:Wr=>x.1) H 0 [] (by simp;omega) (λj x v k _=>rfl),Xbn];unfold Zc3 Zor;rw[Wf (show(H.map (·.1)).length<4611686018427387904 by rw[Xab];omega),WrQ hH.dist];rfl
section
variable{R:Type}{K0:Option R}{K1:List UInt8->Int->Bool->Option R}{bN:List Int}
theorem WyX(hH:HG H)(hK:∀e∈WcI H,WK e)(hS:(WcI H).Pairwise λa b=>a.1<b.1)(hw:w.hist=H){i:Nat}(hi:i<(WcI H).length)(hN:1048576<N):∀(d j fuel:Nat),j+d=H.length->d<fuel->
  Zbi N (i:Int) s w.e ((WcI H).map (·.1)) K0 K1 fuel (if(H.take j).any (λe=>decide (e.1=(WcI H)[i].1))then Whx ((WcI H).take (i+1))else Whx ((WcI H).take i)) (j:Int)=K1 (Whx ((WcI H).take (i+1))) (H.length:Int) false
 |0,j,fuel,hj,hf=>by
  obtain⟨g,rfl⟩:∃g,fuel=g+1:=⟨fuel-1,by omega⟩;have:j=H.length:=by omega
  subst this;have e6:Q6 w.e=H:=hw;have w4:(H.take H.length).any (λe=>decide (e.1=(WcI H)[i].1))=true:=by
   rw[Xdm,Xhl];exact⟨(WcI H)[i],((Wg0 hH.dist).2 _).1 (Xo hi),by simp⟩
  rw[Wb w4];simp only[Zbi,e6,Wae (Xm _),Wc]
 |d+1,j,fuel,hj,hf=>by
  obtain⟨g,rfl⟩:∃g,fuel=g+1:=⟨fuel-1,by omega⟩;have hlt:j<H.length:=by omega
  have e6:Q6 w.e=H:=hw;have hl:=hH.len;have gz:i<((WcI H).map (·.1)).length:=by rw[Xab];exact hi
  have hg:((WcI H).map (·.1))[i]=(WcI H)[i].1:=Xds ..;have ih:=WyX hH hK hS hw hi hN d (j+1) g (by omega) (by omega);have iD:H.take (j+1)=H.take j++ [H[j]]:=Xbf hlt;have hjm:=Xo hlt;simp only[Zbi,WD,e6,W4 hlt,Ww hlt,Wx hlt,Ww gz,Wx gz,hg,We,WH,Wn (show j<4611686018427387904 by omega)];by_cases he:H[j].1=(WcI H)[i].1
  .have qo:(H.take j).any (λe=>decide (e.1=(WcI H)[i].1))=false:=by
    rw[Xbw];intro z;obtain⟨y,hy,hz⟩:=Xhl.1 z;obtain⟨k,hk,rfl⟩:=Xcv.1 hy;rw[Xan]at hk;have hz:H[k].1=(WcI H)[i].1:=by
     have:(H.take j)[k]'(by rw[Xan];exact hk)=H[k]:=Xfu ..;rw[this]at hz;simpa using hz
    exact Xak.1 hH.dist k j (by omega) hlt (by omega) (hz.trans he.symm)
   have yz:H[j]=(WcI H)[i]:=by
    obtain⟨k,hk,e⟩:=Xcv.1 (((Wg0 hH.dist).2 _).1 (Xo hi));by_cases ek:k=j
    .subst ek;exact e
    .exfalso;rw[←e]at he;rcases Nat.lt_or_gt_of_ne ek with h|h
     .exact Xak.1 hH.dist k j hk hlt h he.symm
     .exact Xak.1 hH.dist j k hlt hk h he
   rw[iD,Xhs,qo]at ih;simp only[Xfs,Xhf,Xft,Bool.false_or,Wf he,Waq]at ih;rw[qo,Wb he];simp only[Wa (show¬(false=true) by simp)];have w5:=WoF (N:=N) (S:=(WcI H).take i) (w:=(WcI H)[i]) (λx hx=>?_) (hS.sublist (List.take_sublist ..)) (by rw[Xan];have:=WoA hH.dist;omega) (hK _ (Xo hi)) hN
   .rw[yz,w5,←Xbf hi];simp only[Xc,Xt,Wc];exact ih
   .obtain⟨k,hk,rfl⟩:=Xcv.1 hx;rw[Xan]at hk;rw[Xfu];exact⟨hK _ (Xo _),Xak.1 hS k i (by omega) hi (by omega)⟩
  .rw[iD,Xhs]at ih;simp only[Xfs,Xhf,Xft,Wq he]at ih;rw[Wa he];exact ih
theorem Wy1(hH:HG H)(hK:∀e∈WcI H,WK e)(hS:(WcI H).Pairwise λa b=>a.1<b.1)(hw:w.hist=H)(hN:1048576<N):∀(d i fuel:Nat),i+d=(WcI H).length->d<fuel->
  Zbj N s w.e ((WcI H).map (·.1)) K0 K1 fuel (Whx ((WcI H).take i)) (i:Int)=K1 (Whx (WcI H)) ((WcI H).length:Int) false
 |0,i,fuel,hi,hf=>by
  obtain⟨g,rfl⟩:∃g,fuel=g+1:=⟨fuel-1,by omega⟩;have:i=(WcI H).length:=by omega
  subst this;have hm:((WcI H).map (·.1)).length=(WcI H).length:=Xab ..;have AY:decide (((WcI H).length:Int)<Wj ((WcI H).map (·.1)))=false:=by unfold Wj;rw[hm];simp
  simp only[Zbj,AY,Wc,Xdm]
 |d+1,i,fuel,hi,hf=>by
  obtain⟨g,rfl⟩:∃g,fuel=g+1:=⟨fuel-1,by omega⟩;have hlt:i<(WcI H).length:=by omega
  have qk:i<((WcI H).map (·.1)).length:=by rw[Xab];exact hlt
  have hl:=hH.len;have hsl:=WoA hH.dist;have ih:=Wy1 hH hK hS hw hN d (i+1) g (by omega) (by omega);simp only[Zbj,W4 qk,We,Wn (show i<4611686018427387904 by omega)];have h1:=WyX (N:=N) (s:=s) (w:=w) (K0:=K0) (K1:=λkD zO vK=>Zbj N s w.e ((WcI H).map (·.1)) K0 K1 g kD ((i+1:Nat):Int)) hH hK hS hw hlt hN H.length 0 N (by omega) (by omega);simp only[List.take_zero,Xhf,Wa (show¬(false=true) by simp)]at h1;refine Eq.trans h1 ?_;exact ih
end
theorem WvZ{v:Int}:∀(S:List Wr) (A:List Int),(∀e∈S,e.1<=v)->S.foldl (ovW v) A=S.foldl (λl e=>ovl l e.2.2) A
 | [],_,_=>rfl
 |e::S,A,h=>by
  rw[Xbb,Xbb,show ovW v A e=ovl A e.2.2 by unfold ovW;rw[Wb (h e (Xg ..))]];exact WvZ S _ λx hx=>h x (Xe _ hx)
theorem Wq2(hK:∀e∈S,WK e)(hS:S.Pairwise λa b=>a.1<b.1)(hl:S.length<=100)(hc:Vals 8 cells)(hN:1048576<N):Zcu N cells (Whx S)=ret (S.foldl (λl e=>ovl l e.2.2) cells):=by
 have hcl:=hc.len;have wY:=Wk9 S;have wZ:jr 200 0 (Whx S)=(S,(Whx S).length):=WtS S 200 0 (λx hx=>⟨hK x hx,by have:=(hK x hx).st;omega⟩) hS (by omega);unfold Zcu;rw[Wdo (by omega) hN,Wil.2 hc];simp only[ret,Xc,Xt,Wc];rw[Wbe (by omega)];simp only[ret,Xc];rw[Wkm (by omega) hN,wZ];simp only[Xc];have h1:=WC (l:=S) (V:=List Int) (R:=Unit×(List Int×Unit)) (lp:=λn j v=>Zbk N (Wj S) S (λbf eY bN=>(some ((),(bN,())))) n j v) (n:=N) (by omega)
  (body:=λj x v k=>(Zgv N v x.2.2).bind λo=>k o.2.1) (K:=λ_ v=>ret v)
  (λn i v hi=>by simp only[Zbk,W4 hi,Ww hi,Wx hi,Wn (show i<4611686018427387904 by omega),We])
  (λn v=>by simp only[Zbk,Wae (Xm _),Wc]) cells
 refine h1.trans ?_;rw[Wk5 (β:=Unit) (f:=λl e=>ovl l e.2.2) (λl=>Vals 8 l) S 0 cells hc (λx hx l hl=>WlY hl (hK x hx).rows) (λk x l kk hx hl=>by rw[Wpq hl (hK x hx).rows (by have:=(hK x hx).len;omega) hN];rfl)]
theorem Woi{N:Nat}{m:Mm}(hm:W2 m=true)(hN:1048576<N):Zho N m=ret (m.2.map (·.1)):=by
 obtain⟨m8,_,_,_⟩:=WF hm;unfold Zho;rw[Wba (by omega) hN,hm];simp only[ret,Xc,Xt,Wc];have h1:=WC (l:=m.2) (V:=List Int) (R:=Unit×(List Int×Unit)) (lp:=λn j v=>Zdp N m.2 (Wj m.2) (λao aq aY=>(some ((),(aY,())))) n j v) (n:=N) (by omega)
  (body:=λj x v k=>bif WM (v.length+ [x.1].length)then k (Xf v [x.1])else none) (K:=λ_ v=>ret v)
  (λn i v hi=>by simp only[Zdp,W4 hi,Ww hi,Wx hi,Wn (show i<4611686018427387904 by omega),We])
  (λn v=>by simp only[Zdp,Wae (Xm _),Wc]) []
 refine h1.trans ?_;rw[Wcg (f:=λx:Int×Int×Int=>x.1) m.2 0 [] (by simp;omega) (λj x v k _=>rfl)];rfl
theorem WrS(h:OL (λi=>s.1.1.getD i.toNat 0) s n w)(hn:n<=99999)(hc:Vals 8 s.1.1)(hd:∀x∈w.roots,x.phase=8):w.mem.2.map (·.1)=(WcI w.hist).foldl (λl e=>ovl l e.2.2) s.1.1:=by
 obtain⟨hH,hK,hS⟩:=h.srt hn;obtain⟨s1,s2⟩:=Wg0 hH.dist;obtain⟨m8,_,_,_⟩:=WF h.ok.mem;have e:(WcI w.hist).foldl (λl e=>ovl l e.2.2) s.1.1=stA s.1.1 w.hist 2000000:=(WvZ _ _ λe he=>by have:=(hK e he).st;omega).symm;rw[e];obtain⟨t1,t2⟩:=Wxz (v:=2000000) hH hc;have cE:∀k c,WfT w.roots k=some c->False:=λk c hk=>by
  obtain⟨cw,h5,_⟩:=Wi4 hk;have:=hd _ (Xo cw);omega
 refine List.ext_getElem (by rw[Xab,t1.len];exact m8) λi h1 h2=>?_;have hi:i<w.mem.2.length:=by rw[Xab]at h1;exact h1
 have ht:=t2 (i:Int) (by omega) (by omega);have hcl:=(h.mi.cell (i:Int) (by omega) (by omega) λk c hk=>Wi hk λz=>cE k c z).1;rw[Xj,Wp h2]at ht;rw[ht,Xds];have:Wz w.mem (i:Int)=w.mem.2[i]:=by unfold Wz Wcl;rw[Xj];exact Wp hi _
 rw[←this,hcl];rfl
theorem WtO{a:List Int}(ha:a.length<=1048576)(hN:1048576<N):Zfo N a a=ret true:=by
 unfold Zfo;have e:(Wj a !=Wj a)=false:=by simp
 rw[e];simp only[Wc];have h1:=WC (l:=a) (V:=Unit) (R:=Unit×Kq) (lp:=λn j _=>Zct N a a (some ((),(false,()))) (λi8 t9=>some ((),(true,()))) n j) (n:=N) (by omega)
  (body:=λj x v k=>k v) (K:=λ_ v=>some ((),(true,())))
  (λn i v hi=>by
   have e2:(a[i] !=a[i])=false:=by simp
   simp only[Zct,W4 hi,Ww hi,Wx hi,Wn (show i<4611686018427387904 by omega),We,e2,Wc])
  (λn v=>by simp only[Zct,Wae (Xm a.length),Wc]) ()
 refine h1.trans ?_;rw[WdD (f:=λv _=>v) a 0 () (λj x v k _=>rfl)]
theorem Wjz{code:List Int}(hN:1048576<N):Zds N code=ret true:=by
 unfold Zds Zuo;simp only[Xc];by_cases hb:code.length<=1048576
 .have e0:decide (Wj code>1048576)=false:=by simp[Wj];omega
  obtain⟨s,es,hs⟩:=Wl2 hN hb;rw[e0,es];simp only[Wc,ret,Xc];rw[WjI hs hN];simp only[ret,Xc];cases aG:Wmo s with
  |false=>rfl
  |true=>
   obtain⟨hR,_,_,m,hW⟩:=Wq6 aG;obtain⟨n,yO,hn⟩:=WuT aG;have hlen:=hW.ok.len;have hc:=(WeR aG).1.cells;rw[Wta hs hN aG];generalize WaT s 6000 (Wes s)=q at*;obtain⟨hH,hK,hS⟩:=yO.srt hn;have hl:=hH.len;have hsl:=WoA hH.dist;have vq:=WrS yO hn hc hR.done;have e6:q.1.e.2.2.2.2.2.2=q.1.hist:=rfl;have e5:q.1.e.2.2.2.2.2.1=q.1.roots.map Rt.e:=rfl;have e2:q.1.e.2.2.1=q.1.mem:=rfl;obtain⟨m8,_,_,_⟩:=WF hR.mem;simp only[Xt,Wc,Xc,e6,WjB hH hN,ret];have h0:=Wy1 (N:=N) (s:=s) (w:=q.1) (H:=q.1.hist) (K0:=(some ((),(false,())):Option Ke)) (K1:=λkE zP zQ=>
  (bif (Wj q.1.e.2.2.2.2.2.1)==(Wj s.2.1)then
 ((Zcu N s.1.1 kE).bind λlr=>
 ((Zho N q.1.e.2.2.1).bind λgF=>
 ((Zfo N lr.2.1 gF.2.1).bind λgG=>
 (some ((),(gG.2.1,()))))))
 else
 (some ((),(false,()))))) hH hK hS rfl hN (WcI q.1.hist).length 0 N (by omega) (by omega)
   refine Eq.trans h0 ?_;rw[e5,e2,show(Wj (q.1.roots.map Rt.e)==Wj s.2.1)=true by unfold Wj;rw[Xab,hlen];simp,We,Wq2 hK hS (by omega) hc hN,Woi hR.mem hN,←vq];simp only[ret,Xc];rw[WtO (by rw[Xab];omega) hN];rfl
 .have e0:decide (Wj code>1048576)=true:=by simp[Wj];omega
  rw[e0];rfl
theorem law_FnRecorded(d:WfC [.v (.slice (.int .u8)) false])(hw:Wqu [.v (.slice (.int .u8)) false] d):∃N o,Zds N d.1=some (o,(true,())):=
 ⟨1048577,(),Wjz (N:=1048577) (by omega)⟩
end
end
end Go.Sx
