/- Plain laws of the Lean functions. -/
import Derived.Test.YtlemhlmemchiaaaGreatMW2
open Option renaming bind_some→Xd
open Int renaming toNat_natCast→Xj,toNat→Xa,le_refl→Xu,le_trans→Xgi
open List renaming take→Xav,getD→Xb,length_take→Xal,length→Xc,length_map→Xy,drop_length→Xdo,getElem_map→Xcn,drop_eq_getElem_cons→Xcd,drop_zero→Xcf,set→Xm,replicate→Xaa,set_getElem_self→Xbq,getElem_mem→Xo,mem_append→Xl,pairwise_append→Xag,mem_singleton→Xx,map_append→Xr,eq_nil_of_length_eq_zero→Xad,mem_of_mem_take→Xbw,mem_map→Xv,all_eq_true→Xak,length_set→Xaf,getElem_set→Xao,getElem_replicate→Xbh,append_eq→Xai,mem_or_eq_of_mem_set→Xdj,mem_filter→Xat
open Bool renaming not_true→Xs,true_and→Xbt,and_eq_false_iff→Xcm,and_eq_true→Xi,and_self→Xbu,eq_false_iff→Xca
open Nat renaming le_refl→Xn
namespace Go.Sx
set_option linter.unusedVariables false
set_option linter.unusedSimpArgs false
section
variable{N:Nat}{w:Wo}{k:Nat}{x:Rt}{o:Opn}{p:Pg}{n:Int}{code:List Opn}
theorem RLive.mk24(hc:CC p.1)(h:RLive p n x)(hz:x.marks.length≠0):∃(m:Nat) (q:List RM),x.marks=q++ [x.last]/\x.last.1=(m:Int)/\(∃hm:m<p.1.length,p.1[m].1=8)/\(m:Int)<x.pc/\Mate p.1 m (WiM p.1 m)/\x.pc<=WiM p.1 m/\stk p.1 m=(stk p.1 x.pc.toNat).dropLast/\x.marks.dropLast=q/\
  Vals 4 x.last.2.2.2.2/\(0<=x.last.2.1/\x.last.2.1<=x.last.1+72*frk p.1 x.last.1.toNat/\x.last.2.1<=x.reads.length)/\(0<=x.last.2.2.1/\x.last.2.2.1<=x.last.1+8/\x.last.2.2.1<=x.writes.length)/\0<=x.last.2.2.2.1/\x.last.2.2.2.1<=x.last.1/\x.last.2.2.2.1<=x.undos.length:=by
 have hp:=h.pc;obtain⟨m,q,y,e1,e2,e3,e4,e5,e6,e7,e8,e9⟩:=Wjs (d:=zRM) hc (show x.pc.toNat<=p.1.length by omega) h.marks.pcs hz;have hl:x.last=y:=e2;have hy:=h.marks.each y (by rw[e1];simp);rw[hl];exact⟨m,q,e1,e3,e4,by omega,e6,by omega,e8,by rw[e1];simp,hy⟩
theorem WrM(hk:k<w.roots.length)(aQ:w.roots[k]=x)(lN:k<=8)(hc:CC p.1)(hx:RLive p n x)(hu:∀u∈x.undos,UnV u)(hs:ShOk w.shelf)(hh:HOk w.holds)(hN:1048576<N):
  Zjc N w.e (k:Int) p.1=some (((Wo.put (Wdg w x k p.1) k).e,()),()):=by
 obtain⟨g1,g2,g3,g4,g5⟩:=woG hk aQ;obtain⟨r0,r1,r2,r3,r4,r5,r6,r7,r8,jD,iS,hQ,hY,iw,iy,km,kn,jE,jF,ko,kp,kq⟩:=rtP x;obtain⟨z1,z2,z3,z4,z5,z6⟩:=hx.sz hc;have hcl:=hc.len;unfold Zjc Wdg;simp only[Wl];rw[show P5 w.e=w.roots.map Rt.e from rfl,g4,g2];simp only[cond_true,Wv,iw,Wb];by_cases hz:x.marks.length=0
 .rw[if_pos (by omega),if_pos hz,g3,Wlq hk aQ lN hh hx.rv z5 z6 hN];rfl
 .rw[if_neg (by omega),if_neg hz,WnX hz (by omega)];simp only[Xd,iy,Waa];obtain⟨m,q,e1,e2,⟨hm,kr⟩,e4,e5,e6,e7,e8,e9,iQ,jC,kh,eI,iR⟩:=hx.mk24 hc hz;by_cases hgt:(x.undos.length:Int)>x.last.2.2.2.1
  .rw[if_pos hgt,if_pos hgt,g3,Xj,WkE hk aQ (by omega) (by omega) hu hs hN];rfl
  .rw[if_neg hgt,if_neg hgt];simp only[hY,iw];obtain⟨a,b,c,d⟩:=Wes hz (by omega) zRM;have d':(decide ((0:Int)<=WW .i64 (x.marks.length:Int) 1)&&decide (WW .i64 (x.marks.length:Int) 1<=(x.marks.length:Int)))=true:=d;have c':Xav (Xa (WW .i64 (x.marks.length:Int) 1)) x.marks=x.marks.dropLast:=c;rw[d',c',WaV (by rw[e9.len];omega),e2,W5,decide_eq_true hm];have o1:Xb p.1 (Xa ((m:Nat):Int)) ((0,0,0,0):Opn)=opN p.1 (m:Int):=rfl;have hr:=Wwa (hc.ok m hm).1 kr;rw[←Wj9 hm]at hr;simp only[cond_true,ret,Xd,o1];rw[WaX hr e9.len];have b2:(decide ((0:Int)<=x.last.2.2.1)&&decide (x.last.2.2.1<=(x.writes.length:Int)))=true:=by simp;omega
   rw[b2];simp only[cond_true];rw[WcC (by rw[Xal];omega),Wh4 (by omega) hN ⟨hm,kr⟩ e5];simp only[ret,Xd];rw[Wcs (by have:=e5.len;omega),Xj];exact WcU rfl rfl rfl
theorem WpT(hk:k<w.roots.length)(aQ:w.roots[k]=x)(lN:k<=8)(hc:CC p.1)(hx:RLive p n x)(ho:Wan o=true)(dM:12<=o.1)(hs:ShOk w.shelf)(hh:HOk w.holds)(hN:1048576<N):
  Zg9 N w.e (k:Int) o=some (((Wo.put (Wc4 w x k o) k).e,()),()):=by
 obtain⟨g1,g2,g3,g4,g5⟩:=woG hk aQ;obtain⟨r0,r1,r2,r3,r4,r5,r6,r7,r8,jD,iS,hQ,hY,iw,iy,km,kn,jE,jF,ko,kp,kq⟩:=rtP x;obtain⟨z1,z2,z3,z4,z5,z6⟩:=hx.sz hc;have rF:=WjJ hh;have bf:=hx.pc;have hcl:=hc.len;have qY:(0<=(WbN o).1/\(WbN o).1<=8)/\1<=(WbN o).2/\(WbN o).2<=2:=by
  unfold WbN;have kg:=Wnd ho;split
  .rename_i h;have:WbX o.2.1=true:=by
    rcases h with h|h
    .exact(Wtp ho h).1
    .exact(Ws3 ho h).1
   rw[WbH]at this;simp only;omega
  .split
   .have:=(Wva ho ‹_›).2;rw[WbH]at this;simp only;omega
   .split<;>(simp only;omega)
 unfold Zg9 Wc4;simp only[Wl,Wf5];rw[show P5 w.e=w.roots.map Rt.e from rfl,g4,g2,Wcs (by omega),Wkt ho dM,show P4 w.e=w.holds from rfl,show w.e.2.2.2.1=w.shelf from rfl];simp only[cond_true,Xd,WhS hh (show 1<=(k:Int)+1/\(k:Int)+1<=9 by omega) qY.1 qY.2 (by omega) hN,r3,iS,iy,Weo hx.spare];cases ha:Wb0 w.holds ((k:Int)+1) (WbN o).1 (WbN o).2 with
 |none=>
  simp only[Option.isSome_none,Bool.not_false,cond_true,Xj];exact WcU rfl rfl rfl
 |some cn=>
  simp only[Option.isSome_some,Xs,cond_false,Option.getD_some,Xj,WhK hs hx.regs ho dM hN,Xd,Wc7];rw[Wcs (by omega),Ww (by simp;omega)];by_cases hz:(WbM w.shelf o x.regs).2.2.1=0
  .rw[if_pos hz,if_pos hz];exact WcU rfl rfl rfl
  .rw[if_neg hz,if_neg hz];exact WcU rfl rfl rfl
theorem WuQ(hk:k<w.roots.length)(aQ:w.roots[k]=x)(lN:k<=8)(hp:POk p)(hx:RLive p n x)(hu:∀u∈x.undos,UnV u)(hm:WZ w.mem=true)(hs:ShOk w.shelf)(hh:HOk w.holds)(hN:1048576<N):
  Zij N w.e (k:Int) p=some (((Wo.put (Wk5 w x k p) k).e,()),()):=by
 obtain⟨g1,g2,g3,g4,g5⟩:=woG hk aQ;obtain⟨r0,r1,r2,r3,r4,r5,r6,r7,r8,jD,iS,hQ,hY,iw,iy,km,kn,jE,jF,ko,kp,kq⟩:=rtP x;have hc:=hp.code;obtain⟨z1,z2,z3,z4,z5,z6⟩:=hx.sz hc;have bf:=hx.pc;have hcl:=hc.len;have dx:=hx.regs.len;unfold Zij Wk5;simp only[Wl];rw[show P5 w.e=w.roots.map Rt.e from rfl,g4,g2,g3];simp only[cond_true,r3,r4,iS,hQ,hY,iw,iy,Waa,Wv,show Wb p.1=(p.1.length:Int)from rfl];by_cases fb:x.pc>=p.1.length
 .rw[if_pos fb,if_pos fb,Wlq hk aQ lN hh hx.rv z5 z6 hN];rfl
 .rw[if_neg fb,if_neg fb];obtain⟨j,hj,ej,eo⟩:=We5 (l:=p.1) bf.1 (by omega);have tX:Xb p.1 (Xa x.pc) ((0,0,0,0):Opn)=opN p.1 x.pc:=rfl;have eT:inb x.pc p.1.length=true:=by rw[ej,W5];exact decide_eq_true hj
  rw[eT];obtain⟨ok,o1,fR⟩:=hc.ok j hj;simp only[cond_true,tX];rw[←eo]at ok o1 fR;rw[Wcs (show 0<=x.pc/\x.pc<=1000000 by omega)];have qZ:(opN p.1 x.pc).1=9->x.marks.length≠0:=λh9 hz=>by
   have h1:=congrArg Xc hx.marks.pcs;simp only[Xy,hz]at h1;have h2:=Wbx hc.up j (by omega);have h3:=hc.up j hj;rw[WaT hj,Wk2 (by rw[←eo];exact h9)]at h3;rw[ej,Xj]at h1;omega
  generalize opN p.1 x.pc=o at*;have tW:o.1>=12->Zg9 N w.e (k:Int) o=some (((Wo.put (Wc4 w x k o) k).e,()),()):=λdM=>WpT hk aQ lN hc hx ok dM hs hh hN;by_cases h5:o.1=5
  .rw[if_pos h5,if_pos h5,Xj,WsU hk aQ hc hx hm h5 ok hN];rfl
  .rw[if_neg h5,if_neg h5];by_cases ca:o.1=10
   .rw[if_pos ca,if_pos ca,WrM hk aQ lN hc hx hu hs hh hN];rfl
   .rw[if_neg ca,if_neg ca];by_cases dr:o.1=11
    .rw[if_pos dr,if_pos dr,show Wb p.2=((p.2.length:Nat):Int)from rfl,WiR (by omega) (by omega) hp.k3 hN,Xj];exact WcU rfl rfl rfl
    .rw[if_neg dr,if_neg dr];by_cases dM:o.1>=12
     .rw[if_pos dM];have hb:=tW dM;have:o.1=12\/o.1=13\/o.1=14\/o.1=15\/o.1=16:=by omega
      rcases this with h|h|h|h|h
      .rw[if_pos h,if_pos h,hb];rfl
      .rw[if_neg (by omega),if_pos h,if_pos h,hb];rfl
      .rw[if_neg (by omega),if_neg (by omega),if_pos h,if_pos h,hb];rfl
      .rw[if_neg (by omega),if_neg (by omega),if_neg (by omega),if_pos h,if_pos h,hb];rfl
      .rw[if_neg (by omega),if_neg (by omega),if_neg (by omega),if_neg (by omega),if_pos h,hb];rfl
     .rw[if_neg dM,if_neg (show¬o.1=12 by omega),if_neg (show¬o.1=13 by omega),if_neg (show¬o.1=14 by omega),if_neg (show¬o.1=15 by omega),if_neg (show¬o.1=16 by omega)];by_cases h6:o.1=6
      .rw[if_pos h6,if_pos h6,WaX (Wv0 ok h6).2 dx,Ww (by simp;omega),Xj];exact WcU rfl rfl rfl
      .rw[if_neg h6,if_neg h6];by_cases h7:o.1=7
       .rw[if_pos h7,if_pos h7];have h:=Wvm ok h7;rw[WaX h.1 dx,WC (a:=x.pc) (b:=o.2.2.1) (by unfold I64;omega),Wcs (a:=x.pc+o.2.2.1) (by omega),Xj];by_cases hg:Xb x.regs (Xa o.2.1) 0=0
        .rw[if_pos hg,if_pos (show Wci x.regs o.2.1 0=0 from hg)];exact WcU rfl rfl rfl
        .rw[if_neg hg,if_neg (show¬Wci x.regs o.2.1 0=0 from hg)];exact WcU rfl rfl rfl
       .rw[if_neg h7,if_neg h7];by_cases h8:o.1=8
        .rw[if_pos h8,if_pos h8,WaV (by omega)];simp only[ret,Xd];rw[Ww (by simp;omega),Xj];exact WcU rfl rfl rfl
        .rw[if_neg h8,if_neg h8];by_cases h9:o.1=9
         .rw[if_pos h9,if_pos h9];have hz:=qZ h9;obtain⟨a,b,c,d⟩:=Wes hz (by omega) zRM;obtain⟨m,q,e1,e2,⟨gM,kr⟩,e4,e5,e6,e7,e8,e9,iQ,jC,kh,eI,iR⟩:=hx.mk24 hc hz;rw[Wmn hz (by omega)];simp only[Xd];rw[d,c,e2,W5,decide_eq_true gM];have o1:Xb p.1 (Xa ((m:Nat):Int)) ((0,0,0,0):Opn)=opN p.1 (m:Int):=rfl;have hr:=Wwa (hc.ok m gM).1 kr;rw[←Wj9 gM]at hr;simp only[cond_true,o1];rw[WaX hr dx,Xj];exact WcU rfl rfl rfl
         .rw[if_neg h9,if_neg h9,WgZ hN ok (by omega) (by omega) hx.regs,Xj];exact WcU rfl rfl rfl
theorem Wsk(hk:k<w.roots.length)(aQ:w.roots[k]=x)(nX:w.roots.length<=8)(hN:1048576<N):
  Zf5 N w.e (k:Int)=some (((Wo.put (Weh w x k) k).e,()),()):=by
 obtain⟨g1,g2,g3,g4,g5⟩:=woG hk aQ;have eJ:=Woj hk aQ;have dx:(w.roots.map Rt.e).length=w.roots.length:=by simp
 unfold Zf5;rw[show P5 w.e=w.roots.map Rt.e from rfl,g4,g2,Wcs (by omega),Xj];simp only[cond_true,Wc7,Wv,Waa,show w.e.2.1=w.token from rfl,show x.e.2.1=x.tries from rfl,show w.e.1=w.now from rfl,show w.e.2.2.1.1=w.mem.1 from rfl];have mW:∀(K0:Bool->Int->Bool->Option ((Y_World×Unit)×Unit)) (d j n:Nat) (al:Bool),j+d=w.roots.length->d<n->
   Zay N (k:Int) k (Wb (w.roots.map Rt.e)) w.now w.token w.mem.1 w.e.2.2.2.1.2 (w.roots.map Rt.e) w.e.2.2.1.2 w.e.2.2.2.1.1 (P4 w.e) (Q6 w.e) K0 n al (j:Int)=K0 (al&&Wds k (w.roots.drop j) j) (w.roots.length:Int) false:=by
  intro K0 d
  induction d with
  |zero=>
   intro j n al hj hn;obtain⟨n,rfl⟩:∃n',n=n'+1:=⟨n-1,by omega⟩;have:j=(w.roots.map Rt.e).length:=by omega
   rw[Zay,this,WV (Xn _),dx,Xdo];simp[Wds]
  |succ d ih=>
   intro j n al hj hn;obtain⟨n,rfl⟩:∃n',n=n'+1:=⟨n-1,by omega⟩;have hlt:j<(w.roots.map Rt.e).length:=by omega
   have dN:j<w.roots.length:=by omega
   rw[Zay];simp only[WN hlt,Wg hlt,Wj hlt,Wf (show j<4611686018427387904 by omega),cond_true,ih (j+1) n _ (by omega) (by omega),Xcn];rw[Xcd dN,Wds];generalize Wds k (w.roots.drop (j+1)) (j+1)=b;have hp:(Rt.e w.roots[j]).1=w.roots[j].phase:=rfl;rw[hp];simp only[Wv];cases al with
   |false=>simp
   |true=>
    simp only[cond_true,Xbt];by_cases h1:j=k
    .rw[if_pos (by omega),decide_eq_true h1];simp
    .rw[if_neg (by omega),decide_eq_false h1];by_cases h2:w.roots[j].phase=0
     .rw[if_pos h2,decide_eq_true h2];simp
     .rw[if_neg h2,decide_eq_false h2];have:(w.roots[j].phase==8)=decide (w.roots[j].phase=8):=by
       by_cases h3:w.roots[j].phase=8<;>simp[h3]
      rw[this];simp
 have:=mW;refine(mW _ w.roots.length 0 N true (by omega) (by omega)).trans ?_;rw[Xcf,Xbt];unfold Weh;have cM:some ((S5 (Xm (w.roots.map Rt.e) k ((1:Int),(x.tries,((0:Int),((0:Int),(w.mem.1,((0:Int),((0:Int),((0:Int),((0:Int),(w.now,((0:Int),(false,(Xaa (Xa (4:Int)) (0:Int),(([]:List Kc),(([]:List Kc),(([]:List Kj),(([]:List Kb),(([]:List Int),(false,(((0:Int),((0:Int),((0:Int),(0:Int)))),(((0:Int),((0:Int),((0:Int),((0:Int),((0:Int),(([]:List Kc),([]:List Int))))))),d_Family)))))))))))))))))))))) w.e,()),())=some (((Wo.put (w,{phase:=1,tries:=x.tries,rv:=w.mem.1,began:=w.now,regs:=[0,0,0,0]}) k).e,()),()):=WcU (x':={phase:=1,tries:=x.tries,rv:=w.mem.1,began:=w.now,regs:=[0,0,0,0]}) (w':=w) rfl rfl rfl;have ub:some (((w.now,((k:Int)+1,w.e.2.2)),()),())=some (((Wo.put ({w with token:=(k:Int)+1},x) k).e,()),()):=by
  have:Wo.put ({w with token:=(k:Int)+1},x) k={w with token:=(k:Int)+1}:=by unfold Wo.put;simp only;rw[←aQ,Xbq]
  rw[this];rfl
 have aA:(((decide ((0:Int)<=(4:Int)))&&(decide ((4:Int)<=(4:Int))))&&(WA (Xa (4:Int))))=true:=rfl;have bq:some ((w.e,()),())=some (((Wo.put (w,x) k).e,()),()):=by rw[eJ]
 rw[aA];simp only[cond_true,cM];by_cases t0:w.token=0
 .rw[if_pos t0];rw[if_neg (show¬(w.token≠0/\w.token≠(k:Int)+1) by omega)];by_cases ht:x.tries>=3
  .rw[if_pos ht,if_pos t0,if_pos ⟨ht,t0⟩];exact ub
  .rw[if_neg ht,if_neg (show¬w.token=(k:Int)+1 by omega),if_neg (λh=>ht h.1),if_neg (by omega)]
 .rw[if_neg t0];by_cases t1:w.token=(k:Int)+1
  .rw[if_pos t1,if_neg (show¬(w.token≠0/\w.token≠(k:Int)+1) by omega),if_neg (show¬(x.tries>=3/\w.token=0) by omega)];have gj:∀b:Bool,(bif !b then some ((w.e,()),())else some (((Wo.put (w,{phase:=1,tries:=x.tries,rv:=w.mem.1,began:=w.now,regs:=[0,0,0,0]}) k).e,()),()))=some (((Wo.put (if w.token=(k:Int)+1/\b=false then(w,x)else(w,{phase:=1,tries:=x.tries,rv:=w.mem.1,began:=w.now,regs:=[0,0,0,0]})) k).e,()),()):=λb=>by
    cases b with
    |false=>rw[if_pos ⟨t1,rfl⟩];exact bq
    |true=>rw[if_neg (by simp)];rfl
   by_cases ht:x.tries>=3
   .rw[if_pos ht,if_neg t0,if_pos t1];exact gj _
   .rw[if_neg ht,if_pos t1];exact gj _
  .rw[if_neg t1,if_pos ⟨t0,t1⟩];exact bq
theorem WsR(hp:POk p)(hx:RLive p n x)(h2:x.phase=2)(hN:1048576<N):Zik N x.e=some (((Wd5 x).e,()),()):=by
 obtain⟨r0,r1,r2,r3,r4,r5,r6,r7,r8,jD,iS,hQ,hY,iw,iy,km,kn,jE,jF,ko,kp,kq⟩:=rtP x;have hc:=hp.code;obtain⟨z1,z2,z3,z4,z5,z6⟩:=hx.sz hc;obtain⟨f1,f2,f3⟩:=hx.fork h2;have bf:=hx.pc;have hcl:=hc.len;have nY:x.fam.kids.length<=3:=by have:=f3.len;have:=hp.k3;omega
 have nV:=f3.len3 hp.k3;have gF:=f3.readsL;unfold Zik Wd5;simp only[r3,hQ,jF,ko,kp,kq,WeE,Xd];rw[Wlo nY hN,Wj0 f3.regs nY (λy hy=>by
  obtain⟨i,hi,rfl⟩:=List.getElem_of_mem hy;rw[(f3.kid i hi).regs.len];omega) hN,WlC (by have:=f3.buf8;omega) hN,Ww (by omega),WaV (by omega),Wcs (by omega),Whs]
 by_cases hl:x.fam.lost=true
 .rw[if_pos hl,if_pos hl]
 .rw[if_neg hl,if_neg hl];simp only[ret,Xd,cond_true];cases ho:Wfv x.fam
  .rw[if_neg (by simp)];rfl
  .rw[if_pos rfl];rfl
theorem Wpg(hk:k<w.roots.length)(aQ:w.roots[k]=x)(hp:POk p)(hx:RLive p n x)(h4:x.phase=4)(hm:WZ w.mem=true):
  Zgm N w.e k=some (((Wo.put (w,Wa5 w x) k).e,()),()):=by
 obtain⟨g1,g2,g3,g4,g5⟩:=woG hk aQ;obtain⟨r0,r1,r2,r3,r4,r5,r6,r7,r8,jD,iS,hQ,hY,iw,iy,km,kn,jE,jF,ko,kp,kq⟩:=rtP x;have hc:=hp.code;obtain⟨z1,z2,z3,z4,z5,z6⟩:=hx.sz hc;have hz:=hx.back (.inr h4);obtain⟨m,q,e1,e2,⟨gM,kr⟩,e4,e5,e6,e7,e8,e9,iQ,jC,kh,eI,iR⟩:=hx.mk24 hc hz;have cb:=hx.pos h4;have bf:=hx.pc;have hcl:=hc.len;unfold Zgm Wa5;simp only[Wl];rw[show P5 w.e=w.roots.map Rt.e from rfl,g1,WnX hz (by omega)];simp only[Xd,r4,r5,r6,hQ,hY,Waa,WeE,show w.e.2.2.1.2=w.mem.2 from rfl];by_cases hlt:x.pos<x.last.2.1
 .rw[if_pos hlt,if_pos hlt];have hj:x.pos.toNat<x.reads.length:=by omega
  have eT:inb x.pos x.reads.length=true:=by unfold inb;simp;omega
  have hg:Xb x.reads (Xa x.pos) ((0:Int),(0:Int))=Wci x.reads x.pos (0,0):=rfl;have hv:0<=(Wci x.reads x.pos (0,0)).1/\(Wci x.reads x.pos (0,0)).1<=7:=by
   unfold Wci;rw[Wh hj];exact(hx.reads _ (Xo hj)).1
  rw[eT,hg,WgJ hm hv,show Xb w.mem.2 (Xa (Wci x.reads x.pos (0,0)).1) ((0:Int),((0:Int),(0:Int)))=Wm w.mem (Wci x.reads x.pos (0,0)).1 from rfl,Wcs (by omega)];simp only[cond_true,Wc7];by_cases a:(Wm w.mem (Wci x.reads x.pos (0,0)).1).2.2=0
  .rw[if_pos a];by_cases b:(Wm w.mem (Wci x.reads x.pos (0,0)).1).2.1>x.rv
   .rw[if_pos b,if_pos (.inr b)];exact WcU rfl rfl rfl
   .rw[if_neg b,if_neg (by omega)];exact WcU rfl rfl rfl
  .rw[if_neg a,if_pos (.inl a)];exact WcU rfl rfl rfl
 .rw[if_neg hlt,if_neg hlt];have b1:(decide ((0:Int)<=x.last.2.1)&&decide (x.last.2.1<=(x.reads.length:Int)))=true:=by simp;omega
  have b2:(decide ((0:Int)<=x.last.2.2.1)&&decide (x.last.2.2.1<=(x.writes.length:Int)))=true:=by simp;omega
  rw[b1,b2,WcC (by rw[Xal];omega),WcC (by rw[Xal];omega),WaV (by rw[e9.len];omega),Wcs (by omega)];simp only[cond_true,ret,Xd];exact WcU rfl rfl rfl
theorem Wpq(hk:k<w.roots.length)(aQ:w.roots[k]=x)(lN:k<=8)(kS:CmOk x.cm)(hm:WZ w.mem=true)(hh:w.hist.length<=500000)(hN:1048576<N):
  Zgn N w.e (k:Int)=some (((Wo.put (Waz w x k) k).e,()),()):=by
 obtain⟨g1,g2,g3,g4,g5⟩:=woG hk aQ;obtain⟨r0,r1,r2,r3,r4,r5,r6,r7,r8,jD,iS,hQ,hY,iw,iy,km,kn,jE,jF,ko,kp,kq⟩:=rtP x;have aM:=Wlc kS hm;unfold Zgn Waz;simp only[Wl,Wf5];rw[show P5 w.e=w.roots.map Rt.e from rfl,g4,g2,Wcs (by omega),Xj];simp only[cond_true,r7,jD,jE,show w.e.2.2.1=w.mem from rfl,show Q6 w.e=w.hist from rfl];rw[Whs];by_cases hd:x.doomed=true
 .rw[if_pos hd,if_pos hd];obtain⟨b,hb⟩:=WqI (N:=N) kS hN;rw[hb];simp only[Xd,Wv,show(W6 x.cm).e.2.2.1=(W6 x.cm).phase from rfl];by_cases h8:(W6 x.cm).phase=8
  .rw[if_pos h8,if_pos h8];have:S20 (W6 x.cm).e (S11 false x.e)=Rt.e {x with cm:=W6 x.cm,doomed:=false}:=rfl;rw[this,WeE];exact WcU rfl rfl rfl
  .rw[if_neg h8,if_neg h8];exact WcU rfl rfl rfl
 .rw[if_neg hd,if_neg hd,Wmu kS hm hN];simp only[Xd];obtain⟨m',c',hq⟩:∃m' c',Ws w.mem x.cm=(m',c'):=⟨_,_,rfl⟩;rw[hq]at aM⊢;simp only at aM⊢;have nW:Za6 N (P5 c'.e)=ret c'.puts:=WcC (by have:=aM.1.plen;show c'.puts.length<=1048576;omega);have hS:S20 c'.e x.e=Rt.e {x with cm:=c'}:=rfl;rw[nW,hS,WeE];simp only[ret,Xd];rw[Ww (by simp;omega)];simp only[cond_true,Wv,Waa,show c'.e.2.2.1=c'.phase from rfl,show(Cm.e x.cm).2.2.1=x.cm.phase from rfl,show P4 c'.e=c'.wv from rfl];unfold Wbm;simp only;by_cases h3:x.cm.phase<=3
  .rw[if_pos h3];by_cases h4:c'.phase=4
   .rw[if_pos h4,if_neg (by omega),if_neg (by omega),if_pos (show x.cm.phase<=3/\c'.phase=4 from⟨h3,h4⟩),if_neg (by omega),if_neg (by omega)];exact WcU (w':={w with mem:=m',hist:=w.hist++ [(c'.wv,(k:Int)+1,c'.puts)]}) rfl rfl rfl
   .rw[if_neg h4,if_neg (show¬(x.cm.phase<=3/\c'.phase=4)fromλh=>h4 h.2)];by_cases h8:c'.phase=8
    .rw[if_pos h8,if_pos h8];exact WcU (w':={w with mem:=m'}) rfl rfl rfl
    .rw[if_neg h8,if_neg h8];by_cases h6:c'.phase=6
     .rw[if_pos h6,if_pos h6];by_cases h2:x.fate=2
      .rw[if_pos h2,if_pos h2];exact WcU (w':={w with mem:=m'}) rfl rfl rfl
      .rw[if_neg h2,if_neg h2];exact WcU (w':={w with mem:=m'}) rfl rfl rfl
     .rw[if_neg h6,if_neg h6];exact WcU (w':={w with mem:=m'}) rfl rfl rfl
  .rw[if_neg h3,if_neg (show¬(x.cm.phase<=3/\c'.phase=4)fromλh=>h3 h.1)];by_cases h8:c'.phase=8
   .rw[if_pos h8,if_pos h8];exact WcU (w':={w with mem:=m'}) rfl rfl rfl
   .rw[if_neg h8,if_neg h8];by_cases h6:c'.phase=6
    .rw[if_pos h6,if_pos h6];by_cases h2:x.fate=2
     .rw[if_pos h2,if_pos h2];exact WcU (w':={w with mem:=m'}) rfl rfl rfl
     .rw[if_neg h2,if_neg h2];exact WcU (w':={w with mem:=m'}) rfl rfl rfl
    .rw[if_neg h6,if_neg h6];exact WcU (w':={w with mem:=m'}) rfl rfl rfl
end
section
section
variable{code:List Opn}{pc cI rl wl ul oV kj oW:Nat}{ms q:List RM}{y:RM}{n n':Int}{x:Rt}{w:Wo}{p:Pg}{k:Nat}{o:Opn}
theorem WnV(code:List Opn){a b:Nat}(h:a<=b):frk code a<=frk code b:=by
 unfold frk;exact List.Sublist.countP_le (List.take_sublist_take_left h)
theorem RMk.mono(h:RMk code pc ms rl wl ul)(hs:stk code cI=stk code pc)(h1:rl<=oV)(h2:wl<=kj)(h3:ul<=oW):RMk code cI ms oV kj oW:=
 ⟨by rw[hs];exact h.pcs,λq hq=>by obtain⟨a,b,c,d⟩:=h.each q hq;exact⟨a,by omega,by omega,by omega⟩,h.up⟩
theorem RMk.cut(h:RMk code pc ms rl wl ul)(oT:ms=q++ [y])(h1:y.2.1<=oV)(h2:y.2.2.1<=kj)(h3:y.2.2.2.1<=oW):RMk code pc ms oV kj oW:=by
 refine⟨h.pcs,λa ha=>?_,h.up⟩;obtain⟨c1,c2,c3,c4⟩:=h.each a ha;have hle:a.2.1<=y.2.1/\a.2.2.1<=y.2.2.1/\a.2.2.2.1<=y.2.2.2.1:=by
  have hu:=h.up;rw[oT]at ha hu;rcases Xl.1 ha with ha|ha
  .exact(Xag.1 hu).2.2 a ha y (by simp)
  .rw[Xx]at ha;subst ha;omega
 exact⟨c1,by omega,by omega,by omega⟩
theorem RMk.begin(h:RMk code pc ms rl wl ul)(hp:pc<code.length)(h8:code[pc].1=8){regs:List Int}(hr:Vals 4 regs)(h1:rl<=pc+72*frk code pc)(h2:wl<=pc+8)(h3:ul<=pc):
  RMk code (pc+1) (ms++ [((pc:Int),(rl:Int),(wl:Int),(ul:Int),regs)]) rl wl ul:=by
 refine⟨?_,?_,?_⟩
 .rw[WiO hp h8,Xr,Xr,h.pcs];rfl
 .intro q hq;rcases Xl.1 hq with hq|hq
  .exact h.each q hq
  .rw[Xx]at hq;subst hq;refine⟨hr,?_,?_,?_⟩
   .simp only[Xj];omega
   .simp only;omega
   .simp only;omega
 .refine Xag.2 ⟨h.up,List.pairwise_singleton _ _,λa ha b hb=>?_⟩;rw[Xx]at hb;subst hb;obtain⟨c1,c2,c3,c4⟩:=h.each a ha;exact⟨c2.2.2,c3.2.2,c4.2.2⟩
theorem RMk.drop(h:RMk code pc ms rl wl ul)(oT:ms=q++ [y])(hs:stk code cI=(stk code pc).dropLast)(h1:y.2.1<=oV)(h2:y.2.2.1<=kj)(h3:y.2.2.2.1<=oW):RMk code cI q oV kj oW:=by
 have h':=h.cut oT h1 h2 h3;subst oT;have e:=h.pcs;refine⟨?_,λa ha=>h'.each a (List.mem_append_left _ ha),(Xag.1 h.up).1⟩;rw[hs,List.map_dropLast,←e,Xr];simp
theorem RLive.wk(h:RLive p n x)(hn:n<=n'):RLive p n' x:={h with fork:=λh2=>by obtain⟨a,b,c⟩:=h.fork h2;exact⟨a,b,c.wk hn⟩}
theorem ROk.wk(h:ROk p n x)(hn:n<=n'):ROk p n' x:={h with tries:=by have:=h.tries;omega,live:=λhl=>(h.live hl).wk hn}
theorem RLive.on(bJ:CC p.1)(h:RLive p n x)(h1:x.phase=1){i:Nat}(hi:i<p.1.length)(bf:x.pc=i){regs:List Int}{reads writes:List Rw}{marks:List RM}{undos:List Un}{busy:Bool}{pb:Pb}{cI:Nat}
  (hp:cI<=p.1.length) (hlt:i<cI) (hr:Vals 4 regs) (gF:WcP reads) (dx:reads.length<=x.reads.length+1) (x7:WcP writes) (lL:writes.length<=x.writes.length+1) (cY:undos.length<=x.undos.length+1) (hm:RMk p.1 cI marks reads.length writes.length undos.length) (hb:busy=true->Wka pb=true):
  RLive p n {x with regs:=regs,reads:=reads,writes:=writes,marks:=marks,undos:=undos,busy:=busy,pb:=pb,pc:=(cI:Int)} where
 pc:=by show(0:Int)<=(cI:Int)/\(cI:Int)<=_;omega
 spare:=h.spare
 rv:=h.rv
 regs:=hr
 reads:=gF
 rl:=by
  have h2:=h.rl;have h3:=WnV p.1 (show i<=cI by omega);rw[bf,Xj]at h2;show(reads.length:Int)<=(cI:Int)+72*(frk p.1 ((cI:Nat):Int).toNat:Int);rw[Xj];omega
 writes:=x7
 wl:=by have:=h.wl;show(writes.length:Int)<=(cI:Int)+8;omega
 ul:=by have:=h.ul;show(undos.length:Int)<=(cI:Int);omega
 marks:=by show RMk p.1 ((cI:Nat):Int).toNat _ _ _ _;rw[Xj];exact hm
 pb:=hb
 fork:=λh2=>by(change x.phase=2 at h2;omega)
 back:=λh2=>by(change x.phase=3\/x.phase=4 at h2;omega)
 newRv:=h.newRv
 pos:=λh2=>by(change x.phase=4 at h2;omega)
 unw:=λh2=>by(change x.phase=4 at h2;omega)
theorem Vals.le4{r:List Int}(h:Vals 4 r):r.length<=4:=Nat.le_of_eq h.len
theorem Wey(h:ROk p n x):ROk p n (Wdd x) where
 phase:=by show(0:Int)<=6/\(6:Int)<=8;omega
 tries:=h.tries
 live:=λh=>by(change (1:Int)<=6/\(6:Int)<=4 at h;omega)
 comm:=λh=>by(change (6:Int)=5 at h;omega)
 undos:=h.undos
 ul:=h.ul
 rg:=by show([]:List Int).length<=4;simp
 ord:=by show([]:List Int).length<=3;simp
theorem WgW(h:ROk p n x)(hl:RLive p n x):ROk p n (W0 x):=by
 unfold W0;split
 .exact Wey h
 .rename_i hc;exact{h with
   phase:=by show(0:Int)<=3/\(3:Int)<=8;omega
   live:=λ_=>{hl with
    spare:=by have:=hl.spare;show 0<=x.spare+1/\x.spare+1<=2;omega
    pb:=λh=>by cases h
    fork:=λh=>by(change (3:Int)=2 at h;omega)
    back:=λ_=>by show x.marks.length≠0;omega
    pos:=λh=>by(change (3:Int)=4 at h;omega)
    unw:=λh=>by(change (3:Int)=4 at h;omega)}
   comm:=λh=>by(change (3:Int)=5 at h;omega)}
structure QOk(p:Pg)(n:Int)(w:Wo)(q:Wo×Rt):Prop where
 root:ROk p n q.2
 mem:WZ q.1.mem=true
 shelf:ShOk q.1.shelf
 holds:HOk q.1.holds
 hist:q.1.hist.length<=w.hist.length+1
 histE:∀h∈q.1.hist,h∈w.hist\/HE h
 roots:q.1.roots=w.roots
 now:q.1.now=w.now
structure GOk(w:Wo):Prop where
 mem:WZ w.mem=true
 shelf:ShOk w.shelf
 holds:HOk w.holds
theorem GOk.st(h:GOk w){y:Rt}(hy:ROk p n y):QOk p n w (w,y):=⟨hy,h.mem,h.shelf,h.holds,by simp,λ_ hh=>.inl hh,rfl,rfl⟩
theorem GOk.qt(h:GOk w){y:Rt}(hy:ROk p n y)(t:Int):QOk p n w ({w with token:=t},y):=⟨hy,h.mem,h.shelf,h.holds,by simp,λ_ hh=>.inl hh,rfl,rfl⟩
theorem Wrx(h:GOk w)(hx:ROk p n x):QOk p n w (Wk4 w x k):=by
 unfold Wk4;refine h.qt ?_ _;exact{hx with
  phase:=by show(0:Int)<=8/\(8:Int)<=8;omega
  live:=λh=>by(change (1:Int)<=8/\(8:Int)<=4 at h;omega)
  comm:=λh=>by(change (8:Int)=5 at h;omega)
  undos:=λu hu=>by cases hu
  ul:=by simp}
theorem Wmp(h:GOk w)(hx:ROk p n x)(ir:0<=x.rv/\x.rv<=1000000)(hk:k<=8){out:Int}:QOk p n w (WbS w x k out):=by
 unfold WbS;simp only;generalize (if out=2 then []else x.writes)=rows;split
 .exact Wrx (x:={x with fate:=out,stamp:=x.rv}) h
   {phase:=hx.phase,tries:=hx.tries,live:=λhh=>{hx.live hh with},comm:=hx.comm,undos:=hx.undos,ul:=hx.ul,rg:=hx.rg,ord:=hx.ord}
 .refine h.st ?_;exact{hx with
   phase:=by show(0:Int)<=5/\(5:Int)<=8;omega
   live:=λh=>by(change (1:Int)<=5/\(5:Int)<=4 at h;omega)
   comm:=λ_=>Wtq (by omega) ir}
theorem WrN{α:Type}{l:List α}(h:l.length≠0)(d:α):Wgx l d∈l:=by
 unfold Wgx;rw[Wh (show l.length-1<l.length by omega)];exact Xo _
theorem WjU(h:GOk w)(hx:ROk p n x)(hz:x.undos.length≠0)(bJ:1<=x.phase/\x.phase<=4->CC p.1/\(x.marks.length≠0->x.last.2.2.2.1<x.undos.length)):QOk p n w (Wd3 w x):=by
 unfold Wd3;refine⟨?_,h.mem,Wpn h.shelf (hx.undos _ (WrN hz _)),h.holds,by simp,λ_ hh=>.inl hh,rfl,rfl⟩;have hdl:x.undos.dropLast.length=x.undos.length-1:=List.length_dropLast;exact{hx with
  live:=λhh=>by
   have hl:=hx.live hh;obtain⟨c1,c2⟩:=bJ hh;exact{hl with
    ul:=by have:=hl.ul;show(x.undos.dropLast.length:Int)<=x.pc;omega
    unw:=λh4=>by have:=hl.unw h4;show(x.undos.dropLast.length:Int)<=x.last.2.2.2.1;omega
    marks:=by
     show RMk p.1 x.pc.toNat x.marks x.reads.length x.writes.length x.undos.dropLast.length;by_cases hm:x.marks.length=0
     .have:x.marks= []:=Xad hm;have hM:=hl.marks;rw[this]at hM⊢;exact⟨hM.pcs,(λq hq=>by cases hq),hM.up⟩
     .obtain⟨m,q,e1,e2,⟨gM,kr⟩,e4,e5,e6,e7,e8,e9,iQ,jC,kh,eI,iR⟩:=hl.mk24 c1 hm;have:=c2 hm;exact hl.marks.cut e1 iQ.2.2 jC.2.2 (by omega)}
  undos:=λu hu=>hx.undos u (by rw[List.dropLast_eq_take]at hu;exact Xbw hu)
  ul:=by have:=hx.ul;show x.undos.dropLast.length<=24;omega}
theorem Ws1(bJ:CC p.1)(h:GOk w)(hx:ROk p n x)(hl:RLive p n x)(h1:x.phase=1){i:Nat}(hi:i<p.1.length)(bf:x.pc=i)(h5:p.1[i].1=5):ROk p n (Weu w x p.1[i]):=by
 have aX:=WtZ (bJ.ok i hi).1 h5;have hB:0<=p.1[i].2.2.1/\p.1[i].2.2.1<=7:=by have:=aX.2;unfold W2 at this;simpa using this
 have hM:=hl.marks;rw[bf,Xj]at hM;have aM:stk p.1 (i+1)=stk p.1 i:=Wga hi (by omega) (by omega);have bZ:x.pc+1=((i+1:Nat):Int):=by omega
 unfold Weu;cases kK:WaH x.writes p.1[i].2.2.1 with
 |some v=>
  have hv:=hl.writes _ (Wit kK).2;simp only[bZ];exact{hx with rg:=Vals.le4 (hl.regs.set _ hv.2),live:=λ_=>RLive.on bJ hl h1 hi bf (by omega) (by omega) (hl.regs.set _ hv.2) hl.reads (by omega) hl.writes (by omega) (by omega) (hM.mono aM (by omega) (by omega) (by omega)) hl.pb}
 |none=>
  simp only;have cb:=Wmx (rv:=x.rv) h.mem (WqZ hl.pb hB);generalize WO w.mem x.rv (if x.busy=true then x.pb else(p.1[i].2.2.1,0,0,0))=b at*;have hp:=WeJ.1 cb.1;have wh:RLive p n {x with busy:=true,pb:=b}:={hl with pb:=λ_=>cb.1};have wi:ROk p n {x with busy:=true,pb:=b}:={hx with live:=λ_=>wh};split
  .exact WgW wi wh
  .split
   .simp only[bZ];refine{hx with rg:=Vals.le4 (hl.regs.set _ hp.2.2.2),live:=λ_=>RLive.on bJ hl h1 hi bf (by omega) (by omega) (hl.regs.set _ hp.2.2.2) (λr hr=>?_) (by simp) hl.writes (by omega) (by omega) (hM.mono aM (by simp) (by omega) (by omega)) (λh=>by cases h)};rcases Xl.1 hr with hr|hr
    .exact hl.reads r hr
    .rw[Xx]at hr;subst hr;exact⟨hB,hp.2.2.2⟩
   .exact wi
theorem WrY(bJ:CC p.1)(h:GOk w)(hx:ROk p n x)(hl:RLive p n x)(h1:x.phase=1)(hk:k<=8){i:Nat}(hi:i<p.1.length)(bf:x.pc=i):QOk p n w (Wdg w x k p.1):=by
 have hM:=hl.marks;rw[bf,Xj]at hM;unfold Wdg;split
 .exact Wmp h hx hl.rv hk
 .rename_i hz;obtain⟨m,q,e1,e2,⟨gM,kr⟩,e4,e5,e6,e7,e8,e9,iQ,jC,kh,eI,iR⟩:=hl.mk24 bJ hz;split
  .exact WjU h hx (by omega) λ_=>⟨bJ,λ_=>by omega⟩
  .refine h.st ?_;rw[e8];simp only[e2,Xj,←Int.natCast_succ];have hlen:=e5.len;have ht:(Xav x.last.2.2.1.toNat x.writes).length=x.last.2.2.1.toNat:=by rw[Xal];omega
   refine{hx with rg:=Vals.le4 (e9.set _ (by omega)),live:=λ_=>RLive.on bJ hl h1 hi bf (cI:=WiM p.1 m+1) (by omega) (by omega) (e9.set _ (by omega)) hl.reads (by omega) (λr hr=>hl.writes r (Xbw hr)) (by omega) (by omega) ?_ hl.pb};exact hM.drop e1 (by rw[e5.st,e7,bf];rfl) (by omega) (by rw[ht];omega) (by omega)
theorem Wqe(bJ:CC p.1)(h:GOk w)(hx:ROk p n x)(hl:RLive p n x)(h1:x.phase=1)(hk:k<=8){i:Nat}(hi:i<p.1.length)(bf:x.pc=i)(dM:12<=p.1[i].1):QOk p n w (Wc4 w x k p.1[i]):=by
 have ho:=(bJ.ok i hi).1;have hM:=hl.marks;rw[bf,Xj]at hM;have aM:stk p.1 (i+1)=stk p.1 i:=Wga hi (by omega) (by omega);have bZ:x.pc+1=((i+1:Nat):Int):=by omega
 have cY:=hl.ul;have hcl:=bJ.len;have qY:(0<=(WbN p.1[i]).1/\(WbN p.1[i]).1<=8)/\1<=(WbN p.1[i]).2/\(WbN p.1[i]).2<=2:=by
  unfold WbN;have kg:=Wnd ho;split
  .rename_i h;have:WbX p.1[i].2.1=true:=by
    rcases h with h|h
    .exact(Wtp ho h).1
    .exact(Ws3 ho h).1
   rw[WbH]at this;simp only;omega
  .split
   .have:=(Wva ho ‹_›).2;rw[WbH]at this;simp only;omega
   .split<;>(simp only;omega)
 unfold Wc4;cases ha:Wb0 w.holds ((k:Int)+1) (WbN p.1[i]).1 (WbN p.1[i]).2 with
 |none=>exact h.st (WgW hx hl)
 |some hs=>
  have x8:HOk hs:=by
   unfold Wb0 at ha;split at ha
   .injection ha with ha;subst ha;exact WpF h.holds (by omega) qY.1 qY.2 ‹_›
   .cases ha
  obtain⟨b1,b2,b3,b4⟩:=WpD h.shelf hl.regs ho dM;simp only[bZ];refine⟨?_,h.mem,b1,x8,by simp,λ_ hh=>.inl hh,rfl,rfl⟩;by_cases hz:(WbM w.shelf p.1[i] x.regs).2.2.1=0
  .simp only[if_pos hz];exact{hx with rg:=Vals.le4 b2,live:=λ_=>RLive.on bJ hl h1 hi bf (by omega) (by omega) b2 hl.reads (by omega) hl.writes (by omega) (by omega) (hM.mono aM (by omega) (by omega) (by omega)) hl.pb}
  .simp only[if_neg hz];refine{hx with rg:=Vals.le4 b2,live:=λ_=>RLive.on bJ hl h1 hi bf (by omega) (by omega) b2 hl.reads (by omega) hl.writes (by omega) (by simp) (hM.mono aM (by omega) (by omega) (by simp)) hl.pb,undos:=λu hu=>?_,ul:=by simp;omega};rcases Xl.1 hu with hu|hu
   .exact hx.undos u hu
   .rw[Xx]at hu;subst hu;exact b3 hz
theorem WuU(hp:POk p)(h:GOk w)(hx:ROk p n x)(h1:x.phase=1)(hk:k<=8)(hn:0<=n):QOk p n w (Wk5 w x k p):=by
 have hl:=hx.live (by omega);have bJ:=hp.code;unfold Wk5;split
 .exact Wmp h hx hl.rv hk
 .obtain⟨i,hi,bf,ho⟩:=We5 (l:=p.1) hl.pc.1 (by have:=hl.pc;omega);simp only[ho];obtain⟨ok,o1,fR⟩:=bJ.ok i hi;have hM:=hl.marks;rw[bf,Xj]at hM;have bZ:x.pc+1=((i+1:Nat):Int):=by omega
  have dx:=hl.rl;have lL:=hl.wl;have cY:=hl.ul;rw[bf,Xj]at dx;split
  .exact h.st (Ws1 bJ h hx hl h1 hi bf ‹_›)
  .split
   .exact WrY bJ h hx hl h1 hk hi bf
   .split
    .rename_i dr;refine h.st ?_;exact{hx with
      phase:=by show(0:Int)<=2/\(2:Int)<=8;omega
      live:=λ_=>{hl with
       fork:=λ_=>⟨by show x.pc<p.1.length;omega,by show(opN p.1 x.pc).1=11;rw[ho];exact dr,WrK hl.regs hn⟩
       back:=λh=>by(change (2:Int)=3\/(2:Int)=4 at h;omega)
       pos:=λh=>by(change (2:Int)=4 at h;omega)
       unw:=λh=>by(change (2:Int)=4 at h;omega)}
      comm:=λh=>by(change (2:Int)=5 at h;omega)}
    .split
     .exact Wqe bJ h hx hl h1 hk hi bf (by omega)
     .split
      .refine h.st ?_;have hk:=Wv0 ok ‹_›;have aM:stk p.1 (i+1)=stk p.1 i:=Wga hi (by omega) (by omega);simp only[bZ];refine{hx with live:=λ_=>RLive.on bJ hl h1 hi bf (by omega) (by omega) hl.regs hl.reads (by omega) (λr hr=>?_) (by simp) (by omega) (hM.mono aM (by omega) (by simp) (by omega)) hl.pb};rcases Xl.1 hr with hr|hr
       .exact hl.writes r hr
       .rw[Xx]at hr;subst hr;have:=hk.1;unfold W2 at this;exact⟨by simpa using this,hl.regs.get _⟩
      .split
       .refine h.st ?_;obtain⟨s1,s2⟩:=bJ.sk i hi ‹_›;have hk:=Wvm ok ‹_›;have aM:stk p.1 (i+1)=stk p.1 i:=Wga hi (by omega) (by omega);have nU:stk p.1 (i+1+p.1[i].2.2.1.toNat)=stk p.1 i:=by rw[←aM];exact WnS (by omega) s1 s2
        by_cases hg:Wci x.regs p.1[i].2.1 0=0
        .simp only[if_pos hg,show x.pc+p.1[i].2.2.1+1=((i+1+p.1[i].2.2.1.toNat:Nat):Int) by omega];exact{hx with live:=λ_=>RLive.on bJ hl h1 hi bf s1 (by omega) hl.regs hl.reads (by omega) hl.writes (by omega) (by omega) (hM.mono nU (by omega) (by omega) (by omega)) hl.pb}
        .simp only[if_neg hg,bZ];exact{hx with live:=λ_=>RLive.on bJ hl h1 hi bf (by omega) (by omega) hl.regs hl.reads (by omega) hl.writes (by omega) (by omega) (hM.mono aM (by omega) (by omega) (by omega)) hl.pb}
       .split
        .refine h.st ?_;simp only[bZ];rw[bf];exact{hx with live:=λ_=>RLive.on bJ hl h1 hi bf (by omega) (by omega) hl.regs hl.reads (by omega) hl.writes (by omega) (by omega) (hM.begin hi ‹_› hl.regs (by omega) (by omega) (by omega)) hl.pb}
        .split
         .rename_i h9;refine h.st ?_;have hz:x.marks.length≠0:=λhz=>by
           have h1:=congrArg Xc hM.pcs;simp only[Xy,hz]at h1;have h2:=Wbx bJ.up i (by omega);have h3:=bJ.up i hi;rw[WaT hi,Wk2 h9]at h3;omega
          obtain⟨m,q,e1,e2,⟨gM,kr⟩,e4,e5,e6,e7,e8,e9,iQ,jC,kh,eI,iR⟩:=hl.mk24 bJ hz;simp only[bZ];rw[e8];exact{hx with rg:=Vals.le4 (hl.regs.set _ (by omega)),live:=λ_=>RLive.on bJ hl h1 hi bf (by omega) (by omega) (hl.regs.set _ (by omega)) hl.reads (by omega) hl.writes (by omega) (by omega) (hM.drop e1 (Wj1 hi h9) (by omega) (by omega) (by omega)) hl.pb}
         .refine h.st ?_;have aM:stk p.1 (i+1)=stk p.1 i:=Wga hi (by omega) (by omega);simp only[bZ];exact{hx with rg:=Vals.le4 (Wkj ok (by omega) (by omega) hl.regs),live:=λ_=>RLive.on bJ hl h1 hi bf (by omega) (by omega) (Wkj ok (by omega) (by omega) hl.regs) hl.reads (by omega) hl.writes (by omega) (by omega) (hM.mono aM (by omega) (by omega) (by omega)) hl.pb}
theorem Wtl(h:GOk w)(hx:ROk p n x)(hu:x.phase=0)(hcl:0<=(p.1.length:Int)):QOk p n w (Weh w x k):=by
 have kU:=WK h.mem;unfold Weh;split
 .exact h.st hx
 .split
  .exact h.qt hx _
  .split
   .exact h.st hx
   .refine h.st ?_;exact{
     phase:=by show(0:Int)<=1/\(1:Int)<=8;omega
     tries:=hx.tries
     live:=λ_=>{
      pc:=by show(0:Int)<=0/\(0:Int)<=_;omega
      spare:=by show(0:Int)<=0/\(0:Int)<=2;omega
      rv:=⟨kU.2.1,kU.2.2.1⟩
      regs:=⟨rfl,λv hv=>by simp at hv;omega⟩
      reads:=λr hr=>by cases hr
      rl:=by simp;omega
      writes:=λr hr=>by cases hr
      wl:=by simp
      ul:=by simp
      marks:=⟨by simp[stk],(λq hq=>by cases hq),List.Pairwise.nil⟩
      pb:=λh=>by cases h
      fork:=λh=>by(change (1:Int)=2 at h;omega)
      back:=λh=>by(change (1:Int)=3\/(1:Int)=4 at h;omega)
      newRv:=by show(0:Int)<=0/\(0:Int)<=1000000;omega
      pos:=λh=>by(change (1:Int)=4 at h;omega)
      unw:=λh=>by(change (1:Int)=4 at h;omega)}
     comm:=λh=>by(change (1:Int)=5 at h;omega)
     undos:=λu hu=>by cases hu
     ul:=by simp
     rg:=by simp
     ord:=by simp}
theorem Wle{codes:List (List Opn)}{f:Fm}(h:FOk codes n f):WcP (Wgq f)/\(Wgq f).length<=8:=by
 refine⟨λr hr=>?_,by unfold Wgq;rw[Xy];exact h.buf8⟩;obtain⟨e,he,rfl⟩:=Xv.1 hr;have:=h.bufE e he;exact⟨this.1,this.2.1⟩
theorem Wjw{codes:List (List Opn)}{f:Fm}(h:FOk codes n f)(h3:codes.length<=3):Vals 4 (WhQ f):=by
 have hl:=h.len;have hr:=h.regs;unfold WhQ;rw[if_pos ⟨WeD.2 hr,by omega⟩];refine⟨by simp[hr.len];omega,λv hv=>?_⟩;rcases Xl.1 hv with hv|hv
 .obtain⟨y,hy,rfl⟩:=Xv.1 hv;unfold Wt6;split
  .rename_i hc;exact(WeD.1 hc.2).get _
  .omega
 .exact hr.val v (List.mem_of_mem_drop hv)
theorem Wtr(hp:POk p)(hx:ROk p n x)(h2:x.phase=2):ROk p n (Wd5 x):=by
 have hl:=hx.live (by omega);have bJ:=hp.code;obtain⟨f1,f2,f3⟩:=hl.fork h2;obtain⟨i,hi,bf,ho⟩:=We5 (l:=p.1) hl.pc.1 f1;rw[ho]at f2;have hM:=hl.marks;have dx:=hl.rl;have cY:=hl.ul;rw[bf,Xj]at hM dx;unfold Wd5;split
 .exact Wey hx
 .split
  .have hz:x.marks= []:=by
    have h1:=congrArg Xc hM.pcs;simp only[Xy]at h1;have h3:=Wbx bJ.up i (by omega);have h4:=(bJ.fk i hi f2).1;exact Xad (by omega)
   have aM:stk p.1 (i+1)=stk p.1 i:=Wga hi (by omega) (by omega);have wj:=Wle f3;have nV:=f3.len3 hp.k3;have x9:=f3.readsL;have ya:frk p.1 (i+1)=frk p.1 i+1:=by rw[Whk hi];simp[f2]
   exact{hx with
    phase:=by show(0:Int)<=1/\(1:Int)<=8;omega
    rg:=(Wjw f3 hp.k3).le4
    ord:=nV
    live:=λ_=>{hl with
     pc:=by show 0<=x.pc+1/\x.pc+1<=_;omega
     regs:=Wjw f3 hp.k3
     reads:=λr hr=>by
      rcases Xl.1 hr with hr|hr
      .exact hl.reads r hr
      .exact f3.readsE r hr
     rl:=by
      show((x.reads++x.fam.reads).length:Int)<=x.pc+1+72*(frk p.1 (x.pc+1).toNat:Int);rw[show(x.pc+1).toNat=i+1 by omega,ya,List.length_append];omega
     writes:=wj.1
     wl:=by have:=wj.2;show((Wgq x.fam).length:Int)<=x.pc+1+8;omega
     ul:=by show(x.undos.length:Int)<=x.pc+1;omega
     marks:=by
      show RMk p.1 (x.pc+1).toNat x.marks _ _ _;rw[show(x.pc+1).toNat=i+1 by omega];rw[hz]at hM⊢;exact⟨by rw[aM];exact hM.pcs,(λq hq=>by cases hq),List.Pairwise.nil⟩
     fork:=λh=>by(change (1:Int)=2 at h;omega)
     back:=λh=>by(change (1:Int)=3\/(1:Int)=4 at h;omega)
     pos:=λh=>by(change (1:Int)=4 at h;omega)
     unw:=λh=>by(change (1:Int)=4 at h;omega)}
    comm:=λh=>by(change (1:Int)=5 at h;omega)}
  .exact hx
theorem WoV(hp:POk p)(h:GOk w)(hx:ROk p n x)(h3:x.phase=3):QOk p n w (WbG w x):=by
 have hl:=hx.live (by omega);have hz:=hl.back (.inl h3);obtain⟨m,q,e1,e2,⟨gM,kr⟩,e4,e5,e6,e7,e8,e9,iQ,jC,kh,eI,iR⟩:=hl.mk24 hp.code hz;have kU:=WK h.mem;unfold WbG;split
 .exact WjU h hx (by omega) λ_=>⟨hp.code,λ_=>by omega⟩
 .refine h.st ?_;exact{hx with
   phase:=by show(0:Int)<=4/\(4:Int)<=8;omega
   live:=λ_=>{hl with
    fork:=λh=>by(change (4:Int)=2 at h;omega)
    back:=λ_=>hz
    newRv:=⟨kU.2.1,kU.2.2.1⟩
    pos:=λ_=>by(show(0:Int)<=0/\(0:Int)<=x.last.2.1;omega)
    unw:=λ_=>by(show(x.undos.length:Int)<=x.last.2.2.2.1;omega)}
   comm:=λh=>by(change (4:Int)=5 at h;omega)}
theorem Wpr(hp:POk p)(h:GOk w)(hx:ROk p n x)(h4:x.phase=4):ROk p n (Wa5 w x):=by
 have hl:=hx.live (by omega);have hz:=hl.back (.inr h4);have cb:=hl.pos h4;obtain⟨m,q,e1,e2,⟨gM,kr⟩,e4,e5,e6,e7,e8,e9,iQ,jC,kh,eI,iR⟩:=hl.mk24 hp.code hz;unfold Wa5;split
 .simp only;split
  .exact Wey hx
  .exact{hx with live:=λ_=>{hl with pos:=λ_=>by(show 0<=x.pos+1/\x.pos+1<=x.last.2.1;omega)}}
 .rename_i fb;have aM:stk p.1 (m+1)=stk p.1 x.pc.toNat:=by
   have yb:=hl.pc;rw[WiO gM kr,e7];rcases Wb6 (stk p.1 x.pc.toNat)with h0|⟨t,j,ht⟩
   .have h1:=congrArg Xc hl.marks.pcs;rw[h0]at h1;simp at h1;exact absurd h1 (by intro hh;rw[hh]at hz;simp at hz)
   .have h1:=hl.marks.pcs;rw[e1,ht]at h1;simp only[Xr,List.map_cons,List.map_nil]at h1;have h2:=(List.append_inj' h1 rfl).2;injection h2 with h2;rw[e2]at h2;rw[ht,List.dropLast_concat,show m=j by omega]
  have uS:=WnV p.1 (show m<=m+1 by omega);rw[e2,Xj]at iQ;have bZ:x.last.1+1=((m+1:Nat):Int):=by omega
  have t1:(Xav x.last.2.1.toNat x.reads).length=x.last.2.1.toNat:=by rw[Xal];omega
  have t2:(Xav x.last.2.2.1.toNat x.writes).length=x.last.2.2.1.toNat:=by rw[Xal];omega
  exact{hx with
   phase:=by show(0:Int)<=1/\(1:Int)<=8;omega
   rg:=e9.le4
   live:=λ_=>{hl with
    pc:=by show 0<=x.last.1+1/\x.last.1+1<=_;omega
    rv:=hl.newRv
    regs:=e9
    reads:=λr hr=>hl.reads r (Xbw hr)
    rl:=by
     show((Xav x.last.2.1.toNat x.reads).length:Int)<=x.last.1+1+72*(frk p.1 (x.last.1+1).toNat:Int);rw[bZ,Xj,t1];omega
    writes:=λr hr=>hl.writes r (Xbw hr)
    wl:=by show((Xav x.last.2.2.1.toNat x.writes).length:Int)<=x.last.1+1+8;rw[t2];omega
    ul:=by
     show(x.undos.length:Int)<=x.last.1+1;have:=hl.unw h4;omega
    marks:=by
     show RMk p.1 (x.last.1+1).toNat x.marks (Xav x.last.2.1.toNat x.reads).length (Xav x.last.2.2.1.toNat x.writes).length x.undos.length;rw[bZ,Xj,t1,t2];exact(hl.marks.cut e1 (by omega) (by omega) iR).mono aM (Xn _) (Xn _) (Xn _)
    fork:=λh=>by(change (1:Int)=2 at h;omega)
    back:=λh=>by(change (1:Int)=3\/(1:Int)=4 at h;omega)
    newRv:=by show(0:Int)<=0/\(0:Int)<=1000000;omega
    pos:=λh=>by(change (1:Int)=4 at h;omega)
    unw:=λh=>by(change (1:Int)=4 at h;omega)}
   comm:=λh=>by(change (1:Int)=5 at h;omega)}
end
end
section
section
variable{N:Nat}{w:Wo}{k:Nat}{x:Rt}{p:Pg}{n:Int}{ps:List Pg}
theorem Wpw(h:GOk w)(hx:ROk p n x)(h5:x.phase=5)(hk:k<=8):QOk p n w (Waz w x k):=by
 have hc:=hx.comm h5;unfold Waz;split
 .split
  .exact h.st (Wey hx)
  .refine h.st ?_;exact{hx with live:=λhh=>by(change 1<=x.phase/\x.phase<=4 at hh;omega),comm:=λ_=>Wpl hc}
 .have aM:=Wlc hc h.mem;obtain⟨m',c',hq⟩:∃m' c',Ws w.mem x.cm=(m',c'):=⟨_,_,rfl⟩;simp only[hq]at aM⊢;refine⟨?_,aM.2,h.shelf,h.holds,?_,?_,rfl,rfl⟩
  .have hy:ROk p n {x with cm:=c'}:={hx with live:=λhh=>by(change 1<=x.phase/\x.phase<=4 at hh;omega),comm:=λ_=>aM.1};unfold Wbm;simp only;split
   .exact Wey hy
   .split
    .have bQ:(if x.fate=2 then(6:Int)else 7)=6\/(if x.fate=2 then(6:Int)else 7)=7:=by split<;>simp
     generalize (if x.fate=2 then(6:Int)else 7)=ph at*;exact{hx with
      phase:=by show 0<=ph/\ph<=8;omega
      live:=λhh=>by(change 1<=ph/\ph<=4 at hh;omega)
      comm:=λhh=>by(change ph=5 at hh;omega)}
    .exact hy
  .simp only;split<;>simp
  .simp only;intro h hh;split at hh
   .rcases Xl.1 hh with hh|hh
    .exact .inl hh
    .rw[Xx]at hh;subst hh;exact .inr ⟨aM.1.plen,aM.1.rows,by simp only;omega,by simp only;omega⟩
   .exact .inl hh
theorem WkS(hp:POk p)(h:GOk w)(hx:ROk p n x)(hk:k<=8)(hn:0<=n):QOk p (n+1) w (Wai w x k p):=by
 have eM:=hx.wk (show n<=n+1 by omega);unfold Wai;by_cases hd:x.doomed=true/\1<=x.phase/\x.phase<=4
 .rw[if_pos hd];exact h.st (Wey eM)
 rw[if_neg hd];by_cases h0:x.phase=0
 .rw[if_pos h0];exact Wtl h eM h0 (by omega)
 rw[if_neg h0];by_cases h1:x.phase=1
 .rw[if_pos h1];exact WuU hp h eM h1 hk (by omega)
 rw[if_neg h1];by_cases h2:x.phase=2
 .rw[if_pos h2];exact h.st (Wtr hp eM h2)
 rw[if_neg h2];by_cases h3:x.phase=3
 .rw[if_pos h3];exact WoV hp h eM h3
 rw[if_neg h3];by_cases h4:x.phase=4
 .rw[if_pos h4];exact h.st (Wpr hp h eM h4)
 rw[if_neg h4];by_cases h5:x.phase=5
 .rw[if_pos h5];exact Wpw h eM h5 hk
 rw[if_neg h5];by_cases h6:x.phase=6
 .rw[if_pos h6];by_cases hz:x.undos.length>0
  .rw[if_pos hz];exact WjU h eM (by omega) λhh=>by omega
  .rw[if_neg hz];refine h.st ?_;exact{eM with
    phase:=by show(0:Int)<=7/\(7:Int)<=8;omega
    live:=λhh=>by(change (1:Int)<=7/\(7:Int)<=4 at hh;omega)
    comm:=λhh=>by(change (7:Int)=5 at hh;omega)}
 rw[if_neg h6];by_cases h7:x.phase=7
 .rw[if_pos h7];have hg:GOk {w with holds:=W1 w.holds ((k:Int)+1)}:=⟨h.mem,h.shelf,Wih h.holds⟩;by_cases hf:x.fate=0
  .rw[if_pos hf];refine⟨?_,h.mem,h.shelf,Wih h.holds,by simp,λ_ hh=>.inl hh,rfl,rfl⟩;exact{
    phase:=by show(0:Int)<=0/\(0:Int)<=8;omega
    tries:=by have:=hx.tries;show 0<=x.tries+1/\x.tries+1<=n+1;omega
    live:=λhh=>by(change (1:Int)<=0/\(0:Int)<=4 at hh;omega)
    comm:=λhh=>by(change (0:Int)=5 at hh;omega)
    undos:=λu hu=>by cases hu
    ul:=by simp
    rg:=by simp
    ord:=by simp}
  .rw[if_neg hf];have:=Wrx (k:=k) hg eM;exact⟨this.root,this.mem,this.shelf,this.holds,this.hist,this.histE,this.roots,this.now⟩
 .rw[if_neg h7];exact h.st eM
theorem WsB(hk:k<w.roots.length)(aQ:w.roots[k]=x)(nX:w.roots.length<=8)(hp:POk p)(h:GOk w)(hx:ROk p n x)(hn:n<=200000)(hh:w.hist.length<=500000)(hN:1048576<N):
  Zhv N w.e (k:Int) p=some (((Wo.put (Wai w x k p) k).e,()),()):=by
 obtain⟨g1,g2,g3,g4,g5⟩:=woG hk aQ;obtain⟨r0,r1,r2,r3,r4,r5,r6,r7,r8,jD,iS,hQ,hY,iw,iy,km,kn,jE,jF,ko,kp,kq⟩:=rtP x;have wm:k<=8:=by omega
 have eJ:=Woj hk aQ;have q7:=hx.tries;have yc:=hx.ul;have rF:=WjJ h.holds;unfold Zhv Wai;simp only[Wl];rw[show P5 w.e=w.roots.map Rt.e from rfl,g4,g2,Wcs (by omega),Wcs (show 0<=x.e.2.1/\x.e.2.1<=1000000 by show 0<=x.tries/\x.tries<=_;omega)];simp(maxSteps:=4000000) only[g3,r0,r7,jD,iy,cond_true,Wk,ret,Xd,WeE,Wv,Waa,show w.e.2.2.1.1=w.mem.1 from rfl,Wb,show P4 w.e=w.holds from rfl];rw[Whd h.holds (by omega) hN];simp only[ret,Xd];have hS4:S4 (W1 w.holds ((k:Int)+1)) w.e=Wo.e {w with holds:=W1 w.holds ((k:Int)+1)}:=rfl;have yd:S5 (Xm (w.roots.map Rt.e) (Xa (k:Int)) x.e) (S4 (W1 w.holds ((k:Int)+1)) w.e)=Wo.e {w with holds:=W1 w.holds ((k:Int)+1)}:=(woG (w:={w with holds:=W1 w.holds ((k:Int)+1)}) hk aQ).2.2.1;rw[yd,Wqf (w:={w with holds:=W1 w.holds ((k:Int)+1)}) hk aQ (by omega),Wsk hk aQ nX hN];have dP:∀(A:Option ((Y_World×Unit)×Unit)),A=some (((Wo.put (
   if x.phase=0 then Weh w x k else
   if x.phase=1 then Wk5 w x k p else
   if x.phase=2 then(w,Wd5 x)else
   if x.phase=3 then WbG w x else
   if x.phase=4 then(w,Wa5 w x)else
   if x.phase=5 then Waz w x k else
   if x.phase=6 then(if x.undos.length>0 then Wd3 w x else(w,{x with phase:=7}))else
   if x.phase=7 then
    (if x.fate=0 then({w with holds:=W1 w.holds ((k:Int)+1)},{tries:=x.tries+1})
     else Wk4 {w with holds:=W1 w.holds ((k:Int)+1)} x k)
   else(w,x)) k).e,()),())->¬(x.doomed=true/\1<=x.phase/\x.phase<=4)->A=some (((Wo.put (
   if x.doomed=true/\1<=x.phase/\x.phase<=4 then(w,Wdd x)else
   if x.phase=0 then Weh w x k else
   if x.phase=1 then Wk5 w x k p else
   if x.phase=2 then(w,Wd5 x)else
   if x.phase=3 then WbG w x else
   if x.phase=4 then(w,Wa5 w x)else
   if x.phase=5 then Waz w x k else
   if x.phase=6 then(if x.undos.length>0 then Wd3 w x else(w,{x with phase:=7}))else
   if x.phase=7 then
    (if x.fate=0 then({w with holds:=W1 w.holds ((k:Int)+1)},{tries:=x.tries+1})
     else Wk4 {w with holds:=W1 w.holds ((k:Int)+1)} x k)
   else(w,x)) k).e,()),()):=λA hA hn=>by rw[if_neg hn];exact hA
 have mB:(if x.phase=0 then(some (((Wo.put (Weh w x k) k).e,()),()):Option ((Y_World×Unit)×Unit)).bind (λo6=>some ((o6.1.1,()),()))
   else if x.phase=1 then(Zij N w.e (k:Int) p).bind (λo7=>some ((o7.1.1,()),()))
   else if x.phase=2 then(Zik N x.e).bind (λo8=>some ((S5 (Xm (w.roots.map Rt.e) (Xa (k:Int)) o8.1.1) w.e,()),()))
   else if x.phase=3 then(Zd6 N x.e).bind (λo9=>if(x.undos.length:Int)>o9.2.1.2.2.2 then(Zci N w.e (Xa (k:Int))).bind (λcC=>some ((cC.1.1,()),()))else some ((S5 (Xm (w.roots.map Rt.e) (Xa (k:Int)) (S6 0 (S5 w.mem.1 (S0 4 x.e)))) w.e,()),()))
   else if x.phase=4 then(Zgm N w.e (Xa (k:Int))).bind (λgl=>some ((gl.1.1,()),()))
   else if x.phase=5 then(Zgn N w.e (k:Int)).bind (λeb=>some ((eb.1.1,()),()))
   else if x.phase=6 then(if(x.undos.length:Int)>0 then(Zci N w.e (Xa (k:Int))).bind (λcJ=>some ((cJ.1.1,()),()))else some ((S5 (Xm (w.roots.map Rt.e) (Xa (k:Int)) (7,x.e.2)) w.e,()),()))
   else if x.phase=7 then(if x.fate=0 then some ((S5 (Xm (w.roots.map Rt.e) (Xa (k:Int)) ((0:Int),(x.e.2.1+1,((0:Int),((0:Int),((0:Int),((0:Int),((0:Int),((0:Int),((0:Int),((0:Int),((0:Int),(false,(([]:List Int),(([]:List Kc),(([]:List Kc),(([]:List Kj),(([]:List Kb),(([]:List Int),(false,(((0:Int),((0:Int),((0:Int),(0:Int)))),(((0:Int),((0:Int),((0:Int),((0:Int),((0:Int),(([]:List Kc),([]:List Int))))))),d_Family)))))))))))))))))))))) (S4 (W1 w.holds ((k:Int)+1)) w.e),()),())else(some (((Wo.put (Wk4 {w with holds:=W1 w.holds ((k:Int)+1)} x k) k).e,()),()):Option ((Y_World×Unit)×Unit)).bind (λmj=>some ((mj.1.1,()),())))
   else some ((w.e,()),()))=some (((Wo.put (
   if x.phase=0 then Weh w x k else
   if x.phase=1 then Wk5 w x k p else
   if x.phase=2 then(w,Wd5 x)else
   if x.phase=3 then WbG w x else
   if x.phase=4 then(w,Wa5 w x)else
   if x.phase=5 then Waz w x k else
   if x.phase=6 then(if x.undos.length>0 then Wd3 w x else(w,{x with phase:=7}))else
   if x.phase=7 then
    (if x.fate=0 then({w with holds:=W1 w.holds ((k:Int)+1)},{tries:=x.tries+1})
     else Wk4 {w with holds:=W1 w.holds ((k:Int)+1)} x k)
   else(w,x)) k).e,()),()):=by
  rw[Xj];by_cases h0:x.phase=0
  .rw[if_pos h0,if_pos h0];rfl
  .rw[if_neg h0,if_neg h0];by_cases h1:x.phase=1
   .rw[if_pos h1,if_pos h1,WuQ hk aQ wm hp (hx.live (by omega)) hx.undos h.mem h.shelf h.holds hN];rfl
   .rw[if_neg h1,if_neg h1];by_cases h2:x.phase=2
    .rw[if_pos h2,if_pos h2,WsR hp (hx.live (by omega)) h2 hN];exact WcU rfl rfl rfl
    .rw[if_neg h2,if_neg h2];by_cases h3:x.phase=3
     .have hl:=hx.live (by omega);obtain⟨z1,z2,z3,z4,z5,z6⟩:=hl.sz hp.code;rw[if_pos h3,if_pos h3,Wmn (hl.back (.inl h3)) (by omega)];simp only[Xd];have dc:=(hl.mk24 hp.code (hl.back (.inl h3)));obtain⟨m,q,e1,e2,_,_,_,_,_,_,_,_,_,iR⟩:=dc;unfold WbG;by_cases hgt:(x.undos.length:Int)>x.last.2.2.2.1
      .rw[if_pos hgt,if_pos hgt,WkE hk aQ (by omega) (by omega) hx.undos h.shelf hN];rfl
      .rw[if_neg hgt,if_neg hgt];exact WcU rfl rfl rfl
     .rw[if_neg h3,if_neg h3];by_cases h4:x.phase=4
      .rw[if_pos h4,if_pos h4,Wpg hk aQ hp (hx.live (by omega)) h4 h.mem];rfl
      .rw[if_neg h4,if_neg h4];by_cases h5:x.phase=5
       .rw[if_pos h5,if_pos h5,Wpq hk aQ wm (hx.comm h5) h.mem hh hN];rfl
       .rw[if_neg h5,if_neg h5];by_cases h6:x.phase=6
        .rw[if_pos h6,if_pos h6];by_cases hz:x.undos.length>0
         .rw[if_pos (by omega),if_pos hz,WkE hk aQ (by omega) (by omega) hx.undos h.shelf hN];rfl
         .rw[if_neg (by omega),if_neg hz];exact WcU rfl rfl rfl
        .rw[if_neg h6,if_neg h6];by_cases h7:x.phase=7
         .rw[if_pos h7,if_pos h7];by_cases hf:x.fate=0
          .rw[if_pos hf,if_pos hf,hS4];exact WcU (w:=w) (w':={w with holds:=W1 w.holds ((k:Int)+1)}) (x':={tries:=x.tries+1}) rfl rfl rfl
          .rw[if_neg hf,if_neg hf];rfl
         .rw[if_neg h7,if_neg h7,eJ]
 rw[Whs];by_cases hd:x.doomed=true
 .rw[if_pos hd];by_cases bQ:1<=x.phase/\x.phase<=4
  .rw[decide_eq_true bQ.1,decide_eq_true bQ.2,if_pos (show x.doomed=true/\1<=x.phase/\x.phase<=4 from⟨hd,bQ⟩),Xj];exact WcU rfl rfl rfl
  .have hb:(decide (1<=x.phase)&&decide (x.phase<=4))=false:=by
    rw[Xcm,decide_eq_false_iff_not,decide_eq_false_iff_not];omega
   rw[hb];exact dP _ mB (λhc=>bQ hc.2)
 .rw[if_neg hd];exact dP _ mB (λhc=>hd hc.1)
end
end
section
noncomputable def Wm8(p:Pg):Bool:=p.2.all WgD&&(Wo5 p.1&&(decide (p.2.length<=3)&&beq (p.1.any λo=>o.1==11) (decide (p.2.length>0))))
noncomputable def Wov(s:Sc):Bool:=WtA s.1&&(decide (s.2.1.length<=4)&&(decide (s.2.2.length<=400)&&s.2.1.all Wm8))
structure PB(p:Pg):Prop where
 code:p.1.length<=1000
 kids:p.2.length<=1000
 each:∀c∈p.2,c.length<=1000
structure SB(s:Sc):Prop where
 cells:s.1.1.length<=100
 map:s.1.2.1.length<=100
 progs:s.2.1.length<=100
 each:∀p∈s.2.1,PB p
 acts:s.2.2.length<=1000
variable{N:Nat}{s:Sc}{p:Pg}{w:Wo}{n:Int}{a:Ac}
theorem WuS(h:Wm8 p=true):POk p:=by
 unfold Wm8 at h;simp only[Xi,Xak,decide_eq_true_eq]at h;exact⟨WvD h.2.1,λc hc=>Wwq (h.1 c hc),h.2.2.1⟩
theorem Wgh(h:Wov s=true):ThOk s.1/\s.2.1.length<=4/\s.2.2.length<=400/\∀p∈s.2.1,POk p:=by
 unfold Wov at h;simp only[Xi,Xak,decide_eq_true_eq]at h;exact⟨WkB.1 h.1,h.2.1,h.2.2.1,λp hp=>WuS (h.2.2.2 p hp)⟩
theorem WnG{α:Type}(l:List α)(k:Nat):decide ((Wb l)<=(k:Int))=decide (l.length<=k):=by
 unfold Wb;by_cases h:l.length<=k
 .rw[decide_eq_true h,decide_eq_true (by omega)]
 .rw[decide_eq_false h,decide_eq_false (by omega)]
theorem Wip{α:Type}(l:List α)(k:Nat):decide ((Wb l)>(k:Int))=decide (l.length>k):=by
 unfold Wb;by_cases h:l.length>k
 .rw[decide_eq_true h,decide_eq_true (by omega)]
 .rw[decide_eq_false h,decide_eq_false (by omega)]
theorem WhM(l k:Nat):decide (l>k)= !decide (l<=k):=by
 by_cases h:l<=k
 .rw[decide_eq_true h,decide_eq_false (by omega)];rfl
 .rw[decide_eq_false h,decide_eq_true (by omega)];rfl
theorem WlD{l:List Opn}(hl:l.length<=1048576)(hN:1048576<N):Zh0 N l=ret (l.any λo=>o.1==11):=by
 unfold Zh0 Za1 Z4;have h1:=WkM (l:=l) (p:=λo=>o.1==11) (N:=N) (lp:=λn j=>Zm N l (λay=>(some ((),(ay,())))) (λai aG=>(some ((),((-1:Int),())))) n j) (K0:=λj=>some ((),(j,()))) (K1:=some ((),((-1:Int),()))) (by omega) (by omega)
  (λn j hj=>by
   simp only[Zm,WN hj,Wg hj,Wj hj,Wf (show j<4611686018427387904 by omega),cond_true,Zny,Xd])
  (λn=>by simp only[Zm,WV (Xn _),cond_false])
 rw[h1];have h2:=WkX (p:=λo:Opn=>o.1==11) l 0;cases hf:fnd (λo:Opn=>o.1==11) l 0 with
 |some r=>
  rw[hf]at h2;simp only[Xd,decide_eq_true (show((r.1:Int)>=0) by omega),ret];rw[←h2];rfl
 |none=>
  rw[hf]at h2;rw[←h2];rfl
theorem Wlx(h:PB p)(hN:1048576<N):Ziz N p=ret (Wm8 p):=by
 have hc:=h.code;have hk:=h.kids;unfold Ziz Wm8;have h1:=Wq (l:=p.2) (V:=Unit) (R:=Unit×Ko) (lp:=λn j v=>Zdp N p.2 p (some ((),(false,()))) (λay ai=>
  ((Zc9 N p.1).bind λcJ=>
 (bif cJ.2.1 then
 (bif decide ((Wb p.2)<=(3:Int))then
 ((Zh0 N p.1).bind λdp=>
 (some ((),(beq dp.2.1 (decide ((Wb p.2)>(0:Int))),()))))
 else
 (some ((),(false,()))))
 else
 (some ((),(false,())))))) n j) (n:=N) (by omega)
  (body:=λj x v k=>(Zid N x).bind λo=>bif !o.2.1 then some ((),(false,()))else k v) (K:=λ_ v=>((Zc9 N p.1).bind λcJ=>
 (bif cJ.2.1 then
 (bif decide ((Wb p.2)<=(3:Int))then
 ((Zh0 N p.1).bind λdp=>
 (some ((),(beq dp.2.1 (decide ((Wb p.2)>(0:Int))),()))))
 else
 (some ((),(false,()))))
 else
 (some ((),(false,()))))))
  (λn i v hi=>by simp only[Zdp,WN hi,Wg hi,Wj hi,Wf (show i<4611686018427387904 by omega),cond_true])
  (λn v=>by simp only[Zdp,WV (Xn p.2.length),cond_false]) ()
 refine h1.trans ?_;rw[Was (p:=λx=>!WgD x) (E:=λ_=>some ((),(false,()))) p.2 0 () (λj x v k hx=>by rw[Wm5 (by have:=h.each x hx;omega) hN];rfl),Wb1,Wg2 (by omega) hN,WlD (by omega) hN];simp only[ret,Xd];rw[show(3:Int)=((3:Nat):Int)from rfl,WnG,show(0:Int)=((0:Nat):Int)from rfl,Wip];cases p.2.all WgD<;>cases Wo5 p.1<;>cases decide (p.2.length<=3)<;>rfl
theorem Wln(h:PB p)(hN:1048576<N):Zhq N p=ret (Wm8 p):=by
 have hc:=h.code;have hk:=h.kids;unfold Zhq Wm8;have h1:=Wq (l:=p.2) (V:=Unit) (R:=Unit×Ko) (lp:=λn j v=>Zch N p (some ((),(false,()))) (λae ay=>(some ((),(true,())))) n j) (n:=N) (by omega)
  (body:=λj x v k=>(Zic N x).bind λo=>bif !o.2.1 then some ((),(false,()))else k v) (K:=λ_ v=>some ((),(true,())))
  (λn i v hi=>by simp only[Zch,WN hi,Wg hi,Wj hi,Wf (show i<4611686018427387904 by omega),cond_true])
  (λn v=>by simp only[Zch,WV (Xn p.2.length),cond_false]) ()
 have h2:Zch N p (some ((),(false,()))) (λae ay=>(some ((),(true,())))) N 0=ret (p.2.all WgD):=by
  refine h1.trans ?_;rw[Was (p:=λx=>!WgD x) (E:=λ_=>some ((),(false,()))) p.2 0 () (λj x v k hx=>by rw[WmT (by have:=h.each x hx;omega) hN];rfl),Wb1];cases p.2.all WgD<;>rfl
 rw[h2,Wg3 (by omega) hN,Wg7 (by omega) hN];simp only[ret,Xd];rw[show(3:Int)=((3:Nat):Int)from rfl,Wip,WhM,show(0:Int)=((0:Nat):Int)from rfl,Wip];generalize beq (p.1.any λo=>o.1==11) (decide (p.2.length>0))=b;cases p.2.all WgD<;>cases Wo5 p.1<;>cases decide (p.2.length<=3)<;>cases b<;>rfl
theorem We8{t:List Int×List Int×Int}(h1:t.1.length<=1048576)(h2:t.2.1.length<=1048576)(hN:1048576<N):Zfm N t=ret (WtA t):=by
 unfold Zfm WtA WmF;have e:((Wb t.2.1) !=(8:Int))= !decide (t.2.1.length=8):=by
  by_cases h:t.2.1.length=8
  .simp[Wb,h]
  .simp[Wb,h];omega
 have h3:=Wq (l:=t.2.1) (V:=Unit) (R:=Unit×Ko) (lp:=λn j v=>Zby N t (some ((),(false,()))) (λae ay=>(some ((),(true,())))) n j) (n:=N) (by omega)
  (body:=λj x v k=>bif !(decide (0<=x)&&decide (x<=65536))then some ((),(false,()))else k v) (K:=λ_ v=>some ((),(true,())))
  (λn i v hi=>by simp only[Zby,WN hi,Wg hi,Wj hi,Wf (show i<4611686018427387904 by omega),cond_true,WcS,ret,Xd])
  (λn v=>by simp only[Zby,WV (Xn t.2.1.length),cond_false]) ()
 have h4:Zby N t (some ((),(false,()))) (λae ay=>(some ((),(true,())))) N 0=ret (t.2.1.all λx=>decide (0<=x)&&decide (x<=65536)):=by
  refine h3.trans ?_;rw[Was (p:=λx=>!(decide (0<=x)&&decide (x<=65536))) (E:=λ_=>some ((),(false,()))) t.2.1 0 () (λj x v k _=>rfl),Wb1];cases t.2.1.all _<;>rfl
 rw[Wcm h1 hN,e,WJ,h4];cases Wd1 t.1<;>cases decide (t.2.1.length=8)<;>cases Wbh t.2.2<;>cases t.2.1.all _<;>rfl
theorem WiD(h:SB s)(hN:1048576<N):Zhf N s=ret (Wov s):=by
 have h1:=h.cells;have h2:=h.map;have h3:=h.progs;unfold Zhf Wov;have h4:=Wq (l:=s.2.1) (V:=Unit) (R:=Unit×Ko) (lp:=λn j v=>Zbz N s (some ((),(false,()))) (λi9 aw=>(some ((),(true,())))) n j) (n:=N) (by omega)
  (body:=λj x v k=>(Zhq N x).bind λo=>bif !o.2.1 then some ((),(false,()))else k v) (K:=λ_ v=>some ((),(true,())))
  (λn i v hi=>by simp only[Zbz,WN hi,Wg hi,Wj hi,Wf (show i<4611686018427387904 by omega),cond_true])
  (λn v=>by simp only[Zbz,WV (Xn s.2.1.length),cond_false]) ()
 have h5:Zbz N s (some ((),(false,()))) (λi9 aw=>(some ((),(true,())))) N 0=ret (s.2.1.all Wm8):=by
  refine h4.trans ?_;rw[Was (p:=λx=>!Wm8 x) (E:=λ_=>some ((),(false,()))) s.2.1 0 () (λj x v k hx=>by rw[Wln (h.each x hx) hN];rfl),Wb1];cases s.2.1.all Wm8<;>rfl
 rw[h5,We8 (by omega) (by omega) hN];simp only[ret,Xd];rw[show(4:Int)=((4:Nat):Int)from rfl,Wip,WhM,show(400:Int)=((400:Nat):Int)from rfl,Wip,WhM];cases WtA s.1<;>cases decide (s.2.1.length<=4)<;>cases decide (s.2.2.length<=400)<;>rfl
theorem WiS(h:SB s)(hN:1048576<N):Zlw N s=ret (Wov s):=by
 have h1:=h.cells;have h2:=h.map;have h3:=h.progs;unfold Zlw Wov Zap Zx;have h4:=Wq (l:=s.2.1) (V:=Unit) (R:=Unit×Ki) (lp:=λn j v=>Ze N s.2.1 (λay=>(some ((),(ay,())))) (λai aG=>(some ((),((-1:Int),())))) n j) (n:=N) (by omega)
  (body:=λj x v k=>(Zjs N x).bind λo=>bif o.2.1 then some ((),(j,()))else k v) (K:=λ_ v=>some ((),((-1:Int),())))
  (λn i v hi=>by simp only[Ze,WN hi,Wg hi,Wj hi,Wf (show i<4611686018427387904 by omega),cond_true])
  (λn v=>by simp only[Ze,WV (Xn s.2.1.length),cond_false]) ()
 have h5:((Ze N s.2.1 (λay=>(some ((),(ay,())))) (λai aG=>(some ((),((-1:Int),())))) N 0).bind λo2=>some ((),(decide (o2.2.1>=(0:Int)),())))=ret (!s.2.1.all Wm8):=by
  have h6:=h4;rw[h6,WfT (p:=λx=>!Wm8 x) (E:=λj _=>some ((),(j,()))) s.2.1 0 () (λj x v k hx=>by unfold Zjs;rw[Wlx (h.each x hx) hN];rfl)];have h7:=WkX (p:=λx=>!Wm8 x) s.2.1 0;rw[Wb1]at h7;rw[←h7];cases hf:fnd (λx=>!Wm8 x) s.2.1 0 with
  |some r=>simp only[Xd,decide_eq_true (show((r.1:Int)>=0) by omega)];rfl
  |none=>rfl
 rw[We3 (by omega) (by omega) hN];simp only[ret,Xd];rw[h5,show(4:Int)=((4:Nat):Int)from rfl,WnG,show(400:Int)=((400:Nat):Int)from rfl,WnG];cases WtA s.1<;>cases decide (s.2.1.length<=4)<;>cases decide (s.2.2.length<=400)<;>cases s.2.1.all Wm8<;>rfl
end
section
variable{N:Nat}{s:Sc}{p:Pg}{w:Wo}{n:Int}{a:Ac}{k:Nat}
theorem Wly{ps:List Pg}(h:∀p∈ps,POk p)(hk:k<ps.length):POk (ps.getD k pg0):=by
 rw[Wh hk];exact h _ (Xo hk)
theorem WOk.tick(h:WOk s.2.1 n w):WOk s.2.1 (n+1) {w with now:=w.now+1}:=
 {h with now:=by(have:=h.now;show w.now+1=n+1;omega),n0:=by have:=h.n0;omega,hist:=by(have:=h.hist;show(w.hist.length:Int)<=n+1;omega),root:=λk hk=>(h.root k hk).wk (by omega)}
theorem WOk.putQ{q:Wo×Rt}{w0:Wo}(h:WOk s.2.1 (n+1) {w0 with now:=w0.now+1})(hh:(w0.hist.length:Int)<=n)(hk:k<w0.roots.length)(hq:QOk (s.2.1.getD k pg0) (n+1) {w0 with now:=w0.now+1} q):WOk s.2.1 (n+1) (Wo.put q k):=by
 have hr:q.1.roots=w0.roots:=hq.roots;exact{
  len:=by show(q.1.roots.set k q.2).length=_;rw[Xaf,hr];exact h.len
  l4:=h.l4
  progs:=h.progs
  now:=hq.now.trans h.now
  n0:=h.n0
  mem:=hq.mem
  shelf:=hq.shelf
  holds:=hq.holds
  histE:=λe he=>(hq.histE e he).elim (h.histE e) id
  hist:=by have:=hq.hist;show(q.1.hist.length:Int)<=n+1;(change q.1.hist.length<=w0.hist.length+1 at this);omega
  root:=λi hi=>by
   change i<(q.1.roots.set k q.2).length at hi;rw[Xaf,hr]at hi;show ROk _ _ ((q.1.roots.set k q.2)[i]);rw[Xao];by_cases he:k=i
   .subst he;rw[if_pos rfl];exact hq.root
   .rw[if_neg he];have:=h.root i hi;simp only[hr];exact this}
theorem WrQ(h:WOk s.2.1 n w):WOk s.2.1 (n+1) (Wgu s w a):=by
 have ht:=h.tick;unfold Wgu;simp only;split
 .rename_i hb;have hk:a.2.1.toNat<w.roots.length:=by omega
  have hx:=ht.root a.2.1.toNat hk;have lO:=h.root a.2.1.toNat hk;have hg:GOk {w with now:=w.now+1}:=⟨h.mem,h.shelf,h.holds⟩;have hp:=Wly h.progs (show a.2.1.toNat<s.2.1.length by rw[←h.len];exact hk);have nX:w.roots.length<=4:=by rw[h.len];exact h.l4
  rw[Wh hk];split
  .unfold Wkx;rw[Wh (show a.2.1.toNat<({w with now:=w.now+1}:Wo).roots.length from hk)];exact ht.putQ h.hist hk (WkS hp hg lO (by omega) h.n0)
  .split
   .split
    .rename_i hf;refine ht.putQ h.hist hk (hg.st ?_);have hl:=lO.live (by omega);obtain⟨f1,f2,f3⟩:=hl.fork hf.1;have hj:a.2.2.toNat<(s.2.1.getD a.2.1.toNat pg0).2.length:=by omega
     have iZ:a.2.2.toNat<w.roots[a.2.1.toNat].fam.kids.length:=by rw[f3.len];exact hj
     have bD:KC ((s.2.1.getD a.2.1.toNat pg0).2.getD a.2.2.toNat []):=by rw[Wh hj];exact hp.kids _ (Xo hj)
     exact{hx with live:=λ_=>{hl.wk (show n<=n+1 by omega)with fork:=λ_=>⟨f1,f2,Wot iZ h.mem bD f3 rfl⟩}}
    .exact ht
   .split
    .split
     .refine ht.putQ h.hist hk (hg.st ?_);exact{hx with live:=λhh=>{hx.live hh with}}
     .exact ht
    .exact ht
 .exact ht
theorem Wuf(h:WOk s.2.1 n w)(hn:n<=99999)(hN:1048576<N):Zkm N w.e s a=some (((Wgu s w a).e,()),()):=by
 have ht:=h.tick;have q8:=h.now;have so:=h.n0;have nX:w.roots.length<=4:=by rw[h.len];exact h.l4
 unfold Zkm Wgu;simp only[Wl];rw[show P5 w.e=w.roots.map Rt.e from rfl,show w.e.1=w.now from rfl,Wcs (by omega)];have hlen:Wb (w.roots.map Rt.e)=(w.roots.length:Int):=by unfold Wb;simp
 rw[hlen,Wag (by unfold I64;omega)];simp only[Wk,ret,Xd];by_cases hb:0<=a.2.1/\a.2.1<w.roots.length
 .rw[if_pos hb,decide_eq_true hb.1,decide_eq_true (show a.2.1<=(w.roots.length:Int) -1 by omega)];obtain⟨k,ye⟩:∃k:Nat,a.2.1=k:=⟨a.2.1.toNat,by omega⟩;have hk:k<w.roots.length:=by omega
  obtain⟨x,aQ⟩:∃x,w.roots[k]=x:=⟨_,rfl⟩;have hx:=h.root k hk;rw[aQ]at hx;have kz:k<s.2.1.length:=by rw[←h.len];exact hk
  have hp:=Wly h.progs kz;obtain⟨g1,g2,g3,g4,g5⟩:=woG hk aQ;obtain⟨r0,r1,r2,r3,r4,r5,r6,r7,r8,jD,iS,hQ,hY,iw,iy,km,kn,jE,jF,ko,kp,kq⟩:=rtP x;have eJ:∀y:Rt,(w.now+1,S4 (Xm (w.roots.map Rt.e) k y.e) w.e.2)=Wo.e (Wo.put ({w with now:=w.now+1},y) k):=λy=>by
   unfold Wo.put Wo.e;simp only[List.map_set];rfl
  have bq:Wo.put ({w with now:=w.now+1},x) k={w with now:=w.now+1}:=by unfold Wo.put;simp only;rw[←aQ,Xbq]
  simp only[ye,Xj,Xbu,Xs,cond_false];rw[g1,g4,Wh hk,aQ];simp only[cond_true,r0,jE,jF,eJ,bq,show w.e.2.2.1=w.mem from rfl];rw[W5,decide_eq_true kz];have yf:Xb s.2.1 k (([]:List Ka),([]:List Kx))=s.2.1.getD k pg0:=rfl;rw[yf];generalize iG:s.2.1.getD k pg0=p at*;have hg:GOk {w with now:=w.now+1}:=⟨h.mem,h.shelf,h.holds⟩;simp only[cond_true,Wv];have aM:Zhv N (Wo.e {w with now:=w.now+1}) (k:Int) p=some (((Wo.put (Wai {w with now:=w.now+1} x k p) k).e,()),()):=
   WsB (w:={w with now:=w.now+1}) hk aQ (by show w.roots.length<=8;omega) hp hg hx (by omega) (by have:=h.hist;show w.hist.length<=500000;omega) hN
  rw[aM];by_cases h1:a.1=1
  .rw[if_pos h1,if_pos h1];unfold Wkx;rw[Wh (show k<({w with now:=w.now+1}:Wo).roots.length from hk)];simp only[aQ,Xd]
  .rw[if_neg h1,if_neg h1];by_cases h2:a.1=2
   .rw[if_pos h2,if_pos h2];by_cases hf:x.phase=2
    .rw[if_pos hf,Wag (by have:=hp.k3;unfold I64 Wb;omega),show Wb p.2=(p.2.length:Int)from rfl];by_cases hj:0<=a.2.2/\a.2.2<p.2.length
     .rw[decide_eq_true hj.1,decide_eq_true (show a.2.2<=(p.2.length:Int) -1 by omega),if_pos (show x.phase=2/\0<=a.2.2/\a.2.2<p.2.length from⟨hf,hj⟩)];obtain⟨j,mO⟩:∃j:Nat,a.2.2=j:=⟨a.2.2.toNat,by omega⟩;have hj':j<p.2.length:=by omega
      simp only[mO,Xj,Xbu,cond_true];rw[W5,decide_eq_true hj'];obtain⟨f1,f2,f3⟩:=(hx.live (by omega)).fork hf;have bD:KC (p.2.getD j []):=by rw[Wh hj'];exact hp.kids _ (Xo hj')
      rw[Wki (code:=p.2.getD j []) (by rw[f3.len];exact hj') (by rw[f3.len];exact hp.k3) h.mem bD f3 rfl (by omega) hN];simp only[Xd,cond_true];have:U21 (WaI w.mem x.fam j (p.2.getD j [])).e x.e=Rt.e {x with fam:=WaI w.mem x.fam j (p.2.getD j [])}:=rfl;rw[this,eJ];unfold Wwt;rfl
     .rw[if_neg (show¬(x.phase=2/\0<=a.2.2/\a.2.2<p.2.length)fromλhc=>hj hc.2)];have lT:(decide (0<=a.2.2)&&decide (a.2.2<=(p.2.length:Int) -1))=false:=by
       rw[Xcm,decide_eq_false_iff_not,decide_eq_false_iff_not];omega
      rw[lT];rfl
    .rw[if_neg hf,if_neg (show¬(x.phase=2/\0<=a.2.2/\a.2.2<p.2.length)fromλhc=>hf hc.1)]
   .rw[if_neg h2,if_neg h2];by_cases h3:a.1=3
    .rw[if_pos h3,if_pos h3];have hd:S11 true x.e=Rt.e {x with doomed:=true}:=rfl;simp only[hd,eJ,show(Cm.e x.cm).2.2.1=x.cm.phase from rfl,Waa];by_cases bQ:1<=x.phase/\x.phase<=4
     .rw[decide_eq_true bQ.1,decide_eq_true bQ.2,if_pos (show(1<=x.phase/\x.phase<=4)\/(x.phase=5/\x.cm.phase<=3)from .inl bQ)];rfl
     .have lT:(decide (1<=x.phase)&&decide (x.phase<=4))=false:=by
       rw[Xcm,decide_eq_false_iff_not,decide_eq_false_iff_not];omega
      rw[lT];simp only[cond_false];by_cases h5:x.phase=5
      .rw[if_pos h5];by_cases hc:x.cm.phase<=3
       .rw[if_pos hc,if_pos (show(1<=x.phase/\x.phase<=4)\/(x.phase=5/\x.cm.phase<=3)from .inr ⟨h5,hc⟩)]
       .rw[if_neg hc,if_neg (show¬((1<=x.phase/\x.phase<=4)\/(x.phase=5/\x.cm.phase<=3)) by omega)]
      .rw[if_neg h5,if_neg (show¬((1<=x.phase/\x.phase<=4)\/(x.phase=5/\x.cm.phase<=3)) by omega)]
    .rw[if_neg h3,if_neg h3]
 .rw[if_neg hb];have lT:(decide (0<=a.2.1)&&decide (a.2.1<=(w.roots.length:Int) -1))=false:=by
   rw[Xcm,decide_eq_false_iff_not,decide_eq_false_iff_not];omega
  rw[lT];rfl
theorem WqT(h:Wov s=true):WOk s.2.1 0 (Wgg s):=by
 obtain⟨h1,h2,h3,h4⟩:=Wgh h;exact{
  len:=by simp[Wgg]
  l4:=h2
  progs:=h4
  now:=rfl
  n0:=Xu _
  mem:=by
   show WZ (Wjg s.1.1)=true;have:=h1.cells.len;unfold WZ Wjg;simp only[Xy,this,decide_true,Xbt,Xi,decide_eq_true_eq,Xak];refine⟨by omega,λw hw=>?_⟩;obtain⟨v,hv,rfl⟩:=Xv.1 hw;have:=h1.cells.val v hv;rw[Wc5];unfold wd0;simp only;omega
  shelf:=⟨Wr4 h1.map.1 h1.map.2,h1.cnt⟩
  holds:=⟨(λh hh=>by cases hh),List.Pairwise.nil⟩
  hist:=by simp[Wgg]
  histE:=λh hh=>by cases hh
  root:=λk hk=>by
   simp only[Wgg,Xbh];exact{
    phase:=by simp
    tries:=by simp
    live:=λhh=>by simp at hh
    comm:=λhh=>by simp at hh
    undos:=λu hu=>by cases hu
    ul:=by simp
    rg:=by simp
    ord:=by simp}}
theorem WuC{R:Type}{K0:Int->Bool->Int->Int->Int->Int->Kt->Kh->Kt->(List Y_Root)->(List Kn)->Option R}(hl:s.2.2.length<=1000)(hN:1048576<N):
  ∀(d j n:Nat) (m:Int) (w:Wo),j+d=s.2.2.length->d<n->WOk s.2.1 m w->m+d<=90000->
  Zaw N s.2.2 s K0 n (j:Int) w.now w.token w.mem.1 w.shelf.2 w.mem.2 w.shelf.1 w.holds (w.roots.map Rt.e) w.hist=
   (λv:Wo=>K0 (s.2.2.length:Int) false v.now v.token v.mem.1 v.shelf.2 v.mem.2 v.shelf.1 v.holds (v.roots.map Rt.e) v.hist) ((s.2.2.drop j).foldl (Wgu s) w):=by
 intro d
 induction d with
 |zero=>
  intro j n m w hj hn h hm;obtain⟨n,rfl⟩:∃n',n=n'+1:=⟨n-1,by omega⟩;have:j=s.2.2.length:=by omega
  subst this;simp only[Zaw,WV (Xn _),cond_false,Xdo,List.foldl_nil]
 |succ d ih=>
  intro j n m w hj hn h hm;obtain⟨n,rfl⟩:∃n',n=n'+1:=⟨n-1,by omega⟩;have hlt:j<s.2.2.length:=by omega
  have hw:(w.now,(w.token,((w.mem.1,w.mem.2),((w.shelf.1,w.shelf.2),(w.holds,(w.roots.map Rt.e,w.hist))))))=w.e:=rfl;simp only[Zaw,WN hlt,Wg hlt,Wj hlt,Wf (show j<4611686018427387904 by omega),cond_true,hw];rw[Wuf h (by omega) hN,Xcd hlt,List.foldl_cons];exact ih (j+1) n (m+1) _ (by omega) (by omega) (WrQ h) (by omega)
theorem Wsm(hb:SB s)(hN:1048576<N):Zh6 N s=ret (if Wov s=true then(Wu6 s).e else d_World):=by
 unfold Zh6;rw[WiS hb hN];simp only[ret,Xd];cases hs:Wov s with
 |false=>rfl
 |true=>
  obtain⟨h1,h2,h3,h4⟩:=Wgh hs;have h0:=WqT hs;have oi:=WuV s.2.1 (by omega);simp only[Xs,cond_false,if_true];rw[WgI h1.map.1 h1.map.2 hN,WiG (Wct.2 h1.cells) hN];simp only[ret,Xd,oi,cond_true,Wf5];have fe:=WuC (s:=s) (N:=N) (K0:=λnF tB nG nH nI nJ gm nK nL nM nN=>(some ((),((nG,(nH,((nI,gm),((nK,nJ),(nL,(nM,nN)))))),())):Option (Unit×(Y_World×Unit)))) (by have:=hb.acts;omega) hN s.2.2.length 0 N 0 (Wgg s) (by omega) (by omega) h0 (by omega);rw[Wo1];have eK:((Wgg s).roots.map Rt.e)=Xaa s.2.1.length d_Root:=by
   unfold Wgg;simp only[List.map_replicate];rfl
  rw[eK]at fe;refine fe.trans ?_;rw[Xcf];rfl
end
section
section
variable{N:Nat}{c:Cur}
theorem Wgr{b7:Int}{l8:List Int}(h8:l8.length=8):∀(n i:Nat) (c:Cur) (l:List Int),8-i<n->i<=8->WaA c->l.length=i->
  Drw (λv:Kf×Unit=>v.1.1.length=8/\v.1.2.1.length=8) (Zcm N b7 l8 (λlw fO tt cR=>(some ((tt,()),((l8,(cR,b7)),())))) n (i:Int) c l)
 |0,i,c,l,h,_,_,_=>by omega
 |n+1,i,c,l,h,hi,hc,hl=>by
  unfold Zcm;refine .bif (λh0=>?_) λh0=>.ok hc ⟨h8,?_⟩
  .have h0:(i:Int)<8:=of_decide_eq_true h0;have e:We .i64 (i:Int) 1=((i+1:Nat):Int):=Wf (by omega);simp only[e];refine(Wdz 2 hc).bind λc b hc _=>.bif (λ_=>?_) λ_=>?_
   .exact(Wwc hc).bind λc v hc hv=>.bifT (Ww (by simp;omega)) (Wgr h8 n (i+1) c _ (by omega) (by omega) hc (by simp[Xai];omega))
   .exact .bifT (Ww (by simp;omega)) (Wgr h8 n (i+1) c _ (by omega) (by omega) hc (by simp[Xai];omega))
  .have h0:¬(i:Int)<8:=of_decide_eq_false h0;simp only;omega
theorem Wra(hN:1048576<N)(hc:WaA c):Drw (λv:Kf×Unit=>v.1.1.length=8/\v.1.2.1.length=8) (Zfl N c):=by
 unfold Zfl;exact(Wwm hN hc).bind λc v hc hv=>(Wwc hc).bind λc w hc hw=>Wgr hv N 0 c [] (by omega) (by omega) hc rfl
theorem Wpz(hN:1048576<N)(hc:WaA c):Drw (λv:Kf×Unit=>v.1.1.length<=100/\v.1.2.1.length<=100) (Zi8 N c):=by
 unfold Zi8;refine(Wra hN hc).bind λc t hc ht=>(Wal 16 hc).bind λc v hc hv=>.bif (λ_=>?_) λ_=>.bif (λ_=>?_) λ_=>.bif (λ_=>.ok hc (by simp only;omega)) λ_=>.bif (λ_=>?_) λ_=>.bif (λ_=>?_) λ_=>.ok hc (by simp only;omega)
 .refine .bifT (by rw[ht.1];rfl) (.ok hc ?_);simp only[Xal];omega
 .refine(Wal 8 hc).bind λc k hc hk=>?_;have hk:=hk.2 (by decide);refine .bifT (by unfold inb;rw[ht.2];simp;omega) (.ok hc ?_);simp only[Xaf];omega
 .refine .bifT (by rw[ht.2];rfl) (.ok hc ?_);simp only[Xal];omega
 .refine(Wal 8 hc).bind λc k hc hk=>?_;have hk:=hk.2 (by decide);refine .bifT (by unfold inb;rw[ht.1];simp;omega) (.ok hc ?_);simp only[Xaf];omega
theorem Wu0{p:Pg}(h:p.1.length<=300/\p.2.length<=100/\∀x∈p.2,x.length<=200):PB p:=⟨by omega,by omega,λx hx=>by have:=h.2.2 x hx;omega⟩
theorem Ws5(hN:1048576<N)(hc:WaA c):Drw (λv:Pg×Unit=>PB v.1) (Zkk N c):=by
 unfold Zkk;refine(Wdz 2 hc).bind λc b hc _=>(Wvz hN hc).bind λc p hc hp=>(Wal 10 hc).bind λc v hc hv=>.bif (λ_=>?_) λ_=>.bif (λ_=>.bif (λh0=>?_) λ_=>.ok hc (Wu0 hp)) λ_=>.bif (λ_=>?_) λ_=>.bif (λ_=>.ok hc ⟨by have:=hp.1;simp only;omega,by simp,by simp⟩) λ_=>.ok hc (Wu0 hp)
 .exact(WvB hN hc (by have:=hp.1;simp only;omega)).bind λc w hc hw=>.ok hc ⟨by simp only;omega,by have:=hp.2.1;simp only;omega,λx hx=>by have:=hp.2.2 x hx;omega⟩
 .have h0:Wb p.1.2>0:=of_decide_eq_true h0;refine(Wal (Wb p.1.2) hc).bind λc k hc hk=>?_;have hk:=hk.2 h0;unfold Wb at hk;have wn:inb k.1 p.1.2.length=true:=by unfold inb;simp;omega
  refine .bifT wn ((WvB hN hc ?_).bind λc w hc hw=>.bifT wn (.ok hc ⟨by have:=hp.1;simp only;omega,by have:=hp.2.1;simp only[Xaf];omega,λx hx=>?_⟩))
  .rw[Wh (show k.1.toNat<p.1.2.length by omega)];have:=hp.2.2 _ (Xo (show k.1.toNat<p.1.2.length by omega));omega
  .rcases Xdj hx with hx|hx
   .have:=hp.2.2 x hx;omega
   .subst hx;show w.1.length<=1000;omega
 .refine .bifT (Ww (by have:=hp.2.1;simp;omega)) (.ok hc ⟨by have:=hp.1;simp only;omega,by have:=hp.2.1;simp[Xai];omega,λx hx=>?_⟩);simp[Xai]at hx;rcases hx with hx|hx
  .have:=hp.2.2 x hx;omega
  .subst hx;simp
theorem Wop{n4 aP:Int}(hm:aP<=600):∀(n i:Nat) (who:Int) (c:Cur) (l:List Ac),1000-i<n->i<=700->WaA c->l.length=i->
  Drw (λv:List Ac×Unit=>v.1.length<=700) (Z1 N n4 aP (λmq vU t45 fS lE=>(some ((fS,()),(lE,())))) n who (i:Int) c l)
 |0,i,who,c,l,h,_,_,_=>by omega
 |n+1,i,who,c,l,h,hi,hc,hl=>by
  unfold Z1;refine .bif (λh0=>?_) λh0=>.ok hc (by simp only;omega);have h0:(i:Int)<aP:=of_decide_eq_true h0;have e:We .i64 (i:Int) 1=((i+1:Nat):Int):=Wf (by omega);simp only[e];have hr:∀(a:Ac),WA (l.length+ [a].length)=true:=λa=>Ww (by simp;omega);have bm:∀(who:Int) (c:Cur) (a:Ac),WaA c->Drw (λv:List Ac×Unit=>v.1.length<=700) (Z1 N n4 aP (λmq vU t45 fS lE=>(some ((fS,()),(lE,())))) n who ((i+1:Nat):Int) c (List.append l [a])):=λwho c a hc=>Wop hm n (i+1) who c _ (by omega) (by omega) hc (by simp[Xai];omega);refine(Wdz 3 hc).bind λc b hc _=>.bif (λ_=>?_) λ_=>?_
  .refine(Wal n4 hc).bind λc k hc _=>(Wdz 2 hc).bind λc b hc _=>.bif (λ_=>?_) λ_=>?_
   .refine(Wal 3 hc).bind λc j hc _=>(Wdz 2 hc).bind λc b hc _=>.bif (λ_=>?_) λ_=>?_
    .exact(Wdz 40 hc).bind λc b hc _=>.bif (λ_=>.bifT (hr _) (bm _ _ _ hc)) λ_=>.bifT (hr _) (bm _ _ _ hc)
    .exact(Wdz 40 hc).bind λc b hc _=>.bif (λ_=>.bifT (hr _) (bm _ _ _ hc)) λ_=>.bifT (hr _) (bm _ _ _ hc)
   .exact(Wdz 40 hc).bind λc b hc _=>.bif (λ_=>.bifT (hr _) (bm _ _ _ hc)) λ_=>.bifT (hr _) (bm _ _ _ hc)
  .refine(Wdz 2 hc).bind λc b hc _=>.bif (λ_=>?_) λ_=>?_
   .refine(Wal 3 hc).bind λc j hc _=>(Wdz 2 hc).bind λc b hc _=>.bif (λ_=>?_) λ_=>?_
    .exact(Wdz 40 hc).bind λc b hc _=>.bif (λ_=>.bifT (hr _) (bm _ _ _ hc)) λ_=>.bifT (hr _) (bm _ _ _ hc)
    .exact(Wdz 40 hc).bind λc b hc _=>.bif (λ_=>.bifT (hr _) (bm _ _ _ hc)) λ_=>.bifT (hr _) (bm _ _ _ hc)
   .exact(Wdz 40 hc).bind λc b hc _=>.bif (λ_=>.bifT (hr _) (bm _ _ _ hc)) λ_=>.bifT (hr _) (bm _ _ _ hc)
theorem Wwe(hN:1048576<N){n4 aP:Int}(hm:aP<=600)(hc:WaA c):Drw (λv:List Ac×Unit=>v.1.length<=700) (Zgq N c n4 aP):=by
 unfold Zgq;exact Wop hm N 0 0 c [] (by omega) (by omega) hc rfl
structure SD(s:Sc):Prop where
 cells:s.1.1.length=8
 map:s.1.2.1.length=8
 progs:1<=s.2.1.length/\s.2.1.length<=10
 each:∀p∈s.2.1,PB p
 acts:s.2.2.length<=700
theorem Wjp(hN:1048576<N){n8 aH bw:Int}{aJ bn:List Int}(hm:0<=bw/\bw<=500)(iY:aJ.length=8)(mz:bn.length=8)(h8:1<=n8/\n8<=4):∀(n i:Nat) (c:Cur) (l:List Pg),10-i<n->i<=4->WaA c->l.length=i->(∀p∈l,PB p)->
  Drw (λv:Sc×Unit=>SD v.1) (Zbn N 0 bw n8 aH aJ bn (λtv rR tw tx=>
  ((Zb N tw (We .i64 bw (1:Int))).bind λit=>
 ((Zgq N it.1.1 n8 it.2.1).bind λiu=>
 (some ((iu.1.1,()),(((aJ,(bn,aH)),(tx,iu.2.1)),())))))) n (i:Int) c l)
 |0,i,c,l,h,_,_,_,_=>by omega
 |n+1,i,c,l,h,hi,hc,hl,hx=>by
  unfold Zbn;refine .bif (λh0=>?_) λh0=>?_
  .have h0:(i:Int)<n8:=of_decide_eq_true h0;have e:We .i64 (i:Int) 1=((i+1:Nat):Int):=Wf (by omega);simp only[e,show((0:Int)==2)=false from rfl,show((0:Int)==0)=true from rfl,cond_false,cond_true];refine(Wdz 3 hc).bind λc b hc _=>(Wvz hN hc).bind λc p hc hp=>.bifT (Ww (by simp;omega)) (Wjp hN hm iY mz h8 n (i+1) c _ (by omega) (by omega) hc (by simp[Xai];omega) λq hq=>?_);simp[Xai]at hq;rcases hq with hq|hq
   .exact hx q hq
   .subst hq;exact Wu0 hp
  .have h0:¬(i:Int)<n8:=of_decide_eq_false h0;have e:We .i64 bw 1=bw+1:=WC (by unfold I64;omega);simp only[e];refine(Wal (bw+1) hc).bind λc k hc hk=>?_;have hk:=hk.2 (by omega);refine(Wwe (aP:=k.1) hN (by omega) hc).bind λc a hc ha=>.ok hc ⟨iY,mz,by simp only;omega,hx,ha⟩
theorem WuF(hN:1048576<N){most:Int}(hm:0<=most/\most<=500)(hc:WaA c):Drw (λv:Sc×Unit=>SD v.1) (Zgr N c 0 most):=by
 unfold Zgr;refine(Wra hN hc).bind λc t hc ht=>(Wal 4 hc).bind λc k hc hk=>?_;have hk:=hk.2 (by decide);have e:We .i64 1 k.1=1+k.1:=WC (by unfold I64;omega);simp only[e];exact Wjp hN hm ht.1 ht.2 (by omega) N 0 c [] (by omega) (by omega) hc rfl (by simp)
theorem SD.sb{s:Sc}(h:SD s):SB s:=⟨by have:=h.cells;omega,by have:=h.map;omega,by have:=h.progs;omega,h.each,by have:=h.acts;omega⟩
theorem Wox{b7:Cur}{b9:Int}{bz ar:List Int}{aJ:List Ac}(hb:WaA b7)(ca:bz.length=8)(dr:ar.length=8)(iY:aJ.length<=700):∀(n:Nat) (l:List Pg),20-l.length<n->l.length<=11->(∀p∈l,PB p)->
  Drw (λv:Sc×Unit=>SB v.1) (Zf3 N b7 b9 bz ar aJ (λcL cK=>(some ((b7,()),(((bz,(ar,b9)),(cK,aJ)),())))) n l)
 |0,l,h,_,_=>by omega
 |n+1,l,h,hl,hx=>by
  unfold Zf3;refine .bif (λh0=>?_) λh0=>.ok hb ⟨by simp only;omega,by simp only;omega,by simp only;omega,hx,by simp only;omega⟩;have h0:Wb l<5:=of_decide_eq_true h0;unfold Wb at h0;refine .bifT (Ww (by simp;omega)) (Wox hb ca dr iY n _ (by simp[Xai];omega) (by simp[Xai];omega) λq hq=>?_);simp[Xai]at hq;rcases hq with hq|hq
  .exact hx q hq
  .subst hq;exact⟨by simp,by simp,by simp⟩
theorem WnP{dH:Int}{bA bV:List Int}{cR:List Pg}(yg:bA.length=8)(tY:bV.length=8)(yh:cR.length<=11)(hx:∀p∈cR,PB p):∀(n:Nat) (c:Cur) (l:List Ac),1000-l.length<n->WaA c->l.length<=800->
  Drw (λv:Sc×Unit=>SB v.1) (Zf4 N dH bA bV cR (λrS tz eC=>(some ((tz,()),(((bA,(bV,dH)),(cR,eC)),())))) n c l)
 |0,c,l,h,_,_=>by omega
 |n+1,c,l,h,hc,hl=>by
  unfold Zf4;refine(Wal 2 hc).bind λc v hc hv=>?_;have hv:=hv.2 (by decide);have e:We .i64 400 v.1=400+v.1:=WC (by unfold I64;omega);simp only[e];refine .bif (λh0=>?_) λh0=>.ok hc ⟨by simp only;omega,by simp only;omega,by simp only;omega,hx,by simp only;omega⟩;have h0:Wb l<400+v.1:=of_decide_eq_true h0;unfold Wb at h0;exact .bifT (Ww (by simp;omega)) (WnP yg tY yh hx n c _ (by simp[Xai];omega) hc (by simp[Xai];omega))
theorem Wvj(hN:1048576<N){most:Int}(hm:0<=most/\most<=500)(hc:WaA c):Drw (λv:Sc×Unit=>SB v.1) (Ziy N c most):=by
 unfold Ziy;refine(WuF hN hm hc).bind λc s hc hs=>(Wal 30 hc).bind λc v hc hv=>.bif (λ_=>?_) λ_=>.bif (λ_=>?_) λ_=>.bif (λ_=>?_) λ_=>.bif (λ_=>?_) λ_=>.bif (λ_=>?_) λ_=>.ok hc hs.sb
 .exact(Wpz hN hc).bind λc t hc ht=>.ok hc ⟨ht.1,ht.2,by have:=hs.progs;simp only;omega,hs.each,by have:=hs.acts;simp only;omega⟩
 .refine(Ws5 hN hc).bind λc p hc hp=>.bifT (by unfold inb;have:=hs.progs;simp;omega) (.ok hc ⟨by have:=hs.cells;simp only;omega,by have:=hs.map;simp only;omega,by have:=hs.progs;simp only[Xaf];omega,λq hq=>?_,by have:=hs.acts;simp only;omega⟩);rcases Xdj hq with hq|hq
  .exact hs.each q hq
  .subst hq;exact hp
 .exact Wox hc hs.cells hs.map hs.acts N s.1.2.1 (by omega) (by have:=hs.progs;omega) hs.each
 .exact .bifT (Ww (by have:=hs.acts;simp;omega)) (.ok hc ⟨by have:=hs.cells;simp only;omega,by have:=hs.map;simp only;omega,by have:=hs.progs;simp only;omega,hs.each,by have:=hs.acts;simp[Xai];omega⟩)
 .exact WnP hs.cells hs.map (cR:=s.1.2.1) (by have:=hs.progs;omega) hs.each N c s.1.2.2 (by omega) hc (by have:=hs.acts;omega)
theorem Ws8{code:List Int}(h:code.length<=1048576):∃v,Znr N code 200=ret v/\0<=v/\v<=200:=by
 unfold Znr;have e:WpR .i64 (Wb code) 20=((code.length/20:Nat):Int):=by
  unfold WpR Wb;rw[Int.tdiv_eq_ediv_of_nonneg (by omega),Wum (by unfold I64;omega)];omega
 rw[e,WC (by unfold I64;omega),show inz (20:Int)=true from rfl];simp only[cond_true,Waa];by_cases h:2+((code.length/20:Nat):Int)>200
 .rw[if_pos h];exact⟨_,rfl,by omega,by omega⟩
 .rw[if_neg h];exact⟨_,rfl,by omega,by omega⟩
theorem Wlf(hN:1048576<N){code:List Int}(h:code.length<=1048576):∃s:Sc,Zlv N code=ret s/\SB s:=by
 unfold Zlv;obtain⟨c,hc,e0⟩:=Ws4 h hN;obtain⟨v,e1,hv⟩:=Ws8 (N:=N) h;have e2:We .i64 60 v=60+v:=WC (by unfold I64;omega);obtain⟨c1,s,e3,kx,hs⟩:=Wvj (most:=60+v) hN (by omega) hc;simp only[e0,e1,ret,Xd,e2,e3];exact⟨_,rfl,hs⟩
end
end
section
def stl(x:Rt):Bool:=decide (x.phase=8)||((decide (x.phase=5)&&(decide (x.cm.phase=4)||decide (x.cm.phase=5)))||((decide (x.phase=6)||decide (x.phase=7))&&decide (x.fate≠0)))
def WfP(x:Rt):Int:=if stl x=true then(if x.phase=5 then x.cm.wv else x.stamp)else 0
theorem Wbv{x:Rt}:stl x=true↔x.phase=8\/(x.phase=5/\(x.cm.phase=4\/x.cm.phase=5))\/((x.phase=6\/x.phase=7)/\x.fate≠0):=by
 unfold stl;simp only[Bool.or_eq_true,Xi,decide_eq_true_eq]
structure RX(x:Rt):Prop where
 doom:x.doomed=true->(1<=x.phase/\x.phase<=4)\/(x.phase=5/\x.cm.phase<=3)
 fate:x.phase=5->x.fate≠0
structure Stay(x y:Rt):Prop where
 tries:x.tries<=y.tries
 st:stl x=true->stl y=true/\WfP y=WfP x/\y.fate=x.fate/\y.regs=x.regs/\y.order=x.order
structure RG(w:Wo)(x:Rt)(q:Wo×Rt):Prop where
 doom:q.2.doomed=false
 fate:q.2.phase=5->q.2.fate≠0
 tries:q.2.tries=x.tries
 mem:q.1.mem=w.mem
 hist:q.1.hist=w.hist
section
variable{w:Wo}{x y z:Rt}{k:Nat}{p:Pg}{n:Int}{o:Opn}
theorem Stay.refl(x:Rt):Stay x x:=⟨Xu _,λh=>⟨h,rfl,rfl,rfl,rfl⟩⟩
theorem Stay.trans(h:Stay x y)(h':Stay y z):Stay x z:=
 ⟨Xgi h.tries h'.tries,λhs=>by
  obtain⟨a,b,c,d,e⟩:=h.st hs;obtain⟨a',b',c',d',e'⟩:=h'.st a;exact⟨a',b'.trans b,c'.trans c,d'.trans d,e'.trans e⟩⟩
theorem Stay.un(h:stl x=false)(ht:x.tries<=y.tries):Stay x y:=⟨ht,λhs=>by rw[h]at hs;cases hs⟩
theorem RG.same(hd:x.doomed=false){z:Rt}(h1:z.doomed=false)(h2:z.phase≠5)(h3:z.tries=x.tries):RG w x (w,z):=⟨h1,λh=>absurd h h2,h3,rfl,rfl⟩
theorem Wfe(hd:x.doomed=false):(W0 x).doomed=false/\(W0 x).phase≠5/\(W0 x).tries=x.tries:=by
 unfold W0 Wdd;split
 .exact⟨rfl,by simp,rfl⟩
 .exact⟨hd,by simp,rfl⟩
theorem Woh(hd:x.doomed=false){out:Int}(ho:out≠0):RG w x (WbS w x k out):=by
 unfold WbS Wk4;simp only;generalize (if out=2 then []else x.writes)=rows;split
 .exact⟨rfl,by simp,rfl,rfl,rfl⟩
 .exact⟨hd,λ_=>ho,rfl,rfl,rfl⟩
theorem Wq6(hd:x.doomed=false)(h5:x.phase≠5):RG w x (Wd3 w x):=⟨hd,λh=>absurd h h5,rfl,rfl,rfl⟩
theorem WpU(hd:x.doomed=false)(h5:x.phase≠5):(Weu w x o).doomed=false/\(Weu w x o).phase≠5/\(Weu w x o).tries=x.tries:=by
 unfold Weu;cases WaH x.writes o.2.2.1 with
 |some v=>exact⟨hd,h5,rfl⟩
 |none=>
  simp only;generalize WO w.mem x.rv _=b;split
  .exact Wfe (x:={x with busy:=true,pb:=b}) hd
  .split
   .exact⟨hd,h5,rfl⟩
   .exact⟨hd,h5,rfl⟩
theorem WsO(hd:x.doomed=false)(h5:x.phase≠5){code:List Opn}:RG w x (Wdg w x k code):=by
 unfold Wdg;split
 .exact Woh hd (by omega)
 .split
  .exact Wq6 hd h5
  .exact⟨hd,λh=>absurd h h5,rfl,rfl,rfl⟩
theorem Wtz(hd:x.doomed=false)(h5:x.phase≠5):RG w x (Wc4 w x k o):=by
 unfold Wc4;cases Wb0 w.holds ((k:Int)+1) (WbN o).1 (WbN o).2 with
 |none=>
  obtain⟨a,b,c⟩:=Wfe hd;exact⟨a,λh=>absurd h b,c,rfl,rfl⟩
 |some hs=>exact⟨hd,λh=>absurd h h5,rfl,rfl,rfl⟩
theorem Wvu(hd:x.doomed=false)(h5:x.phase≠5):RG w x (Wk5 w x k p):=by
 unfold Wk5;split
 .exact Woh hd (by omega)
 .simp only;generalize opN p.1 x.pc=o;split
  .obtain⟨a,b,c⟩:=WpU (w:=w) (o:=o) hd h5;exact⟨a,λh=>absurd h b,c,rfl,rfl⟩
  .split
   .exact WsO hd h5
   .split
    .exact⟨hd,λh=>by(change (2:Int)=5 at h;omega),rfl,rfl,rfl⟩
    .split
     .exact Wtz hd h5
     .repeat' split
      all_goals exact⟨hd,λh=>absurd h h5,rfl,rfl,rfl⟩
theorem Wve(hd:x.doomed=false)(h5:x.phase≠5):RG w x (Weh w x k):=by
 unfold Weh
 repeat' split
 all_goals first|exact⟨hd,λh=>absurd h h5,rfl,rfl,rfl⟩|exact⟨rfl,λh=>by(change (1:Int)=5 at h;omega),rfl,rfl,rfl⟩
theorem WrP(hd:x.doomed=false)(h5:x.phase≠5):RG w x (w,Wd5 x):=by
 unfold Wd5;split
 .exact⟨rfl,λh=>by(change (6:Int)=5 at h;omega),rfl,rfl,rfl⟩
 .split
  .exact⟨hd,λh=>by(change (1:Int)=5 at h;omega),rfl,rfl,rfl⟩
  .exact⟨hd,λh=>absurd h h5,rfl,rfl,rfl⟩
theorem WhB(hd:x.doomed=false)(h5:x.phase≠5):RG w x (WbG w x):=by
 unfold WbG;split
 .exact Wq6 hd h5
 .exact⟨hd,λh=>by(change (4:Int)=5 at h;omega),rfl,rfl,rfl⟩
theorem WlW(hd:x.doomed=false)(h5:x.phase≠5):RG w x (w,Wa5 w x):=by
 unfold Wa5;split
 .simp only;split
  .exact⟨rfl,λh=>by(change (6:Int)=5 at h;omega),rfl,rfl,rfl⟩
  .exact⟨hd,λh=>absurd h h5,rfl,rfl,rfl⟩
 .exact⟨hd,λh=>by(change (1:Int)=5 at h;omega),rfl,rfl,rfl⟩
theorem WgS(m:Mm)(c:Cm):m.1<=(Ws m c).1.1:=by
 have hs:∀i w,(WmO m i w).1=m.1:=λ_ _=>rfl;unfold Ws WbT War Wj3 tick;simp only
 repeat' split
 all_goals first|exact Xu _|(simp only[hs];omega)|(simp only;omega)
structure RS(w:Wo)(x:Rt)(q:Wo×Rt):Prop where
 rx:RX q.2
 stay:Stay x q.2
 clock:w.mem.1<=q.1.mem.1
 hist:∃l,q.1.hist=w.hist++l
theorem RG.rs{q:Wo×Rt}(h:RG w x q)(hs:stl x=false):RS w x q:=⟨⟨(λhd=>by rw[h.doom]at hd;cases hd),h.fate⟩,Stay.un hs (by rw[h.tries];omega),by rw[h.mem];omega,[],by rw[h.hist];simp⟩
theorem WrJ(c:Cm):Wa6 c 6=6:=by unfold Wa6;rw[if_neg (by omega),if_neg (by omega)]
theorem Wrk(c:Cm):Wa6 c 5=5:=by unfold Wa6;rw[if_neg (by omega),if_neg (by omega)]
theorem Woe{c:Cm}{ph:Int}(h:ph=5\/ph=6):(Wu c ph).wv=c.wv/\((Wu c ph).phase=c.phase\/(Wu c ph).phase=ph):=by
 unfold Wu;split
 .refine⟨rfl,.inr ?_⟩;show Wa6 c ph=ph;rcases h with rfl|rfl
  .exact Wrk c
  .exact WrJ c
 .exact⟨rfl,.inl rfl⟩
theorem Wq7(hx:RX x)(h5:x.phase=5):RS w x (Waz w x k):=by
 unfold Waz;split
 .rename_i hd;have h3:x.cm.phase<=3:=by rcases hx.doom hd with h|h<;>omega
  have ku:stl x=false:=by rw[Xca,Ne,Wbv];omega
  split
  .exact⟨⟨(λhd=>by cases hd),λh=>by(change (6:Int)=5 at h;omega)⟩,Stay.un ku (Xu _),Xu _,[],by simp⟩
  .exact⟨⟨(λhd=>by cases hd),hx.fate⟩,Stay.un ku (Xu _),Xu _,[],by simp⟩
 .rename_i hd;have cP:x.doomed=false:=by simpa using hd
  have mC:=WgS w.mem x.cm;have hf:=hx.fate h5;simp only;refine⟨?_,?_,mC,?_⟩
  .unfold Wbm Wdd;simp only;split
   .exact⟨(λhd=>by cases hd),λh=>by(change (6:Int)=5 at h;omega)⟩
   .split
    .have bQ:(if x.fate=2 then(6:Int)else 7)≠5:=by split<;>omega
     exact⟨(λhd=>by(change x.doomed=true at hd;rw[cP]at hd;cases hd)),λh=>absurd h bQ⟩
    .exact⟨(λhd=>by(change x.doomed=true at hd;rw[cP]at hd;cases hd)),λ_=>hf⟩
  .have q7:(Wbm {x with cm:=(Ws w.mem x.cm).2}).tries=x.tries:=by
    unfold Wbm Wdd;simp only;split
    .rfl
    .split<;>rfl
   refine⟨by rw[q7];omega,λhs=>?_⟩;have yi:=Wbv.1 hs;have aM:WfP x=x.cm.wv:=by unfold WfP;rw[if_pos hs,if_pos h5]
   have key:(Ws w.mem x.cm).2.wv=x.cm.wv/\((Ws w.mem x.cm).2.phase=4\/(Ws w.mem x.cm).2.phase=5\/(Ws w.mem x.cm).2.phase=6):=by
    unfold Ws;simp only;have e45:=yi;rcases(show x.cm.phase=4\/x.cm.phase=5 by omega)with h4|h4
    .rw[if_neg (by omega),if_neg (by omega),if_neg (by omega),if_pos h4];have:=Woe (c:=x.cm) (ph:=5) (.inl rfl);exact⟨this.1,by show(Wu x.cm 5).phase=4\/(Wu x.cm 5).phase=5\/(Wu x.cm 5).phase=6;omega⟩
    .rw[if_neg (by omega),if_neg (by omega),if_neg (by omega),if_neg (by omega),if_pos h4];have:=Woe (c:=x.cm) (ph:=6) (.inr rfl);exact⟨this.1,by show(Wu x.cm 6).phase=4\/(Wu x.cm 6).phase=5\/(Wu x.cm 6).phase=6;omega⟩
   obtain⟨k1,k2⟩:=key;rw[aM];generalize (Ws w.mem x.cm).2=c at*;unfold Wbm;simp only;rw[if_neg (by omega)];by_cases h6:c.phase=6
   .rw[if_pos h6];have bQ:(if x.fate=2 then(6:Int)else 7)=6\/(if x.fate=2 then(6:Int)else 7)=7:=by split<;>simp
    generalize (if x.fate=2 then(6:Int)else 7)=ph at*;have iz:stl {x with stamp:=c.wv,cm:={},phase:=ph}=true:=Wbv.2 (.inr (.inr ⟨bQ,hf⟩));refine⟨iz,?_,rfl,rfl,rfl⟩;unfold WfP;rw[if_pos iz,if_neg (by show¬ph=5;omega)];exact k1
   .rw[if_neg h6];have iz:stl {x with cm:=c}=true:=Wbv.2 (.inr (.inl ⟨h5,by show c.phase=4\/c.phase=5;omega⟩));refine⟨iz,?_,rfl,rfl,rfl⟩;unfold WfP;rw[if_pos iz,if_pos h5];exact k1
  .split
   .exact⟨_,rfl⟩
   .exact⟨[],by simp⟩
theorem WuK(hx:RX x)(bQ:0<=x.phase/\x.phase<=8):RS w x (Wai w x k p):=by
 have ku:x.phase<=4->stl x=false:=λh=>by rw[Xca,Ne,Wbv];omega
 unfold Wai;by_cases hd:x.doomed=true/\1<=x.phase/\x.phase<=4
 .rw[if_pos hd];exact⟨⟨(λhd=>by cases hd),λh=>by(change (6:Int)=5 at h;omega)⟩,Stay.un (ku (by omega)) (Xu _),Xu _,[],by simp⟩
 rw[if_neg hd];have cP:x.phase≠5->x.doomed=false:=λh5=>by
  rw[Xca];intro h;rcases hx.doom h with h1|h1
  .exact hd ⟨h,h1⟩
  .exact h5 h1.1
 by_cases h0:x.phase=0
 .rw[if_pos h0];exact(Wve (cP (by omega)) (by omega)).rs (ku (by omega))
 rw[if_neg h0];by_cases h1:x.phase=1
 .rw[if_pos h1];exact(Wvu (cP (by omega)) (by omega)).rs (ku (by omega))
 rw[if_neg h1];by_cases h2:x.phase=2
 .rw[if_pos h2];exact(WrP (cP (by omega)) (by omega)).rs (ku (by omega))
 rw[if_neg h2];by_cases h3:x.phase=3
 .rw[if_pos h3];exact(WhB (cP (by omega)) (by omega)).rs (ku (by omega))
 rw[if_neg h3];by_cases h4:x.phase=4
 .rw[if_pos h4];exact(WlW (cP (by omega)) (by omega)).rs (ku (by omega))
 rw[if_neg h4];by_cases h5:x.phase=5
 .rw[if_pos h5];exact Wq7 hx h5
 rw[if_neg h5];have gL:=cP h5;by_cases h6:x.phase=6
 .rw[if_pos h6];have yj:∀ph,ph≠5->RX {x with phase:=ph}:=λph hp=>⟨(λhd=>by(change x.doomed=true at hd;rw[gL]at hd;cases hd)),λh=>absurd h hp⟩;by_cases hz:x.undos.length>0
  .rw[if_pos hz];refine⟨⟨(λhd=>by(change x.doomed=true at hd;rw[gL]at hd;cases hd)),λh=>absurd h h5⟩,⟨Xu _,λhs=>?_⟩,Xu _,[],by simp[Wd3]⟩;have iz:stl (Wd3 w x).2=true:=by
    have:=Wbv.1 hs;rw[Wbv];show x.phase=8\/(x.phase=5/\_)\/((x.phase=6\/x.phase=7)/\x.fate≠0);omega
   refine⟨iz,?_,rfl,rfl,rfl⟩;unfold WfP;rw[if_pos iz,if_pos hs];rfl
  .rw[if_neg hz];refine⟨yj 7 (by omega),⟨Xu _,λhs=>?_⟩,Xu _,[],by simp⟩;have iz:stl {x with phase:=7}=true:=by
    have:=Wbv.1 hs;exact Wbv.2 (.inr (.inr ⟨.inr rfl,by show x.fate≠0;omega⟩))
   refine⟨iz,?_,rfl,rfl,rfl⟩;unfold WfP;rw[if_pos iz,if_pos hs,if_neg h5,if_neg (by show¬(7:Int)=5;omega)]
 rw[if_neg h6];by_cases h7:x.phase=7
 .rw[if_pos h7];by_cases hf:x.fate=0
  .rw[if_pos hf];have mN:stl x=false:=by rw[Xca,Ne,Wbv];omega
   exact⟨⟨(λhd=>by cases hd),λh=>by(change (0:Int)=5 at h;omega)⟩,Stay.un mN (by show x.tries<=x.tries+1;omega),Xu _,[],by simp⟩
  .rw[if_neg hf];refine⟨⟨(λhd=>by cases hd),λh=>by(change (8:Int)=5 at h;omega)⟩,⟨Xu _,λhs=>?_⟩,Xu _,[],by simp[Wk4]⟩;have iz:stl (Wk4 {w with holds:=W1 w.holds ((k:Int)+1)} x k).2=true:=Wbv.2 (.inl rfl);refine⟨iz,?_,rfl,rfl,rfl⟩;unfold WfP;rw[if_pos iz,if_pos hs,if_neg h5];rfl
 .rw[if_neg h7];exact⟨hx,Stay.refl x,Xu _,[],by simp⟩
end
def WX(w:Wo):Prop:=∀(i:Nat) (h:i<w.roots.length),RX w.roots[i]
structure WStay(w v:Wo):Prop where
 len:w.roots.length=v.roots.length
 root:∀(i:Nat) (h:i<w.roots.length) (h':i<v.roots.length),Stay w.roots[i] v.roots[i]
 hist:∃l,v.hist=w.hist++l
 clock:w.mem.1<=v.mem.1
section
variable{s:Sc}{w v u:Wo}{n:Int}{a:Ac}{k:Nat}
theorem WStay.refl(w:Wo):WStay w w:=⟨rfl,λi h h'=>Stay.refl _,⟨[],by simp⟩,Xu _⟩
theorem WStay.trans(h:WStay w v)(h':WStay v u):WStay w u:=by
 obtain⟨l,hl⟩:=h.hist;obtain⟨l',bK⟩:=h'.hist;exact⟨h.len.trans h'.len,λi a b=>(h.root i a (by rw[←h.len];exact a)).trans (h'.root i (by rw[←h.len];exact a) b),⟨l++l',by rw[bK,hl,List.append_assoc]⟩,Xgi h.clock h'.clock⟩
theorem WkP{q:Wo×Rt}{w0:Wo}(hx:WX w0)(hk:k<w0.roots.length)(hr:q.1.roots=w0.roots)(hq:RS w0 w0.roots[k] q):WX (Wo.put q k)/\WStay w0 (Wo.put q k):=by
 have hlen:(q.1.roots.set k q.2).length=w0.roots.length:=by rw[Xaf,hr]
 refine⟨λi hi=>?_,hlen.symm,λi hi dy=>?_,hq.hist,hq.clock⟩
 .change i<(q.1.roots.set k q.2).length at hi;show RX (q.1.roots.set k q.2)[i];rw[Xao];by_cases he:k=i
  .rw[if_pos he];exact hq.rx
  .rw[if_neg he];simp only[hr];exact hx i (by rw[←hlen];exact hi)
 .have yl:i<(q.1.roots.set k q.2).length:=dy;show Stay _ ((q.1.roots.set k q.2)[i]'yl);rw[Xao];by_cases he:k=i
  .subst he;rw[if_pos rfl];exact hq.stay
  .rw[if_neg he];simp only[hr];exact Stay.refl _
theorem Wjo(h:WOk s.2.1 n w)(hk:k<w.roots.length):(Wai {w with now:=w.now+1} w.roots[k] k (s.2.1.getD k pg0)).1.roots=w.roots:=
 (WkS (w:={w with now:=w.now+1}) (k:=k) (Wly h.progs (by rw[←h.len];exact hk)) ⟨h.mem,h.shelf,h.holds⟩ (h.root k hk) (by have:=h.l4;have:=h.len;omega) h.n0).roots
theorem Wl8(h:WOk s.2.1 n w)(hx:WX w):WX (Wgu s w a)/\WStay w (Wgu s w a):=by
 have ey:WX {w with now:=w.now+1}:=hx;have lP:WStay w {w with now:=w.now+1}:=⟨rfl,λi h h'=>Stay.refl _,⟨[],by simp⟩,Xu _⟩;unfold Wgu;simp only;split
 .rename_i hb;have hk:a.2.1.toNat<w.roots.length:=by omega
  rw[Wh hk];have oX:=hx _ hk;split
  .unfold Wkx;rw[Wh (show a.2.1.toNat<({w with now:=w.now+1}:Wo).roots.length from hk)];obtain⟨c,d⟩:=WkP (w0:={w with now:=w.now+1}) ey hk (Wjo h hk) (WuK oX (h.root _ hk).phase);exact⟨c,lP.trans d⟩
  .split
   .split
    .rename_i hf;have bQ:=hf.1;obtain⟨c,d⟩:=WkP (w0:={w with now:=w.now+1}) (q:=({w with now:=w.now+1},{w.roots[a.2.1.toNat]with fam:=WaI w.mem w.roots[a.2.1.toNat].fam a.2.2.toNat ((s.2.1.getD a.2.1.toNat pg0).2.getD a.2.2.toNat [])})) ey hk rfl
      ⟨⟨oX.doom,oX.fate⟩,Stay.un (by rw[Xca,Ne,Wbv,bQ];omega) (Xu _),Xu _,[],by simp⟩
     exact⟨c,lP.trans d⟩
    .exact⟨ey,lP⟩
   .split
    .split
     .rename_i hf;have mN:stl w.roots[a.2.1.toNat]=false:=by rw[Xca,Ne,Wbv];omega
      obtain⟨c,d⟩:=WkP (w0:={w with now:=w.now+1}) (q:=({w with now:=w.now+1},{w.roots[a.2.1.toNat]with doomed:=true})) ey hk rfl
       ⟨⟨λ_=>hf,oX.fate⟩,Stay.un mN (Xu _),Xu _,[],by simp⟩
      exact⟨c,lP.trans d⟩
     .exact⟨ey,lP⟩
    .exact⟨ey,lP⟩
 .exact⟨ey,lP⟩
theorem Wvp:WX (Wgg s):=λi h=>by
 simp only[Wgg,Xbh];exact⟨(λhd=>by cases hd),λh=>by(change (0:Int)=5 at h;omega)⟩
end
end
section
def lkA(c:Cm)(j:Nat):Prop:=(c.phase=1/\(j:Int)<c.pos)\/c.phase=2\/c.phase=3\/c.phase=4\/(c.phase=5/\c.pos<=j)\/(c.phase=7/\(j:Int)<=c.pos)
def lkd(c:Cm)(i:Int):Prop:=∃(j:Nat) (h:j<c.puts.length),c.puts[j].1=i/\lkA c j
def owner(m:Mm)(i:Int):Int:=(Wm m i).2.2
structure CmLk(m:Mm)(c:Cm):Prop where
 own:∀i,0<=i->i<=7->(owner m i=c.who↔lkd c i)
 ver:c.phase=3\/c.phase=4\/c.phase=5->c.wv<=m.1/\∀i,lkd c i->(Wm m i).2.1<=c.wv
section
variable{m:Mm}{c c':Cm}{i j:Int}{w:Wd}
theorem Wbr(hm:WZ m=true)(hi:0<=i/\i<=7)(hj:0<=j/\j<=7):Wm (WmO m i w) j=if j=i then w else Wm m j:=by
 have h8:=(WK hm).1;unfold Wm WmO WmN Wci;simp only;rw[Wh (show j.toNat<(m.2.set i.toNat w).length by rw[Xaf];omega),Xao];by_cases h:j=i
 .subst h;rw[if_pos rfl,if_pos rfl]
 .rw[if_neg (by omega),if_neg h,Wh (show j.toNat<m.2.length by omega)]
theorem Wdq(hp:c'.puts=c.puts)(h:∀j:Nat,j<c.puts.length->(lkA c' j↔lkA c j)):lkd c' i↔lkd c i:=by
 unfold lkd;rw[hp];exact⟨λ⟨j,hj,a,b⟩=>⟨j,hj,a,(h j hj).1 b⟩,λ⟨j,hj,a,b⟩=>⟨j,hj,a,(h j hj).2 b⟩⟩
theorem WsH(h:CmOk c){a b:Nat}(ha:a<c.puts.length)(hb:b<c.puts.length)(e:c.puts[a].1=c.puts[b].1):a=b:=by
 have hp:=List.pairwise_iff_getElem.1 h.pup;rcases Nat.lt_trichotomy a b with h1|h1|h1
 .have:=hp a b ha hb h1;omega
 .exact h1
 .have:=hp b a hb ha h1;omega
theorem CmLk.same(h:CmLk m c)(hp:c'.puts=c.puts)(hw:c'.who=c.who)(hv:c'.wv=c.wv)(ha:∀j:Nat,j<c.puts.length->(lkA c' j↔lkA c j))(bQ:c'.phase=3\/c'.phase=4\/c'.phase=5->c.phase=3\/c.phase=4\/c.phase=5):CmLk m c':=
 ⟨λi h0 h7=>by rw[hw,h.own i h0 h7,Wdq hp ha],λh3=>by
  obtain⟨a,b⟩:=h.ver (bQ h3);rw[hv];exact⟨a,λi hi=>b i ((Wdq hp ha).1 hi)⟩⟩
theorem Wkv(n:Int)(j:Nat)(hn:0<=n):lkA (Wam c n) j↔(j:Int)<n:=by
 by_cases h:n=0
 .have:Wam c n={c with phase:=8,pos:=0}:=by unfold Wam;rw[if_pos h]
  rw[this];unfold lkA;simp only;omega
 .have:Wam c n={c with phase:=7,pos:=n-1}:=by unfold Wam;rw[if_neg h]
  rw[this];unfold lkA;simp only;constructor
  .intro hz;omega
  .intro hz;right;right;right;right;right;exact⟨trivial,by omega⟩
theorem WaN(c:Cm)(ph:Int):(Wu c ph).puts=c.puts/\(Wu c ph).who=c.who/\(Wu c ph).wv=c.wv:=by
 unfold Wu Wdh;split<;>exact⟨rfl,rfl,rfl⟩
theorem Wcj(c:Cm)(n:Int):(Wam c n).puts=c.puts/\(Wam c n).who=c.who/\(Wam c n).wv=c.wv:=by
 unfold Wam;split<;>exact⟨rfl,rfl,rfl⟩
theorem Wdc(c:Cm)(n:Int):(Wam c n).phase=7\/(Wam c n).phase=8:=by unfold Wam;split<;>simp
theorem Wpu(m:Mm)(c:Cm):(Ws m c).2.who=c.who:=by
 unfold Ws;simp only;have h1:=λph=>(WaN c ph).2.1;have h2:=λn=>(Wcj c n).2.1
 repeat' split
 all_goals first|exact h1 _|exact h2 _|rfl
theorem Wqn(h:CmOk c)(hm:WZ m=true)(hc:CmLk m c):CmLk (Ws m c).1 (Ws m c).2:=by
 have cb:=h.pos;have aM:c.phase=1\/c.phase=4\/c.phase=5\/c.phase=7->c.steps=c.puts.length:=λhp=>by unfold Cm.steps;rw[if_pos hp]
 have hw:=h.who;have fu:∀n:Int,0<=n->(∀j:Nat,j<c.puts.length->((j:Int)<n↔lkA c j))->CmLk m (Wam c n):=λn h0 hn=>by
  obtain⟨p1,p2,p3⟩:=Wcj c n;refine hc.same p1 p2 p3 (λj hj=>by rw[Wkv n j h0];exact hn j hj) λh3=>?_;rcases Wdc c n with h|h<;>omega
 unfold Ws;simp only;by_cases h1:c.phase=1
 .rw[if_pos h1];obtain⟨j,hj,e1,e2,e3,e4⟩:=h.put (by omega);have hs:=aM (by omega);rw[e2];by_cases ho:(Wm m c.puts[j].1).2.2=0
  .rw[if_pos ho];obtain⟨p1,p2,p3⟩:=WaN c 2;have bQ:∀l:Nat,l<c.puts.length->(lkA (Wu c 2) l↔lkA c l\/l=j):=λl hl=>by
    unfold Wu;by_cases dc:c.pos+1=c.steps
    .rw[if_pos dc];have:(Wdh c 2).phase=2:=by show Wa6 c 2=2;unfold Wa6;rw[if_neg (by omega),if_neg (by omega)]
     unfold lkA;rw[this];omega
    .rw[if_neg dc];unfold lkA;simp only;omega
   refine⟨λi h0 h7=>?_,λh3=>?_⟩
   .rw[p2];have hcl:=hc.own i h0 h7;unfold owner Wj3 at*;rw[Wbr hm e3 ⟨h0,h7⟩];by_cases hi:i=c.puts[j].1
    .rw[if_pos hi];refine⟨λ_=>⟨j,by rw[p1];exact hj,by simp only[p1];exact hi.symm,(bQ j hj).2 (.inr rfl)⟩,λ_=>rfl⟩
    .rw[if_neg hi,hcl];refine⟨λ⟨l,hl,a,b⟩=>⟨l,by rw[p1];exact hl,by simp only[p1];exact a,(bQ l hl).2 (.inl b)⟩,λ⟨l,hl,a,b⟩=>?_⟩;simp only[p1]at hl a;rcases(bQ l hl).1 b with b|b
     .exact⟨l,hl,a,b⟩
     .subst b;exact absurd a.symm hi
   .exfalso;have mJ:(Wu c 2).phase=1\/(Wu c 2).phase=2:=by
     unfold Wu;split
     .right;show Wa6 c 2=2;unfold Wa6;rw[if_neg (by omega),if_neg (by omega)]
     .left;exact h1
    change (Wu c 2).phase=3\/(Wu c 2).phase=4\/(Wu c 2).phase=5 at h3;omega
  .rw[if_neg ho];exact fu _ (by omega) λl hl=>by unfold lkA;omega
 rw[if_neg h1];by_cases h2:c.phase=2
 .rw[if_pos h2];have ht:=WkV hm;by_cases hz:(tick m).2=0
  .rw[if_pos hz,ht.2.2.2.2 hz];exact fu _ (by omega) λl hl=>by unfold lkA;omega
  .rw[if_neg hz];obtain⟨t1,t2⟩:=ht.2.2.2.1 hz;have aq:∀i,Wm (tick m).1 i=Wm m i:=λi=>by rw[t2];rfl
   have bQ:∀l:Nat,l<c.puts.length->(lkA (Wdh {c with wv:=(tick m).2} 3) l↔lkA c l):=λl hl=>by
    have eN:c.puts.length≠0:=by omega
    change l<c.puts.length at hl;have:(Wdh {c with wv:=(tick m).2} 3).phase=3\/(Wdh {c with wv:=(tick m).2} 3).phase=4:=by
     show Wa6 {c with wv:=(tick m).2} 3=3\/Wa6 {c with wv:=(tick m).2} 3=4;unfold Wa6;rw[if_neg (λhz=>eN hz.2)];split<;>simp
    unfold lkA;omega
   refine⟨λi h0 h7=>?_,λh3=>⟨by show(tick m).2<=(tick m).1.1;rw[t2];simp only;omega,λi hi=>?_⟩⟩
   .unfold owner;rw[aq];exact(hc.own i h0 h7).trans (Wdq (c':=Wdh {c with wv:=(tick m).2} 3) (c:=c) rfl bQ).symm
   .rw[aq];obtain⟨l,hl,a,b⟩:=hi;change l<c.puts.length at hl;change c.puts[l].1=i at a;have hr:=h.rows _ (Xo hl);have hcl:=Wc5.1 (WeP hm hr.1);rw[←a];show(Wm m c.puts[l].1).2.1<=(tick m).2;omega
 rw[if_neg h2];by_cases h3:c.phase=3
 .rw[if_pos h3];split
  .exact fu _ (by omega) λl hl=>by unfold lkA;omega
  .obtain⟨p1,p2,p3⟩:=WaN c 4;refine hc.same p1 p2 p3 (λl hl=>?_) λ_=>.inl h3;unfold Wu;split
   .have:(Wdh c 4).phase=4:=by show Wa6 c 4=4;unfold Wa6;rw[if_neg (λhz=>by have:=hz.2;omega),if_neg (by omega)]
    show lkA (Wdh c 4) l↔lkA c l;unfold lkA;omega
   .unfold lkA;simp only;omega
 rw[if_neg h3];by_cases h4:c.phase=4
 .rw[if_pos h4];obtain⟨j,hj,e1,e2,e3,e4⟩:=h.put (by omega);have hs:=aM (by omega);rw[e2];obtain⟨p1,p2,p3⟩:=WaN c 5;have aq:∀i,0<=i->i<=7->(Wm (WbT m c.puts[j].1 c.who c.puts[j].2) i).2=(Wm m i).2:=λi h0 h7=>by
   unfold WbT;split
   .rw[Wbr hm e3 ⟨h0,h7⟩];split
    .rename_i hi;rw[hi]
    .rfl
   .rfl
  have bQ:∀l:Nat,l<c.puts.length->(lkA (Wu c 5) l↔lkA c l):=λl hl=>by
   unfold Wu;split
   .have:(Wdh c 5).phase=5/\(Wdh c 5).pos=0:=⟨Wrk c,rfl⟩;unfold lkA;omega
   .unfold lkA;simp only;omega
  refine⟨λi h0 h7=>?_,λ_=>?_⟩
  .unfold owner;rw[aq i h0 h7,p2,Wdq p1 bQ];exact hc.own i h0 h7
  .obtain⟨v1,v2⟩:=hc.ver (.inr (.inl h4));rw[p3];refine⟨by unfold WbT;split<;>exact v1,λi hi=>?_⟩;have dy:=(Wdq p1 bQ).1 hi;obtain⟨l,hl,a,b⟩:=dy;have hr:=h.rows _ (Xo hl);rw[aq i (by omega) (by omega)];exact v2 i ⟨l,hl,a,b⟩
 rw[if_neg h4];have q9:∀(ver:Int) (j:Nat) (hj:j<c.puts.length),0<=c.puts[j].1/\c.puts[j].1<=7->lkA c j->(Wm m c.puts[j].1).2.1<=ver->ver<=m.1->War m c.puts[j].1 c.who ver=WmO m c.puts[j].1 ((Wm m c.puts[j].1).1,ver,0):=λver j hj ra hl ry gz=>by
  have ho:=(hc.own c.puts[j].1 ra.1 ra.2).2 ⟨j,hj,rfl,hl⟩;unfold owner at ho;unfold War;rw[if_pos ⟨ho,ry,gz⟩]
 have iJ:∀(ver:Int) (c':Cm) (j:Nat) (hj:j<c.puts.length),0<=c.puts[j].1/\c.puts[j].1<=7->c'.puts=c.puts->c'.who=c.who->c'.wv=c.wv->(∀l:Nat,l<c.puts.length->(lkA c' l↔lkA c l/\l≠j))->(c'.phase=3\/c'.phase=4\/c'.phase=5->c.phase=3\/c.phase=4\/c.phase=5)->CmLk (WmO m c.puts[j].1 ((Wm m c.puts[j].1).1,ver,0)) c':=λver c' j hj ra p1 p2 p3 bQ ud=>by
  have fv:∀i,lkd c' i↔lkd c i/\i≠c.puts[j].1:=λi=>by
   unfold lkd;rw[p1];refine⟨λ⟨l,hl,a,b⟩=>?_,λ⟨⟨l,hl,a,b⟩,hne⟩=>?_⟩
   .have:=(bQ l hl).1 b;exact⟨⟨l,hl,a,this.1⟩,λhe=>this.2 (WsH h hl hj (a.trans he))⟩
   .exact⟨l,hl,a,(bQ l hl).2 ⟨b,λhe=>hne (by subst he;exact a.symm)⟩⟩
  refine⟨λi h0 h7=>?_,λh3=>?_⟩
  .unfold owner;rw[Wbr hm ra ⟨h0,h7⟩,p2,fv];by_cases hi:i=c.puts[j].1
   .rw[if_pos hi];exact⟨λhz=>by(change (0:Int)=c.who at hz;omega),λhz=>absurd hi hz.2⟩
   .rw[if_neg hi];exact⟨λhz=>⟨(hc.own i h0 h7).1 hz,hi⟩,λhz=>(hc.own i h0 h7).2 hz.1⟩
  .obtain⟨v1,v2⟩:=hc.ver (ud h3);rw[p3];refine⟨v1,λi hi=>?_⟩;have dy:=(fv i).1 hi;obtain⟨⟨l,hl,a,b⟩,hne⟩:=dy;have hr:=h.rows _ (Xo hl);rw[Wbr hm ra (by rw[←a];exact hr.1),if_neg hne];exact v2 i ⟨l,hl,a,b⟩
 by_cases h5:c.phase=5
 .rw[if_pos h5];obtain⟨j,hj,e1,e2,e3,e4⟩:=h.put (by omega);have hs:=aM (by omega);rw[e2];obtain⟨v1,v2⟩:=hc.ver (.inr (.inr h5));have kL:lkA c j:=by unfold lkA;omega
  rw[q9 c.wv j hj e3 kL (v2 _ ⟨j,hj,rfl,kL⟩) v1];obtain⟨p1,p2,p3⟩:=WaN c 6;refine iJ c.wv (Wu c 6) j hj e3 p1 p2 p3 (λl hl=>?_) λ_=>.inr (.inr h5);unfold Wu;split
  .have:(Wdh c 6).phase=6:=WrJ c;unfold lkA;omega
  .unfold lkA;simp only;omega
 rw[if_neg h5];by_cases h7:c.phase=7
 .rw[if_pos h7];obtain⟨j,hj,e1,e2,e3,e4⟩:=h.put (by omega);have hs:=aM (by omega);rw[e2];have kL:lkA c j:=by unfold lkA;omega
  have hcl:=Wc5.1 (WeP hm e3);rw[q9 _ j hj e3 kL (Xu _) hcl.2.1.2];obtain⟨p1,p2,p3⟩:=Wcj c c.pos;refine iJ _ (Wam c c.pos) j hj e3 p1 p2 p3 (λl hl=>?_) λh3=>?_
  .rw[Wkv _ _ (by omega)];unfold lkA;omega
  .rcases Wdc c c.pos with h|h<;>omega
 .rw[if_neg h7];exact hc
theorem Wpk(h:CmOk c)(hc:CmLk m c):CmLk m (W6 c):=by
 have cb:=h.pos;have fu:∀n:Int,0<=n->(∀j:Nat,j<c.puts.length->((j:Int)<n↔lkA c j))->CmLk m (Wam c n):=λn h0 hn=>by
  obtain⟨p1,p2,p3⟩:=Wcj c n;refine hc.same p1 p2 p3 (λj hj=>by rw[Wkv n j h0];exact hn j hj) λh3=>?_;rcases Wdc c n with h|h<;>omega
 unfold W6;split
 .exact fu _ (by omega) λl hl=>by unfold lkA;omega
 .split
  .exact fu _ (by omega) λl hl=>by unfold lkA;omega
  .exact hc
theorem WmZ(c:Cm):(W6 c).who=c.who:=by
 have h2:=λn=>(Wcj c n).2.1;unfold W6
 repeat' split
 all_goals first|exact h2 _|rfl
theorem Wpa(h:CmOk c)(hm:WZ m=true){who:Int}(h1:who≠c.who)(h0:who≠0)(hi:0<=i/\i<=7):(owner (Ws m c).1 i=who↔owner m i=who)/\(owner m i=who->Wm (Ws m c).1 i=Wm m i):=by
 have bq:(owner m i=who↔owner m i=who)/\(owner m i=who->Wm m i=Wm m i):=⟨Iff.rfl,λ_=>rfl⟩;have dX:∀(a:Int) (wd:Wd),0<=a/\a<=7->(Wm m a).2.2≠who->wd.2.2≠who->(owner (WmO m a wd) i=who↔owner m i=who)/\(owner m i=who->Wm (WmO m a wd) i=Wm m i):=λa wd ha hne hw=>by
  unfold owner;rw[Wbr hm ha hi];by_cases hia:i=a
  .subst hia;rw[if_pos rfl];exact⟨⟨λhz=>absurd hz hw,λhz=>absurd hz hne⟩,λhz=>absurd hz hne⟩
  .rw[if_neg hia];exact⟨Iff.rfl,λ_=>rfl⟩
 unfold Ws;simp only;by_cases p1:c.phase=1
 .rw[if_pos p1];obtain⟨j,hj,e1,e2,e3,e4⟩:=h.put (by omega);rw[e2];by_cases ho:(Wm m c.puts[j].1).2.2=0
  .rw[if_pos ho];exact dX _ _ e3 (by omega) (by show c.who≠who;omega)
  .rw[if_neg ho];exact bq
 rw[if_neg p1];by_cases p2:c.phase=2
 .rw[if_pos p2];have ht:=WkV hm;by_cases hz:(tick m).2=0
  .rw[if_pos hz];simp only;rw[ht.2.2.2.2 hz];exact bq
  .rw[if_neg hz];simp only;rw[(ht.2.2.2.1 hz).2];exact bq
 rw[if_neg p2];by_cases p3:c.phase=3
 .rw[if_pos p3];split<;>exact bq
 rw[if_neg p3];by_cases p4:c.phase=4
 .rw[if_pos p4];obtain⟨j,hj,e1,e2,e3,e4⟩:=h.put (by omega);rw[e2];unfold WbT;split
  .rename_i ho;exact dX _ _ e3 (by omega) (by show(Wm m c.puts[j].1).2.2≠who;omega)
  .exact bq
 rw[if_neg p4];by_cases p5:c.phase=5
 .rw[if_pos p5];obtain⟨j,hj,e1,e2,e3,e4⟩:=h.put (by omega);rw[e2];unfold War;split
  .rename_i ho;exact dX _ _ e3 (by omega) (by show(0:Int)≠who;omega)
  .exact bq
 rw[if_neg p5];by_cases p7:c.phase=7
 .rw[if_pos p7];obtain⟨j,hj,e1,e2,e3,e4⟩:=h.put (by omega);rw[e2];unfold War;split
  .rename_i ho;exact dX _ _ e3 (by omega) (by show(0:Int)≠who;omega)
  .exact bq
 .rw[if_neg p7];exact bq
end
end
section
structure LB(w:Wo)(k:Nat)(x:Rt):Prop where
 cm:x.phase=5->x.cm.who=(k:Int)+1/\CmLk w.mem x.cm
 no:x.phase≠5->∀i,0<=i->i<=7->owner w.mem i≠(k:Int)+1
 hd:∀h∈w.holds,h.1=(k:Int)+1->x.phase≠0/\x.phase≠8
 tk:w.token=(k:Int)+1->x.tries>=3/\x.phase≠8
structure LQ(w:Wo)(k:Nat)(q:Wo×Rt):Prop where
 b:LB q.1 k q.2
 oth:∀who,who≠(k:Int)+1->who≠0->∀i,0<=i->i<=7->(owner q.1.mem i=who↔owner w.mem i=who)/\(owner w.mem i=who->Wm q.1.mem i=Wm w.mem i)
 clk:w.mem.1<=q.1.mem.1
 hdo:∀h∈q.1.holds,h.1≠(k:Int)+1->∃h'∈w.holds,h'.1=h.1
 tko:q.1.token≠0->q.1.token≠(k:Int)+1->q.1.token=w.token
section
variable{w:Wo}{x:Rt}{k:Nat}{p:Pg}{q:Wo×Rt}{o:Opn}{n:Int}
theorem LQ.of(hm:q.1.mem=w.mem)(hh:q.1.holds=w.holds)(ht:q.1.token=w.token)(hb:LB q.1 k q.2):LQ w k q:=
 ⟨hb,λwho h1 h0 i a b=>by rw[hm];exact⟨Iff.rfl,λ_=>rfl⟩,by rw[hm];omega,λh eU _=>⟨h,by rw[←hh];exact eU,rfl⟩,λ_ _=>ht⟩
theorem LQ.keep(hb:LB w k x)(hm:q.1.mem=w.mem)(hh:q.1.holds=w.holds)(ht:q.1.token=w.token)(h5:x.phase≠5)(hp:q.2.phase≠0/\q.2.phase≠5/\q.2.phase≠8)(q7:q.2.tries=x.tries):LQ w k q:=
 LQ.of hm hh ht ⟨λh=>absurd h hp.2.1,λ_=>by rw[hm];exact hb.no h5,λh eU hk=>⟨hp.1,hp.2.2⟩,λh=>by rw[ht]at h;rw[q7];exact⟨(hb.tk h).1,hp.2.2⟩⟩
theorem Wfc:(W0 x).phase≠0/\(W0 x).phase≠5/\(W0 x).phase≠8:=by
 unfold W0 Wdd;split<;>simp
theorem WqH(h1:x.phase=1):(Weu w x o).phase≠0/\(Weu w x o).phase≠5/\(Weu w x o).phase≠8:=by
 unfold Weu;cases WaH x.writes o.2.2.1 with
 |some v=>simp only;omega
 |none=>
  simp only;generalize WO w.mem x.rv _=b;split
  .exact Wfc
  .split<;>(simp only;omega)
theorem WnC{l:List Hd}{who:Int}(h:(Wfb l who).length=0):∀e∈l,e.1≠who:=λe he hw=>by
 have:e.2.1∈Wfb l who:=Xv.2 ⟨e,Xat.2 ⟨he,by simpa using hw⟩,rfl⟩;rw[Xad h]at this;cases this
theorem Wt8(cG:∀i,0<=i->i<=7->owner w.mem i≠(k:Int)+1)(hh:∀e∈w.holds,e.1≠(k:Int)+1):LQ w k (Wk4 w x k):=by
 unfold Wk4;refine⟨⟨λh=>by(change (8:Int)=5 at h;omega),λ_=>cG,λh eU hk=>absurd hk (hh h eU),λh=>?_⟩,λwho h1 h0 i a b=>⟨Iff.rfl,λ_=>rfl⟩,Xu _,λh eU _=>⟨h,eU,rfl⟩,λh0 h1=>?_⟩
 .change (if w.token=(k:Int)+1 then 0 else w.token)=(k:Int)+1 at h;split at h<;>omega
 .change (if w.token=(k:Int)+1 then 0 else w.token)≠0 at h0;show(if w.token=(k:Int)+1 then 0 else w.token)=w.token;split
  .rename_i hc;rw[if_pos hc]at h0;exact absurd rfl h0
  .rfl
theorem Wn4(hb:LB w k x)(h1:x.phase=1){out:Int}:LQ w k (WbS w x k out):=by
 have cG:=hb.no (by omega);unfold WbS;simp only;generalize hr:(if out=2 then []else x.writes)=rows;split
 .rename_i hc;exact Wt8 cG (WnC hc.2)
 .refine LQ.of rfl rfl rfl ⟨λ_=>⟨rfl,?_⟩,λh=>absurd rfl h,λh hh hk=>by(show(5:Int)≠0/\(5:Int)≠8;omega),λh=>⟨(hb.tk h).1,by show(5:Int)≠8;omega⟩⟩;have ue:∀i,¬lkd (Wcv ((k:Int)+1) x.rv rows x.reads) i:=λi ⟨j,hj,a,b⟩=>by
   change j<(WbR rows).length at hj;have bQ:(Wcv ((k:Int)+1) x.rv rows x.reads).phase=1:=by show(if(WbR rows).length=0 then(2:Int)else 1)=1;rw[if_neg (by omega)]
   have cb:(Wcv ((k:Int)+1) x.rv rows x.reads).pos=0:=rfl;unfold lkA at b;omega
  refine⟨λi h0 h7=>⟨λh=>absurd h (cG i h0 h7),λh=>absurd h (ue i)⟩,λh3=>?_⟩;have bQ:(Wcv ((k:Int)+1) x.rv rows x.reads).phase=1\/(Wcv ((k:Int)+1) x.rv rows x.reads).phase=2:=by
   show(if(WbR rows).length=0 then(2:Int)else 1)=1\/(if(WbR rows).length=0 then(2:Int)else 1)=2;split<;>simp
  exfalso;change (Wcv ((k:Int)+1) x.rv rows x.reads).phase=3\/(Wcv ((k:Int)+1) x.rv rows x.reads).phase=4\/(Wcv ((k:Int)+1) x.rv rows x.reads).phase=5 at h3;omega
theorem Wsj(hb:LB w k x)(h1:x.phase=1){code:List Opn}:LQ w k (Wdg w x k code):=by
 unfold Wdg;split
 .exact Wn4 hb h1
 .split
  .exact LQ.keep hb rfl rfl rfl (by omega) (by unfold Wd3;simp only;omega) rfl
  .exact LQ.keep hb rfl rfl rfl (by omega) (by simp only;omega) rfl
theorem WsP(hd:x.doomed=false)(hb:LB w k x)(h1:x.phase=1)(hH:HOk w.holds):LQ w k (Wc4 w x k o):=by
 unfold Wc4;cases ha:Wb0 w.holds ((k:Int)+1) (WbN o).1 (WbN o).2 with
 |none=>exact LQ.keep hb rfl rfl rfl (by omega) Wfc (Wfe hd).2.2
 |some hs=>
  have hmem:∀e∈hs,e.1≠(k:Int)+1->e∈w.holds:=λe he hne=>by
   unfold Wb0 at ha;split at ha
   .injection ha with ha;subst ha;unfold WhT at he;rcases(Wa3 WnB hH.ris).1 he with rfl|he
    .exact absurd rfl hne
    .exact he.1
   .cases ha
  exact⟨⟨λh=>by(change x.phase=5 at h;omega),λ_=>hb.no (by omega),λh hh hk=>by(show x.phase≠0/\x.phase≠8;omega),λh=>⟨(hb.tk h).1,by show x.phase≠8;omega⟩⟩,
   λwho h1 h0 i a b=>⟨Iff.rfl,λ_=>rfl⟩,Xu _,λh hh hne=>⟨h,hmem h hh hne,rfl⟩,λ_ _=>rfl⟩
theorem WvI(hd:x.doomed=false)(hb:LB w k x)(h1:x.phase=1)(hH:HOk w.holds):LQ w k (Wk5 w x k p):=by
 unfold Wk5;split
 .exact Wn4 hb h1
 .simp only;generalize opN p.1 x.pc=o;split
  .exact LQ.keep hb rfl rfl rfl (by omega) (WqH h1) (WpU hd (by omega)).2.2
  .split
   .exact Wsj hb h1
   .split
    .exact LQ.keep hb rfl rfl rfl (by omega) (by simp only;omega) rfl
    .split
     .exact WsP hd hb h1 hH
     .repeat' split
      all_goals exact LQ.keep hb rfl rfl rfl (by omega) (by simp only;omega) rfl
theorem Wvb(hb:LB w k x)(h0:x.phase=0):LQ w k (Weh w x k):=by
 unfold Weh;split
 .exact LQ.of rfl rfl rfl hb
 .split
  .rename_i hc;exact⟨⟨hb.cm,hb.no,hb.hd,λ_=>⟨hc.1,by show x.phase≠8;omega⟩⟩,λwho h1 h0 i a b=>⟨Iff.rfl,λ_=>rfl⟩,Xu _,λh hh _=>⟨h,hh,rfl⟩,λ_ hne=>absurd rfl hne⟩
  .split
   .exact LQ.of rfl rfl rfl hb
   .exact LQ.keep hb rfl rfl rfl (by omega) (by simp only;omega) rfl
theorem Wri(hb:LB w k x)(h5:x.phase=5)(hc:CmOk x.cm)(hm:WZ w.mem=true):LQ w k (Waz w x k):=by
 obtain⟨hw,hcl⟩:=hb.cm h5;have mD:∀c:Cm,c.phase=6\/c.phase=8->∀i,¬lkd c i:=λc bQ i ⟨j,hj,a,b⟩=>by unfold lkA at b;omega
 unfold Waz;split
 .have wo:=Wpk hc hcl;have wq:=WmZ x.cm;split
  .rename_i h8;refine LQ.of rfl rfl rfl ⟨λh=>by(change (6:Int)=5 at h;omega),λ_ i a b=>?_,λh hh hk=>by(show(6:Int)≠0/\(6:Int)≠8;omega),λh=>⟨(hb.tk h).1,by show(6:Int)≠8;omega⟩⟩;intro ho;exact mD _ (.inr h8) i ((wo.own i a b).1 (by rw[wq,hw];exact ho))
  .exact LQ.of rfl rfl rfl ⟨λ_=>⟨by show(W6 x.cm).who=_;rw[wq,hw],wo⟩,λh=>absurd h5 h,hb.hd,hb.tk⟩
 .have hs:=Wqn hc hm hcl;have ws:=Wpu w.mem x.cm;have gv:=λwho (a:who≠(k:Int)+1) (b:who≠0) (i:Int) (c:0<=i) (d:i<=7)=>Wpa (i:=i) hc hm (who:=who) (by rw[hw];exact a) b ⟨c,d⟩;have mC:=WgS w.mem x.cm;simp only;refine⟨?_,gv,mC,λh hh _=>⟨h,hh,rfl⟩,λ_ _=>rfl⟩;have cG:(Ws w.mem x.cm).2.phase=6\/(Ws w.mem x.cm).2.phase=8->∀i,0<=i->i<=7->owner (Ws w.mem x.cm).1 i≠(k:Int)+1:=λbQ i a b ho=>mD _ bQ i ((hs.own i a b).1 (by rw[ws,hw];exact ho));generalize (Ws w.mem x.cm).1=m' at*;generalize (Ws w.mem x.cm).2=c' at*;unfold Wbm;simp only;by_cases h8:c'.phase=8
  .rw[if_pos h8];exact⟨λh=>by(change (6:Int)=5 at h;omega),λ_=>cG (.inr h8),λh hh hk=>by(show(6:Int)≠0/\(6:Int)≠8;omega),λh=>⟨(hb.tk h).1,by show(6:Int)≠8;omega⟩⟩
  .rw[if_neg h8];by_cases h6:c'.phase=6
   .rw[if_pos h6];have bQ:(if x.fate=2 then(6:Int)else 7)=6\/(if x.fate=2 then(6:Int)else 7)=7:=by split<;>simp
    generalize (if x.fate=2 then(6:Int)else 7)=ph at*;exact⟨λh=>by(change ph=5 at h;omega),λ_=>cG (.inl h6),λh hh hk=>by(show ph≠0/\ph≠8;omega),λh=>⟨(hb.tk h).1,by show ph≠8;omega⟩⟩
   .rw[if_neg h6];exact⟨λ_=>⟨by show c'.who=_;rw[ws,hw],hs⟩,λh=>absurd h5 h,hb.hd,hb.tk⟩
theorem WpV(hx:RX x)(ho:ROk p n x)(hg:GOk w)(hb:LB w k x):LQ w k (Wai w x k p):=by
 have bQ:=ho.phase;unfold Wai;by_cases hd:x.doomed=true/\1<=x.phase/\x.phase<=4
 .rw[if_pos hd];exact LQ.keep hb rfl rfl rfl (by omega) (by unfold Wdd;simp) rfl
 rw[if_neg hd];have cP:x.phase≠5->x.doomed=false:=λh5=>by
  rw[Xca];intro h;rcases hx.doom h with h1|h1
  .exact hd ⟨h,h1⟩
  .exact h5 h1.1
 by_cases h0:x.phase=0
 .rw[if_pos h0];exact Wvb hb h0
 rw[if_neg h0];by_cases h1:x.phase=1
 .rw[if_pos h1];exact WvI (cP (by omega)) hb h1 hg.holds
 rw[if_neg h1];by_cases h2:x.phase=2
 .rw[if_pos h2];refine LQ.keep hb rfl rfl rfl (by omega) ?_ (WrP (w:=w) (cP (by omega)) (by omega)).tries;unfold Wd5 Wdd
  repeat' split
  all_goals(simp only;omega)
 rw[if_neg h2];by_cases h3:x.phase=3
 .rw[if_pos h3];refine LQ.keep hb (WhB (cP (by omega)) (by omega)).mem ?_ ?_ (by omega) ?_ (WhB (cP (by omega)) (by omega)).tries
  all_goals(unfold WbG Wd3;split<;>first|rfl|(simp only;omega))
 rw[if_neg h3];by_cases h4:x.phase=4
 .rw[if_pos h4];refine LQ.keep hb rfl rfl rfl (by omega) ?_ (WlW (w:=w) (cP (by omega)) (by omega)).tries;unfold Wa5 Wdd;simp only
  repeat' split
  all_goals(simp only;omega)
 rw[if_neg h4];by_cases h5:x.phase=5
 .rw[if_pos h5];exact Wri hb h5 (ho.comm h5) hg.mem
 rw[if_neg h5];by_cases h6:x.phase=6
 .rw[if_pos h6];by_cases hz:x.undos.length>0
  .rw[if_pos hz];exact LQ.keep hb rfl rfl rfl (by omega) (by unfold Wd3;simp only;omega) rfl
  .rw[if_neg hz];exact LQ.keep hb rfl rfl rfl (by omega) (by simp only;omega) rfl
 rw[if_neg h6];by_cases h7:x.phase=7
 .rw[if_pos h7];have hfree:∀e∈W1 w.holds ((k:Int)+1),e.1≠(k:Int)+1/\e∈w.holds:=λe he=>by
   have:=Xat.1 he;exact⟨by simpa using this.2,this.1⟩
  have cG:=hb.no (by omega);by_cases hf:x.fate=0
  .rw[if_pos hf];refine⟨⟨λh=>by(change (0:Int)=5 at h;omega),λ_=>cG,λh hh hk=>absurd hk (hfree h hh).1,λh=>⟨?_,by show(0:Int)≠8;omega⟩⟩,λwho h1 h0 i a b=>⟨Iff.rfl,λ_=>rfl⟩,Xu _,λh hh _=>⟨h,(hfree h hh).2,rfl⟩,λ_ _=>rfl⟩;have:=(hb.tk h).1;show x.tries+1>=3;omega
  .rw[if_neg hf];have:=Wt8 (w:={w with holds:=W1 w.holds ((k:Int)+1)}) (x:=x) cG (λe he=>(hfree e he).1);exact⟨this.b,this.oth,this.clk,λh hh hne=>by obtain⟨h',a,b⟩:=this.hdo h hh hne;exact⟨h',(hfree h' a).2,b⟩,this.tko⟩
 .rw[if_neg h7];exact LQ.of rfl rfl rfl hb
end
structure LX(w:Wo):Prop where
 root:∀(k:Nat) (h:k<w.roots.length),LB w k w.roots[k]
 ow:∀i,0<=i->i<=7->owner w.mem i=0\/∃k:Nat,k<w.roots.length/\owner w.mem i=(k:Int)+1
 hd:∀h∈w.holds,∃k:Nat,k<w.roots.length/\h.1=(k:Int)+1
 tk:w.token=0\/∃k:Nat,k<w.roots.length/\w.token=(k:Int)+1
section
variable{s:Sc}{w v:Wo}{n:Int}{a:Ac}{k:Nat}{q:Wo×Rt}
theorem LB.other{j:Nat}{y:Rt}(h:LB w j y)(hq:LQ w k q)(hne:j≠k)(hc:y.phase=5->CmOk y.cm):LB q.1 j y:=by
 have hw:((j:Int)+1)≠(k:Int)+1:=by omega
 have ho:=hq.oth ((j:Int)+1) hw (by omega);refine⟨λh5=>?_,λh5 i a b hz=>h.no h5 i a b ((ho i a b).1.1 hz),λe he hk=>?_,λhz=>?_⟩
 .obtain⟨c1,c2⟩:=h.cm h5;refine⟨c1,λi a b=>?_,λh3=>?_⟩
  .rw[c1,(ho i a b).1,←c1];exact c2.own i a b
  .obtain⟨v1,v2⟩:=c2.ver h3;refine⟨Xgi v1 hq.clk,λi hi=>?_⟩;obtain⟨l,hl,e1,e2⟩:=hi;have hr:=(hc h5).rows _ (Xo hl);have dy:lkd y.cm i:=⟨l,hl,e1,e2⟩;have hown:=(c2.own i (by omega) (by omega)).2 dy;rw[(ho i (by omega) (by omega)).2 (by rw[hown,c1])];exact v2 i dy
 .obtain⟨h',a,b⟩:=hq.hdo e he (by rw[hk];exact hw);exact h.hd h' a (b.trans hk)
 .exact h.tk ((hq.tko (by omega) (by omega)).symm.trans hz)
theorem Wq2{w0:Wo}(hx:LX w0)(hk:k<w0.roots.length)(hr:q.1.roots=w0.roots)(hq:LQ w0 k q)(hc:∀(i:Nat) (h:i<w0.roots.length),w0.roots[i].phase=5->CmOk w0.roots[i].cm):LX (Wo.put q k):=by
 have hlen:(q.1.roots.set k q.2).length=w0.roots.length:=by rw[Xaf,hr]
 have hmem:∀i,owner (Wo.put q k).mem i=owner q.1.mem i:=λ_=>rfl;refine⟨λi hi=>?_,λi a b=>?_,λe he=>?_,?_⟩
 .change i<(q.1.roots.set k q.2).length at hi;have rY:i<w0.roots.length:=by rw[←hlen];exact hi
  have jG:∀y,LB q.1 i y->LB (Wo.put q k) i y:=λy hy=>⟨hy.cm,hy.no,hy.hd,hy.tk⟩;show LB (Wo.put q k) i ((q.1.roots.set k q.2)[i]'hi);rw[Xao];by_cases he:k=i
  .subst he;rw[if_pos rfl];exact jG _ hq.b
  .rw[if_neg he];simp only[hr];exact jG _ ((hx.root i rY).other hq (λh=>he h.symm) (hc i rY))
 .show owner q.1.mem i=0\/∃j:Nat,j<(q.1.roots.set k q.2).length/\owner q.1.mem i=(j:Int)+1;rw[hlen];by_cases h0:owner q.1.mem i=0
  .exact .inl h0
  .by_cases h1:owner q.1.mem i=(k:Int)+1
   .exact .inr ⟨k,hk,h1⟩
   .have:=(hq.oth _ h1 h0 i a b).1.1 rfl;rw[←this];exact hx.ow i a b
 .show∃j:Nat,j<(q.1.roots.set k q.2).length/\e.1=(j:Int)+1;rw[hlen];by_cases h1:e.1=(k:Int)+1
  .exact⟨k,hk,h1⟩
  .obtain⟨h',a,b⟩:=hq.hdo e he h1;rw[←b];exact hx.hd h' a
 .show q.1.token=0\/∃j:Nat,j<(q.1.roots.set k q.2).length/\q.1.token=(j:Int)+1;rw[hlen];by_cases h0:q.1.token=0
  .exact .inl h0
  .by_cases h1:q.1.token=(k:Int)+1
   .exact .inr ⟨k,hk,h1⟩
   .rw[hq.tko h0 h1];exact hx.tk
theorem WuR(h:WOk s.2.1 n w)(hx:WX w)(hl:LX w):LX (Wgu s w a):=by
 have bj:LX {w with now:=w.now+1}:=⟨λk hk=>⟨(hl.root k hk).cm,(hl.root k hk).no,(hl.root k hk).hd,(hl.root k hk).tk⟩,hl.ow,hl.hd,hl.tk⟩;have hc:∀(i:Nat) (h:i<({w with now:=w.now+1}:Wo).roots.length),({w with now:=w.now+1}:Wo).roots[i].phase=5->CmOk ({w with now:=w.now+1}:Wo).roots[i].cm:=λi hi h5=>(h.root i hi).comm h5;unfold Wgu;simp only;split
 .rename_i hb;have hk:a.2.1.toNat<w.roots.length:=by omega
  have jG:=bj.root _ hk;rw[Wh hk];split
  .unfold Wkx;rw[Wh (show a.2.1.toNat<({w with now:=w.now+1}:Wo).roots.length from hk)];exact Wq2 bj hk (Wjo h hk) (WpV (n:=n) (hx _ hk) (h.root _ hk) ⟨h.mem,h.shelf,h.holds⟩ jG) hc
  .split
   .split
    .exact Wq2 (w0:={w with now:=w.now+1}) bj hk rfl (LQ.of rfl rfl rfl ⟨jG.cm,jG.no,jG.hd,jG.tk⟩) hc
    .exact bj
   .split
    .split
     .exact Wq2 (w0:={w with now:=w.now+1}) bj hk rfl (LQ.of rfl rfl rfl ⟨jG.cm,jG.no,jG.hd,jG.tk⟩) hc
     .exact bj
    .exact bj
 .exact bj
theorem Wuz(aX:Wov s=true):LX (Wgg s):=by
 obtain⟨h1,h2,h3,h4⟩:=Wgh aX;have rZ:∀i,0<=i->i<=7->owner (Wgg s).mem i=0:=λi a b=>by
  unfold owner Wm Wci Wgg Wjg;simp only;have:=h1.cells.len;rw[Wh (show i.toNat<(s.1.1.map wd0).length by rw[Xy];omega),Xcn];rfl
 refine⟨λk hk=>?_,λi a b=>.inl (rZ i a b),(λh hh=>by cases hh),.inl rfl⟩;have hr:(Wgg s).roots[k]={}:=by simp only[Wgg,Xbh]
 rw[hr];exact⟨λh=>by(change (0:Int)=5 at h;omega),(λ_ i a b=>by rw[rZ i a b];omega),(λh hh=>by cases hh),λh=>by(change (0:Int)=(k:Int)+1 at h;omega)⟩
end
end
section
def Wbd(x:Kd):Int:=if x.phase=0 then 75-3*x.pc-(if x.busy=true then x.pb.2.1 else 0)else 0
def Wcl(x:Kd):Int:=if x.phase=3 then 0 else if x.phase=2 then 25-x.pos else 26
structure KT(f:Fm)(k:Nat)(x:Kd):Prop where
 pb:x.busy=true->x.pb.2.1=1\/x.pb.2.1=2
 own:f.owner=(k:Int)+1↔x.phase=2
 seen:x.since=f.clock->∀e∈x.seen,Wt9 f.buf e.1=e.2.2
inductive KO (f:Fm) (k:Nat) (x:Kd):Fm×Kd->Prop
 |lost {q:Fm×Kd}:q.1.lost=true->KO f k x q
 |run {y:Kd}:x.phase=0->y.since=x.since->(y.phase=0\/y.phase=1)->Wbd y<Wbd x->(y.busy=true->y.pb.2.1=1\/y.pb.2.1=2)->
   (x.since=f.clock->∀e∈y.seen,Wt9 f.buf e.1=e.2.2)->KO f k x (f,y)
 |again:x.phase=0->x.since<f.clock->KO f k x (f,f.again x)
 |fail:x.phase=2->x.since<f.clock->KO f k x ({f with owner:=0},f.again x)
 |ask:x.phase=1->f.owner=0->KO f k x ({f with owner:=(k:Int)+1},{x with phase:=2})
 |wait:x.phase=1->f.owner≠0->KO f k x (f,x)
 |look:x.phase=2->x.pos<x.seen.length->KO f k x (f,{x with pos:=x.pos+1})
 |merge:x.phase=2->KO f k x (Wa1 f x k)
 |done:x.phase=3->KO f k x (f,x)
variable{code:List Opn}{codes:List (List Opn)}{n:Int}{f:Fm}{x:Kd}{m:Mm}{k:Nat}{o:Opn}
theorem WrT{rv:Int}{p:Pb}(h:0<=p.2.1/\p.2.1<=2):(WO m rv p).2.1=4\/(WO m rv p).2.1=p.2.1+1:=by
 unfold WO;simp only[Wv,Waa]
 repeat' split
 all_goals first
  |exact .inl rfl
  |(refine .inr ?_;show(1:Int)=_;omega)
  |(refine .inr ?_;show(2:Int)=_;omega)
  |(refine .inr ?_;show(3:Int)=_;omega)
  |omega
theorem Wu8(hF:FOk codes n f)(h:KOk code f.clock n x)(h0:x.phase=0)(ht:KT f k x)(bf:x.pc+1<=24):KO f k x (WbA m f x o):=by
 have hl:Wbd x=75-3*x.pc-(if x.busy=true then x.pb.2.1 else 0):=by unfold Wbd;rw[if_pos h0]
 have ib:0<=(if x.busy=true then x.pb.2.1 else 0)/\(if x.busy=true then x.pb.2.1 else 0)<=2:=by
  split
  .have:=ht.pb ‹_›;omega
  .omega
 have dD:∀y:Kd,y.phase=0->y.pc=x.pc+1->y.busy=x.busy->y.pb=x.pb->Wbd y<Wbd x:=λy a b c d=>by
  unfold Wbd;rw[if_pos a,if_pos h0,b,c,d];omega
 unfold WbA;cases WaH x.writes o.2.2.1 with
 |some v=>exact .run h0 rfl (.inl h0) (dD _ h0 rfl rfl rfl) ht.pb ht.seen
 |none=>
  simp only;cases he:ent f.buf o.2.2.1 with
  |some r=>
   simp only;have hr:=Wcp he;have mb:r.2∈f.buf:=List.mem_of_getElem? hr.2.2.2;split
   .exact .again h0 (by have:=(hF.bufE _ mb).2.2;omega)
   .refine .run h0 rfl (.inl h0) (dD _ h0 rfl rfl rfl) ht.pb λhs e dg=>?_;rcases Xl.1 dg with dg|dg
    .exact ht.seen hs e dg
    .rw[Xx]at dg;subst dg;have hc:r.2.1=o.2.2.1:=eq_of_beq hr.1;unfold Wt9;rw[hc,he]
  |none=>
   simp only;have hp:0<=(if x.busy=true then x.pb else(o.2.2.1,0,0,0)).2.1/\(if x.busy=true then x.pb else(o.2.2.1,0,0,0)).2.1<=2:=by
    split
    .have:=ht.pb ‹_›;omega
    .simp
   have iG:(if x.busy=true then x.pb else(o.2.2.1,0,0,0)).2.1=(if x.busy=true then x.pb.2.1 else 0):=by split<;>rfl
   have hs:=WrT (m:=m) (rv:=f.rv) hp;rw[iG]at hs;generalize WO m f.rv (if x.busy=true then x.pb else(o.2.2.1,0,0,0))=p at*;split
   .exact .lost rfl
   .split
    .refine .run h0 rfl (.inl h0) ?_ (λh=>by cases h) λym e dg=>?_
     .rw[hl];show(if x.phase=0 then 75-3*(x.pc+1) -0 else 0)<_;rw[if_pos h0];omega
     .rcases Xl.1 dg with dg|dg
      .exact ht.seen ym e dg
      .rw[Xx]at dg;subst dg;unfold Wt9;rw[he]
    .refine .run h0 rfl (.inl h0) ?_ (λ_=>by show p.2.1=1\/p.2.1=2;omega) ht.seen;rw[hl];show(if x.phase=0 then 75-3*x.pc-p.2.1 else 0)<_;rw[if_pos h0];omega
theorem WvP(bD:KC code)(hF:FOk codes n f)(h:KOk code f.clock n x)(h0:x.phase=0)(ht:KT f k x):KO f k x (Wl1 m f x code):=by
 have bJ:=bD.toCC;have hlen:=bJ.len;have hl:Wbd x=75-3*x.pc-(if x.busy=true then x.pb.2.1 else 0):=by unfold Wbd;rw[if_pos h0]
 have ib:0<=(if x.busy=true then x.pb.2.1 else 0)/\(if x.busy=true then x.pb.2.1 else 0)<=2:=by
  split
  .have:=ht.pb ‹_›;omega
  .omega
 have yn:=h.pc;have rb:∀y:Kd,y.phase=1->Wbd y<Wbd x:=λy a=>by unfold Wbd at*;rw[if_neg (by omega),hl];omega
 have dD:∀y:Kd,y.phase=0->x.pc+1<=y.pc->y.busy=x.busy->y.pb=x.pb->Wbd y<Wbd x:=λy a b c d=>by
  unfold Wbd;rw[if_pos a,if_pos h0,c,d];omega
 unfold Wl1;split
 .exact .run h0 rfl (.inr rfl) (rb _ rfl) ht.pb ht.seen
 .obtain⟨i,hi,bf,ho⟩:=We5 (l:=code) h.pc.1 (by have:=h.pc;omega);simp only[ho];have hM:=h.marks h0;rw[bf,Xj]at hM;split
  .exact Wu8 hF h h0 ht (by omega)
  .split
   .unfold Wf3;split
    .exact .run h0 rfl (.inr rfl) (rb _ rfl) ht.pb ht.seen
    .obtain⟨j,q,y,e1,e2,e3,⟨hj,h8⟩,rW,dW,iG,e5,e6⟩:=Wjs (d:=((0,0,[]):KM)) bJ (show i<=code.length by omega) hM.pcs ‹_›;refine .run h0 rfl (.inl h0) (dD _ h0 ?_ rfl rfl) ht.pb ht.seen;simp only[e2,e3,Xj];omega
   .split
    .exact .run h0 rfl (.inl h0) (dD _ h0 (Xu _) rfl rfl) ht.pb ht.seen
    .split
     .have hk:=Wvm (bD.ok i hi).1 ‹_›;refine .run h0 rfl (.inl h0) (dD _ h0 ?_ rfl rfl) ht.pb ht.seen;show x.pc+1<=(if Wci x.regs code[i].2.1 0=0 then x.pc+code[i].2.2.1 else x.pc)+1;split<;>omega
     .split
      .exact .run h0 rfl (.inl h0) (dD _ h0 (Xu _) rfl rfl) ht.pb ht.seen
      .split
       .exact .run h0 rfl (.inl h0) (dD _ h0 (Xu _) rfl rfl) ht.pb ht.seen
       .exact .run h0 rfl (.inl h0) (dD _ h0 (Xu _) rfl rfl) ht.pb ht.seen
theorem Wut(bD:KC code)(hF:FOk codes n f)(h:KOk code f.clock n x)(ht:KT f k x):KO f k x (Wbc m f x k code):=by
 have bQ:=h.phase;unfold Wbc;split
 .exact WvP bD hF h ‹_› ht
 .split
  .split
   .exact .ask ‹_› ‹_›
   .exact .wait ‹_› ‹_›
  .split
   .split
    .exact .merge ‹_›
    .have hp:=h.pos;have hlt:x.pos<x.seen.length:=by omega
     simp only;split
     .exact .look ‹_› hlt
     .rename_i hne;refine .fail ‹_› ?_;have hs:=h.since;by_cases he:x.since=f.clock
      .exfalso;apply hne;have hg:Wci x.seen x.pos (0,0,0)=x.seen[x.pos.toNat]'(by omega):=Wh (by omega) _;rw[hg];exact ht.seen he _ (Xo _)
      .omega
   .exact .done (by omega)
end
end Go.Sx
