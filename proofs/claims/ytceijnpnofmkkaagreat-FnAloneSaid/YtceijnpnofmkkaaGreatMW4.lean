/- Plain laws of the Lean functions. -/
import Derived.Test.YtceijnpnofmkkaaGreatMW3
open Option renaming bind_some→Xd
open Int renaming toNat_natCast→Xi,toNat→Xa,natCast_succ→Xfy,le_refl→Xab,le_trans→Xel,lt_of_le_of_lt→Xcw,le_of_eq→Xfs
open List renaming take→Xal,getD→Xc,length→Xb,length_map→Xad,set→Xg,replicate→Xo,set_getElem_self→Xap,getElem_of_mem→Xbc,getElem_mem→Xw,length_take→Xay,mem_append→Xm,pairwise_append→Xai,map_append→Xu,mem_singleton→Xaf,length_dropLast→Xdm,mem_of_mem_take→Xbf,mem_map→Xx,map_cons→Xag,all_eq_true→Xah,length_set→Xy,getElem_set→Xam,getElem_replicate→Xbe,length_cons→Xr,append_eq→Xaw,mem_or_eq_of_mem_set→Xei,sum_cons→Xdc
open Bool renaming not_true→Xv,true_and→Xch,and_eq_false_iff→Xdz,and_eq_true→Xj,and_self→Xbo,eq_false_iff→Xbw
open Nat renaming le_refl→Xn
namespace Go.Sx
set_option linter.unusedVariables false
set_option linter.unusedSimpArgs false
section
variable{N:Nat}{w:Wo}{k:Nat}{x:Rt}{o:Opn}{p:Pg}{n:Int}{code:List Opn}
theorem RLive.mk24(hc:CC p.1)(h:RLive p n x)(hz:x.marks.length≠0):∃(m:Nat) (q:List RM),x.marks=q++ [x.last]/\x.last.1=(m:Int)/\(∃hm:m<p.1.length,p.1[m].1=8)/\(m:Int)<x.pc/\Mate p.1 m (Wer p.1 m)/\x.pc<=Wer p.1 m/\stk p.1 m=(stk p.1 x.pc.toNat).dropLast/\x.marks.dropLast=q/\
  Vals 4 x.last.2.2.2.2/\(0<=x.last.2.1/\x.last.2.1<=x.last.1+72*frk p.1 x.last.1.toNat/\x.last.2.1<=x.reads.length)/\(0<=x.last.2.2.1/\x.last.2.2.1<=x.last.1+8/\x.last.2.2.1<=x.writes.length)/\0<=x.last.2.2.2.1/\x.last.2.2.2.1<=x.last.1/\x.last.2.2.2.1<=x.undos.length:=by
 have hp:=h.pc;obtain⟨m,q,y,e1,e2,e3,e4,e5,e6,e7,e8,e9⟩:=WhQ (d:=zRM) hc (show x.pc.toNat<=p.1.length by omega) h.marks.pcs hz;have hl:x.last=y:=e2;have hy:=h.marks.each y (by grind)
 grind
theorem WsQ(hk:k<w.roots.length)(bg:w.roots[k]=x)(na:k<=8)(hc:CC p.1)(hx:RLive p n x)(hu:∀u∈x.undos,UnV u)(hs:ShOk w.shelf)(hh:HOk w.holds)(hN:1048576<N):
  Zip N w.e (k:Int) p.1=some (((Wo.put (WcD w x k p.1) k).e,()),()):=by
 obtain⟨g1,g2,g3,g4,g5⟩:=woG hk bg;obtain⟨r0,r1,r2,r3,r4,r5,r6,r7,r8,kX,kq,jw,jx,jV,jW,lR,lS,kY,kZ,lT,lU,lV⟩:=rtP x;obtain⟨z1,z2,z3,z4,z5,z6⟩:=hx.sz hc;have hcl:=hc.len;unfold Zip WcD;simp only[WA];rw[show P5 w.e=w.roots.map Rt.e from rfl,g4,g2];simp only[We,WC,jV,Wi];by_cases hz:x.marks.length=0
 .rw[Wb (by omega),Wb hz,g3,Wmn hk bg na hh hx.rv z5 z6 hN];rfl
 .rw[Wa (by omega),Wa hz,WpU hz (by omega)];simp only[Xd,jW,WaP];obtain⟨m,q,e1,e2,⟨hm,ku⟩,e4,e5,e6,e7,e8,e9,nd,nZ,qM,qN,nf⟩:=hx.mk24 hc hz;by_cases hgt:(x.undos.length:Int)>x.last.2.2.2.1
  .rw[Wb hgt,Wb hgt,g3,Xi,Wlu hk bg (by omega) (by omega) hu hs hN];rfl
  .rw[Wa hgt,Wa hgt];simp only[jx,jV];obtain⟨a,b,c,d⟩:=WeT hz (by omega) zRM;have d':(decide ((0:Int)<=Ws .i64 (x.marks.length:Int) 1)&&decide (Ws .i64 (x.marks.length:Int) 1<=(x.marks.length:Int)))=true:=d;have c':Xal (Xa (Ws .i64 (x.marks.length:Int) 1)) x.marks=x.marks.dropLast:=c;rw[d',c',WbB (by rw[e9.len];omega),e2,W9,Wf hm];have o1:Xc p.1 (Xa ((m:Nat):Int)) ((0,0,0,0):Opn)=opN p.1 (m:Int):=rfl;have hr:=WvA (hc.ok m hm).1 ku;rw[←Wk9 hm]at hr;simp only[We,ret,Xd,o1];rw[WZ hr e9.len];have b2:(decide ((0:Int)<=x.last.2.2.1)&&decide (x.last.2.2.1<=(x.writes.length:Int)))=true:=by simp;omega
   rw[b2];simp only[We];rw[WdP (by grind),Wi0 (by omega) hN ⟨hm,ku⟩ e5];simp only[ret,Xd];rw[Wc2 (by have:=e5.len;omega),Xi];exact Wdp rfl rfl rfl
theorem WrV(hk:k<w.roots.length)(bg:w.roots[k]=x)(na:k<=8)(hc:CC p.1)(hx:RLive p n x)(ho:WcO o=true)(d9:12<=o.1)(hs:ShOk w.shelf)(hh:HOk w.holds)(hN:1048576<N):
  Zgo N w.e (k:Int) o=some (((Wo.put (Wcd w x k o) k).e,()),()):=by
 obtain⟨g1,g2,g3,g4,g5⟩:=woG hk bg;obtain⟨r0,r1,r2,r3,r4,r5,r6,r7,r8,kX,kq,jw,jx,jV,jW,lR,lS,kY,kZ,lT,lU,lV⟩:=rtP x;obtain⟨z1,z2,z3,z4,z5,z6⟩:=hx.sz hc;have vr:=Wlo hh;have aR:=hx.pc;have hcl:=hc.len;have ue:(0<=(WaU o).1/\(WaU o).1<=8)/\1<=(WaU o).2/\(WaU o).2<=2:=by
  grind [WaU,Wjx,Weg,Wn6,Wob,Wbh,Ws6]
 unfold Zgo Wcd;simp only[WA,WgK];rw[show P5 w.e=w.roots.map Rt.e from rfl,g4,g2,Wc2 (by omega),Wlj ho d9,show P4 w.e=w.holds from rfl,show w.e.2.2.2.1=w.shelf from rfl];simp only[We,Xd,Wi9 hh (show 1<=(k:Int)+1/\(k:Int)+1<=9 by omega) ue.1 ue.2 (by omega) hN,r3,kq,jW,WeO hx.spare];cases ha:WaY w.holds ((k:Int)+1) (WaU o).1 (WaU o).2 with
 |none=>
  simp only[Option.isSome_none,Bool.not_false,We,Xi];exact Wdp rfl rfl rfl
 |some dt=>
  simp only[Option.isSome_some,Xv,Wc,Option.getD_some,Xi,WiU hs hx.regs ho d9 hN,Xd,Wdt];rw[Wc2 (by omega),Wx (by simp;omega)];by_cases hz:(W0 w.shelf o x.regs).2.2.1=0
  .rw[Wb hz,Wb hz];exact Wdp rfl rfl rfl
  .rw[Wa hz,Wa hz];exact Wdp rfl rfl rfl
theorem WvR(hk:k<w.roots.length)(bg:w.roots[k]=x)(na:k<=8)(hp:POk p)(hx:RLive p n x)(hu:∀u∈x.undos,UnV u)(hm:W3 w.mem=true)(hs:ShOk w.shelf)(hh:HOk w.holds)(hN:1048576<N):
  Zht N w.e (k:Int) p=some (((Wo.put (WfG w x k p) k).e,()),()):=by
 obtain⟨g1,g2,g3,g4,g5⟩:=woG hk bg;obtain⟨r0,r1,r2,r3,r4,r5,r6,r7,r8,kX,kq,jw,jx,jV,jW,lR,lS,kY,kZ,lT,lU,lV⟩:=rtP x;have hc:=hp.code;obtain⟨z1,z2,z3,z4,z5,z6⟩:=hx.sz hc;have aR:=hx.pc;have hcl:=hc.len;have dN:=hx.regs.len;unfold Zht WfG;simp only[WA];rw[show P5 w.e=w.roots.map Rt.e from rfl,g4,g2,g3];simp only[We,r3,r4,kq,jw,jx,jV,jW,WaP,WC,show Wi p.1=(p.1.length:Int)from rfl];by_cases fB:x.pc>=p.1.length
 .rw[Wb fB,Wb fB,Wmn hk bg na hh hx.rv z5 z6 hN];rfl
 .rw[Wa fB,Wa fB];obtain⟨j,hj,ej,eo⟩:=Wdc (l:=p.1) aR.1 (by omega);have xJ:Xc p.1 (Xa x.pc) ((0,0,0,0):Opn)=opN p.1 x.pc:=rfl;have iT:inb x.pc p.1.length=true:=by grind [W9,decide_eq_true]
  rw[iT];obtain⟨ok,o1,fV⟩:=hc.ok j hj;simp only[We,xJ];rw[←eo]at ok o1 fV;rw[Wc2 (show 0<=x.pc/\x.pc<=1000000 by omega)];have uf:(opN p.1 x.pc).1=9->x.marks.length≠0:=λh9 hz=>by
   have h1:=Wm Xb hx.marks.pcs;simp only[Xad,hz]at h1;have h2:=WaV hc.up j (by omega);have h3:=hc.up j hj
   grind [Waq,WkV,Xi]
  generalize opN p.1 x.pc=o at*;have x6:o.1>=12->Zgo N w.e (k:Int) o=some (((Wo.put (Wcd w x k o) k).e,()),()):=λd9=>WrV hk bg na hc hx ok d9 hs hh hN;by_cases h5:o.1=5
  .rw[Wb h5,Wb h5,Xi,Wt4 hk bg hc hx hm h5 ok hN];rfl
  .rw[Wa h5,Wa h5];by_cases ci:o.1=10
   .rw[Wb ci,Wb ci,WsQ hk bg na hc hx hu hs hh hN];rfl
   .rw[Wa ci,Wa ci];by_cases fA:o.1=11
    .rw[Wb fA,Wb fA,show Wi p.2=((p.2.length:Nat):Int)from rfl,WjM (by omega) (by omega) hp.k3 hN,Xi];exact Wdp rfl rfl rfl
    .rw[Wa fA,Wa fA];by_cases d9:o.1>=12
     .rw[Wb d9];have hb:=x6 d9;have:o.1=12\/o.1=13\/o.1=14\/o.1=15\/o.1=16:=by omega
      rcases this with h|h|h|h|h
      .rw[Wb h,Wb h,hb];rfl
      .rw[Wa (by omega),Wb h,Wb h,hb];rfl
      .rw[Wa (by omega),Wa (by omega),Wb h,Wb h,hb];rfl
      .rw[Wa (by omega),Wa (by omega),Wa (by omega),Wb h,Wb h,hb];rfl
      .rw[Wa (by omega),Wa (by omega),Wa (by omega),Wa (by omega),Wb h,hb];rfl
     .rw[Wa d9,Wa (show¬o.1=12 by omega),Wa (show¬o.1=13 by omega),Wa (show¬o.1=14 by omega),Wa (show¬o.1=15 by omega),Wa (show¬o.1=16 by omega)];by_cases h6:o.1=6
      .rw[Wb h6,Wb h6,WZ (Wwu ok h6).2 dN,Wx (by simp;omega),Xi];exact Wdp rfl rfl rfl
      .rw[Wa h6,Wa h6];by_cases h7:o.1=7
       .rw[Wb h7,Wb h7];have h:=WtB ok h7;rw[WZ h.1 dN,WH (a:=x.pc) (b:=o.2.2.1) (by unfold I64;omega),Wc2 (a:=x.pc+o.2.2.1) (by omega),Xi];by_cases hg:Xc x.regs (Xa o.2.1) 0=0
        .rw[Wb hg,Wb (show Wa0 x.regs o.2.1 0=0 from hg)];exact Wdp rfl rfl rfl
        .rw[Wa hg,Wa (show¬Wa0 x.regs o.2.1 0=0 from hg)];exact Wdp rfl rfl rfl
       .rw[Wa h7,Wa h7];by_cases h8:o.1=8
        .rw[Wb h8,Wb h8,WbB (by omega)];simp only[ret,Xd];rw[Wx (by simp;omega),Xi];exact Wdp rfl rfl rfl
        .rw[Wa h8,Wa h8];by_cases h9:o.1=9
         .rw[Wb h9,Wb h9];have hz:=uf h9;obtain⟨a,b,c,d⟩:=WeT hz (by omega) zRM;obtain⟨m,q,e1,e2,⟨iP,ku⟩,e4,e5,e6,e7,e8,e9,nd,nZ,qM,qN,nf⟩:=hx.mk24 hc hz;rw[WmD hz (by omega)];simp only[Xd];rw[d,c,e2,W9,Wf iP];have o1:Xc p.1 (Xa ((m:Nat):Int)) ((0,0,0,0):Opn)=opN p.1 (m:Int):=rfl;have hr:=WvA (hc.ok m iP).1 ku;rw[←Wk9 iP]at hr;simp only[We,o1];rw[WZ hr dN,Xi];exact Wdp rfl rfl rfl
         .rw[Wa h9,Wa h9,WhI hN ok (by omega) (by omega) hx.regs,Xi];exact Wdp rfl rfl rfl
theorem Wuc(hk:k<w.roots.length)(bg:w.roots[k]=x)(ng:w.roots.length<=8)(hN:1048576<N):
  Zfl N w.e (k:Int)=some (((Wo.put (WfA w x k) k).e,()),()):=by
 obtain⟨g1,g2,g3,g4,g5⟩:=woG hk bg;have ir:=Wpt hk bg;have dN:(w.roots.map Rt.e).length=w.roots.length:=by simp
 unfold Zfl;rw[show P5 w.e=w.roots.map Rt.e from rfl,g4,g2,Wc2 (by omega),Xi];simp only[We,Wdt,WC,WaP,show w.e.2.1=w.token from rfl,show x.e.2.1=x.tries from rfl,show w.e.1=w.now from rfl,show w.e.2.2.1.1=w.mem.1 from rfl];have kB:∀(K0:Bool->Int->Bool->Option ((Y_World×Unit)×Unit)) (d j n:Nat) (al:Bool),j+d=w.roots.length->d<n->
   Zat N (k:Int) k (Wi (w.roots.map Rt.e)) w.now w.token w.mem.1 w.e.2.2.2.1.2 (w.roots.map Rt.e) w.e.2.2.1.2 w.e.2.2.2.1.1 (P4 w.e) (Q6 w.e) K0 n al (j:Int)=K0 (al&&WbD k (w.roots.drop j) j) (w.roots.length:Int) false:=by
  intro K0 d
  induction d with
  |zero=>
   intro j n al hj hn;obtain⟨n,rfl⟩:∃n',n=n'+1:=⟨n-1,by omega⟩;have:j=(w.roots.map Rt.e).length:=by omega
   rw[Zat,this,Wat (Xn _),dN,List.drop_length];simp[WbD]
  |succ d ih=>
   intro j n al hj hn;obtain⟨n,rfl⟩:∃n',n=n'+1:=⟨n-1,by omega⟩;have hlt:j<(w.roots.map Rt.e).length:=by omega
   have yc:j<w.roots.length:=by omega
   rw[Zat];simp only[W2 hlt,Wq hlt,Wt hlt,Wp (show j<4611686018427387904 by omega),We,ih (j+1) n _ (by omega) (by omega),List.getElem_map];rw[List.drop_eq_getElem_cons yc,WbD];generalize WbD k (w.roots.drop (j+1)) (j+1)=b;have hp:(Rt.e w.roots[j]).1=w.roots[j].phase:=rfl;rw[hp];simp only[WC];cases al with
   |false=>simp
   |true=>
    simp only[We,Xch];by_cases h1:j=k
    .rw[Wb (by omega),Wf h1];simp
    .rw[Wa (by omega),Wu h1];by_cases h2:w.roots[j].phase=0
     .rw[Wb h2,Wf h2];simp
     .rw[Wa h2,Wu h2];have:(w.roots[j].phase==8)=decide (w.roots[j].phase=8):=by
       by_cases h3:w.roots[j].phase=8<;>simp[h3]
      rw[this];simp
 have:=kB;refine(kB _ w.roots.length 0 N true (by omega) (by omega)).trans ?_;rw[List.drop_zero,Xch];unfold WfA;have c8:some ((S5 (Xg (w.roots.map Rt.e) k ((1:Int),(x.tries,((0:Int),((0:Int),(w.mem.1,((0:Int),((0:Int),((0:Int),((0:Int),(w.now,((0:Int),(false,(Xo (Xa (4:Int)) (0:Int),(([]:List Kc),(([]:List Kc),(([]:List Kk),(([]:List Kb),(([]:List Int),(false,(((0:Int),((0:Int),((0:Int),(0:Int)))),(((0:Int),((0:Int),((0:Int),((0:Int),((0:Int),(([]:List Kc),([]:List Int))))))),d_Family)))))))))))))))))))))) w.e,()),())=some (((Wo.put (w,{phase:=1,tries:=x.tries,rv:=w.mem.1,began:=w.now,regs:=[0,0,0,0]}) k).e,()),()):=Wdp (x':={phase:=1,tries:=x.tries,rv:=w.mem.1,began:=w.now,regs:=[0,0,0,0]}) (w':=w) rfl rfl rfl;have yd:some (((w.now,((k:Int)+1,w.e.2.2)),()),())=some (((Wo.put ({w with token:=(k:Int)+1},x) k).e,()),()):=by
  have:Wo.put ({w with token:=(k:Int)+1},x) k={w with token:=(k:Int)+1}:=by unfold Wo.put;simp only;rw[←bg,Xap]
  rw[this];rfl
 have aH:(((decide ((0:Int)<=(4:Int)))&&(decide ((4:Int)<=(4:Int))))&&(WB (Xa (4:Int))))=true:=rfl;have bF:some ((w.e,()),())=some (((Wo.put (w,x) k).e,()),()):=by rw[ir]
 rw[aH];simp only[We,c8];by_cases t0:w.token=0
 .rw[Wb t0];rw[Wa (show¬(w.token≠0/\w.token≠(k:Int)+1) by omega)];by_cases ht:x.tries>=3
  .rw[Wb ht,Wb t0,Wb ⟨ht,t0⟩];exact yd
  .rw[Wa ht,Wa (show¬w.token=(k:Int)+1 by omega),Wa (λh=>ht h.1),Wa (by omega)]
 .rw[Wa t0];by_cases t1:w.token=(k:Int)+1
  .rw[Wb t1,Wa (show¬(w.token≠0/\w.token≠(k:Int)+1) by omega),Wa (show¬(x.tries>=3/\w.token=0) by omega)];have jc:∀b:Bool,(bif !b then some ((w.e,()),())else some (((Wo.put (w,{phase:=1,tries:=x.tries,rv:=w.mem.1,began:=w.now,regs:=[0,0,0,0]}) k).e,()),()))=some (((Wo.put (if w.token=(k:Int)+1/\b=false then(w,x)else(w,{phase:=1,tries:=x.tries,rv:=w.mem.1,began:=w.now,regs:=[0,0,0,0]})) k).e,()),()):=λb=>by
    cases b with
    |false=>rw[Wb ⟨t1,rfl⟩];exact bF
    |true=>rw[Wa (by simp)];rfl
   by_cases ht:x.tries>=3
   .rw[Wb ht,Wa t0,Wb t1];exact jc _
   .rw[Wa ht,Wb t1];exact jc _
  .rw[Wa t1,Wb ⟨t0,t1⟩];exact bF
theorem Wut(hp:POk p)(hx:RLive p n x)(h2:x.phase=2)(hN:1048576<N):Zhu N x.e=some (((Wco x).e,()),()):=by
 obtain⟨r0,r1,r2,r3,r4,r5,r6,r7,r8,kX,kq,jw,jx,jV,jW,lR,lS,kY,kZ,lT,lU,lV⟩:=rtP x;have hc:=hp.code;obtain⟨z1,z2,z3,z4,z5,z6⟩:=hx.sz hc;obtain⟨f1,f2,f3⟩:=hx.fork h2;have aR:=hx.pc;have hcl:=hc.len;have Ag:x.fam.kids.length<=3:=by have:=f3.len;have:=hp.k3;omega
 have qI:=f3.len3 hp.k3;have jv:=f3.readsL;unfold Zhu Wco;simp only[r3,jw,kZ,lT,lU,lV,Wfe,Xd];rw[Wnm Ag hN,Wlv f3.regs Ag (λy hy=>by
  obtain⟨i,hi,rfl⟩:=Xbc hy;rw[(f3.kid i hi).regs.len];omega) hN,Wm4 (by have:=f3.buf8;omega) hN,Wx (by omega),WbB (by omega),Wc2 (by omega),Wic]
 by_cases hl:x.fam.lost=true
 .rw[Wb hl,Wb hl]
 .rw[Wa hl,Wa hl];simp only[ret,Xd,We];cases ho:Wbe x.fam
  .rw[Wa (by simp)];rfl
  .rw[Wb rfl];rfl
theorem Wq0(hk:k<w.roots.length)(bg:w.roots[k]=x)(hp:POk p)(hx:RLive p n x)(h4:x.phase=4)(hm:W3 w.mem=true):
  Zfz N w.e k=some (((Wo.put (w,Wbq w x) k).e,()),()):=by
 obtain⟨g1,g2,g3,g4,g5⟩:=woG hk bg;obtain⟨r0,r1,r2,r3,r4,r5,r6,r7,r8,kX,kq,jw,jx,jV,jW,lR,lS,kY,kZ,lT,lU,lV⟩:=rtP x;have hc:=hp.code;obtain⟨z1,z2,z3,z4,z5,z6⟩:=hx.sz hc;have hz:=hx.back (.inr h4);obtain⟨m,q,e1,e2,⟨iP,ku⟩,e4,e5,e6,e7,e8,e9,nd,nZ,qM,qN,nf⟩:=hx.mk24 hc hz;have cJ:=hx.pos h4;have aR:=hx.pc;have hcl:=hc.len;unfold Zfz Wbq;simp only[WA];rw[show P5 w.e=w.roots.map Rt.e from rfl,g1,WpU hz (by omega)];simp only[Xd,r4,r5,r6,jw,jx,WaP,Wfe,show w.e.2.2.1.2=w.mem.2 from rfl];by_cases hlt:x.pos<x.last.2.1
 .rw[Wb hlt,Wb hlt];have hj:x.pos.toNat<x.reads.length:=by omega
  have iT:inb x.pos x.reads.length=true:=by unfold inb;simp;omega
  have hg:Xc x.reads (Xa x.pos) ((0:Int),(0:Int))=Wa0 x.reads x.pos (0,0):=rfl;have hv:0<=(Wa0 x.reads x.pos (0,0)).1/\(Wa0 x.reads x.pos (0,0)).1<=7:=by
   unfold Wa0;rw[Wn hj];exact(hx.reads _ (Xw hj)).1
  rw[iT,hg,Whi hm hv,show Xc w.mem.2 (Xa (Wa0 x.reads x.pos (0,0)).1) ((0:Int),((0:Int),(0:Int)))=WN w.mem (Wa0 x.reads x.pos (0,0)).1 from rfl,Wc2 (by omega)];simp only[We,Wdt];by_cases a:(WN w.mem (Wa0 x.reads x.pos (0,0)).1).2.2=0
  .rw[Wb a];by_cases b:(WN w.mem (Wa0 x.reads x.pos (0,0)).1).2.1>x.rv
   .rw[Wb b,Wb (.inr b)];exact Wdp rfl rfl rfl
   .rw[Wa b,Wa (by omega)];exact Wdp rfl rfl rfl
  .rw[Wa a,Wb (.inl a)];exact Wdp rfl rfl rfl
 .rw[Wa hlt,Wa hlt];have b1:(decide ((0:Int)<=x.last.2.1)&&decide (x.last.2.1<=(x.reads.length:Int)))=true:=by simp;omega
  have b2:(decide ((0:Int)<=x.last.2.2.1)&&decide (x.last.2.2.1<=(x.writes.length:Int)))=true:=by simp;omega
  rw[b1,b2,WdP (by rw[Xay];omega),WdP (by rw[Xay];omega),WbB (by rw[e9.len];omega),Wc2 (by omega)];simp only[We,ret,Xd];exact Wdp rfl rfl rfl
theorem Wq5(hk:k<w.roots.length)(bg:w.roots[k]=x)(na:k<=8)(my:CmOk x.cm)(hm:W3 w.mem=true)(hh:w.hist.length<=500000)(hN:1048576<N):
  Zf0 N w.e (k:Int)=some (((Wo.put (WaW w x k) k).e,()),()):=by
 obtain⟨g1,g2,g3,g4,g5⟩:=woG hk bg;obtain⟨r0,r1,r2,r3,r4,r5,r6,r7,r8,kX,kq,jw,jx,jV,jW,lR,lS,kY,kZ,lT,lU,lV⟩:=rtP x;have bb:=Wnf my hm;unfold Zf0 WaW;simp only[WA,WgK];rw[show P5 w.e=w.roots.map Rt.e from rfl,g4,g2,Wc2 (by omega),Xi];simp only[We,r7,kX,kY,show w.e.2.2.1=w.mem from rfl,show Q6 w.e=w.hist from rfl];rw[Wic];by_cases hd:x.doomed=true
 .rw[Wb hd,Wb hd];obtain⟨b,hb⟩:=WsN (N:=N) my hN;rw[hb];simp only[Xd,WC,show(WaB x.cm).e.2.2.1=(WaB x.cm).phase from rfl];by_cases h8:(WaB x.cm).phase=8
  .rw[Wb h8,Wb h8];have:S20 (WaB x.cm).e (S11 false x.e)=Rt.e {x with cm:=WaB x.cm,doomed:=false}:=rfl;rw[this,Wfe];exact Wdp rfl rfl rfl
  .rw[Wa h8,Wa h8];exact Wdp rfl rfl rfl
 .rw[Wa hd,Wa hd,Wne my hm hN];simp only[Xd];obtain⟨m',c',hq⟩:∃m' c',WD w.mem x.cm=(m',c'):=⟨_,_,rfl⟩;rw[hq]at bb⊢;simp only at bb⊢;have mn:Zbk N (P5 c'.e)=ret c'.puts:=WdP (by have:=bb.1.plen;show c'.puts.length<=1048576;omega);have hS:S20 c'.e x.e=Rt.e {x with cm:=c'}:=rfl;rw[mn,hS,Wfe];simp only[ret,Xd];rw[Wx (by simp;omega)];simp only[We,WC,WaP,show c'.e.2.2.1=c'.phase from rfl,show(Cm.e x.cm).2.2.1=x.cm.phase from rfl,show P4 c'.e=c'.wv from rfl];unfold WcL;simp only;by_cases h3:x.cm.phase<=3
  .rw[Wb h3];by_cases h4:c'.phase=4
   .rw[Wb h4,Wa (by omega),Wa (by omega),Wb (show x.cm.phase<=3/\c'.phase=4 from⟨h3,h4⟩),Wa (by omega),Wa (by omega)];exact Wdp (w':={w with mem:=m',hist:=w.hist++ [(c'.wv,(k:Int)+1,c'.puts)]}) rfl rfl rfl
   .rw[Wa h4,Wa (show¬(x.cm.phase<=3/\c'.phase=4)fromλh=>h4 h.2)];by_cases h8:c'.phase=8
    .rw[Wb h8,Wb h8];exact Wdp (w':={w with mem:=m'}) rfl rfl rfl
    .rw[Wa h8,Wa h8];by_cases h6:c'.phase=6
     .rw[Wb h6,Wb h6];by_cases h2:x.fate=2
      .rw[Wb h2,Wb h2];exact Wdp (w':={w with mem:=m'}) rfl rfl rfl
      .rw[Wa h2,Wa h2];exact Wdp (w':={w with mem:=m'}) rfl rfl rfl
     .rw[Wa h6,Wa h6];exact Wdp (w':={w with mem:=m'}) rfl rfl rfl
  .rw[Wa h3,Wa (show¬(x.cm.phase<=3/\c'.phase=4)fromλh=>h3 h.1)];by_cases h8:c'.phase=8
   .rw[Wb h8,Wb h8];exact Wdp (w':={w with mem:=m'}) rfl rfl rfl
   .rw[Wa h8,Wa h8];by_cases h6:c'.phase=6
    .rw[Wb h6,Wb h6];by_cases h2:x.fate=2
     .rw[Wb h2,Wb h2];exact Wdp (w':={w with mem:=m'}) rfl rfl rfl
     .rw[Wa h2,Wa h2];exact Wdp (w':={w with mem:=m'}) rfl rfl rfl
    .rw[Wa h6,Wa h6];exact Wdp (w':={w with mem:=m'}) rfl rfl rfl
end
section
section
variable{code:List Opn}{pc cR rl wl ul rI lQ rJ:Nat}{ms q:List RM}{y:RM}{n n':Int}{x:Rt}{w:Wo}{p:Pg}{k:Nat}{o:Opn}
theorem WgJ(code:List Opn){a b:Nat}(h:a<=b):frk code a<=frk code b:=by
 simp_all [frk,List.Sublist.countP_le,List.take_sublist_take_left]
theorem RMk.mono(h:RMk code pc ms rl wl ul)(hs:stk code cR=stk code pc)(h1:rl<=rI)(h2:wl<=lQ)(h3:ul<=rJ):RMk code cR ms rI lQ rJ:=
 ⟨by rw[hs];exact h.pcs,λq hq=>by obtain⟨a,b,c,d⟩:=h.each q hq;grind,h.up⟩
theorem RMk.cut(h:RMk code pc ms rl wl ul)(rF:ms=q++ [y])(h1:y.2.1<=rI)(h2:y.2.2.1<=lQ)(h3:y.2.2.2.1<=rJ):RMk code pc ms rI lQ rJ:=by
 refine⟨h.pcs,λa ha=>?_,h.up⟩;obtain⟨c1,c2,c3,c4⟩:=h.each a ha;have hle:a.2.1<=y.2.1/\a.2.2.1<=y.2.2.1/\a.2.2.2.1<=y.2.2.2.1:=by
  have hu:=h.up;rw[rF]at ha hu;rcases Xm.1 ha with ha|ha
  .exact(Xai.1 hu).2.2 a ha y (by simp)
  simp_all
 grind
theorem RMk.begin(h:RMk code pc ms rl wl ul)(hp:pc<code.length)(h8:code[pc].1=8){regs:List Int}(hr:Vals 4 regs)(h1:rl<=pc+72*frk code pc)(h2:wl<=pc+8)(h3:ul<=pc):
  RMk code (pc+1) (ms++ [((pc:Int),(rl:Int),(wl:Int),(ul:Int),regs)]) rl wl ul:=by
 refine⟨?_,?_,?_⟩
 .rw[WjH hp h8,Xu,Xu,h.pcs];rfl
 .intro q hq;rcases Xm.1 hq with hq|hq
  .exact h.each q hq
  grind
 .refine Xai.2 ⟨h.up,List.pairwise_singleton _ _,λa ha b hb=>?_⟩;rw[Xaf]at hb;subst hb;obtain⟨c1,c2,c3,c4⟩:=h.each a ha;simp_all
theorem RMk.drop(h:RMk code pc ms rl wl ul)(rF:ms=q++ [y])(hs:stk code cR=(stk code pc).dropLast)(h1:y.2.1<=rI)(h2:y.2.2.1<=lQ)(h3:y.2.2.2.1<=rJ):RMk code cR q rI lQ rJ:=by
 have h':=h.cut rF h1 h2 h3;subst rF;have e:=h.pcs;refine⟨?_,λa ha=>h'.each a (List.mem_append_left _ ha),(Xai.1 h.up).1⟩
 grind
theorem RLive.wk(h:RLive p n x)(hn:n<=n'):RLive p n' x:={h with fork:=λh2=>by obtain⟨a,b,c⟩:=h.fork h2;exact⟨a,b,c.wk hn⟩}
theorem ROk.wk(h:ROk p n x)(hn:n<=n'):ROk p n' x:={h with tries:=by have:=h.tries;omega,live:=λhl=>(h.live hl).wk hn}
theorem RLive.on(ba:CC p.1)(h:RLive p n x)(h1:x.phase=1){i:Nat}(hi:i<p.1.length)(aR:x.pc=i){regs:List Int}{reads writes:List Rw}{marks:List RM}{undos:List Un}{busy:Bool}{pb:Pb}{cR:Nat}
  (hp:cR<=p.1.length) (hlt:i<cR) (hr:Vals 4 regs) (jv:Weq reads) (dN:reads.length<=x.reads.length+1) (Ci:Weq writes) (g0:writes.length<=x.writes.length+1) (dg:undos.length<=x.undos.length+1) (hm:RMk p.1 cR marks reads.length writes.length undos.length) (hb:busy=true->Wk7 pb=true):
  RLive p n {x with regs:=regs,reads:=reads,writes:=writes,marks:=marks,undos:=undos,busy:=busy,pb:=pb,pc:=(cR:Int)} where
 pc:=by simp_all
 spare:=h.spare
 rv:=h.rv
 regs:=hr
 reads:=jv
 rl:=by
  have h2:=h.rl;have h3:=WgJ p.1 (show i<=cR by omega)
  grind
 writes:=Ci
 wl:=by have:=h.wl;grind
 ul:=by have:=h.ul;grind
 marks:=by simp_all
 pb:=hb
 fork:=λh2=>by simp_all
 back:=λh2=>by simp_all
 newRv:=h.newRv
 pos:=λh2=>by simp_all
 unw:=λh2=>by simp_all
theorem Vals.le4{r:List Int}(h:Vals 4 r):r.length<=4:=Nat.le_of_eq h.len
theorem Wfi(h:ROk p n x):ROk p n (WdA x) where
 phase:=by show(0:Int)<=6/\(6:Int)<=8;omega
 tries:=h.tries
 live:=λh=>by(change (1:Int)<=6/\(6:Int)<=4 at h;omega)
 comm:=λh=>by(change (6:Int)=5 at h;omega)
 undos:=h.undos
 ul:=h.ul
 rg:=by show([]:List Int).length<=4;simp
 ord:=by show([]:List Int).length<=3;simp
theorem WhW(h:ROk p n x)(hl:RLive p n x):ROk p n (WF x):=by
 unfold WF;split
 .exact Wfi h
 .rename_i hc;exact{h with
   phase:=by simp_all
   live:=λ_=>{hl with
    spare:=by have:=hl.spare;grind
    pb:=λh=>by cases h
    fork:=λh=>by simp_all
    back:=λ_=>by simp_all
    pos:=λh=>by simp_all
    unw:=λh=>by simp_all}
   comm:=λh=>by simp_all}
structure QOk(p:Pg)(n:Int)(w:Wo)(q:Wo×Rt):Prop where
 root:ROk p n q.2
 mem:W3 q.1.mem=true
 shelf:ShOk q.1.shelf
 holds:HOk q.1.holds
 hist:q.1.hist.length<=w.hist.length+1
 histE:∀h∈q.1.hist,h∈w.hist\/HE h
 roots:q.1.roots=w.roots
 now:q.1.now=w.now
structure GOk(w:Wo):Prop where
 mem:W3 w.mem=true
 shelf:ShOk w.shelf
 holds:HOk w.holds
theorem GOk.st(h:GOk w){y:Rt}(hy:ROk p n y):QOk p n w (w,y):=⟨hy,h.mem,h.shelf,h.holds,by simp,λ_ hh=>.inl hh,rfl,rfl⟩
theorem GOk.qt(h:GOk w){y:Rt}(hy:ROk p n y)(t:Int):QOk p n w ({w with token:=t},y):=⟨hy,h.mem,h.shelf,h.holds,by simp,λ_ hh=>.inl hh,rfl,rfl⟩
theorem Wsd(h:GOk w)(hx:ROk p n x):QOk p n w (WjE w x k):=by
 unfold WjE;refine h.qt ?_ _;exact{hx with
  phase:=by simp_all
  live:=λh=>by simp_all
  comm:=λh=>by simp_all
  undos:=λu hu=>by cases hu
  ul:=by simp}
theorem WnN(h:GOk w)(hx:ROk p n x)(mf:0<=x.rv/\x.rv<=1000000)(hk:k<=8){out:Int}:QOk p n w (WaT w x k out):=by
 unfold WaT;simp only;generalize (if out=2 then []else x.writes)=rows;split
 .exact Wsd (x:={x with fate:=out,stamp:=x.rv}) h
   {phase:=hx.phase,tries:=hx.tries,live:=λhh=>{hx.live hh with},comm:=hx.comm,undos:=hx.undos,ul:=hx.ul,rg:=hx.rg,ord:=hx.ord}
 .refine h.st ?_;exact{hx with
   phase:=by simp_all
   live:=λh=>by simp_all
   comm:=λ_=>WkO (by omega) mf}
theorem Wgr{α:Type}{l:List α}(h:l.length≠0)(d:α):Wct l d∈l:=by
 grind [Wct,Wn,Xw]
theorem Wlz(h:GOk w)(hx:ROk p n x)(hz:x.undos.length≠0)(ba:1<=x.phase/\x.phase<=4->CC p.1/\(x.marks.length≠0->x.last.2.2.2.1<x.undos.length)):QOk p n w (Wd1 w x):=by
 unfold Wd1;refine⟨?_,h.mem,Wqj h.shelf (hx.undos _ (Wgr hz _)),h.holds,by simp,λ_ hh=>.inl hh,rfl,rfl⟩;have hdl:x.undos.dropLast.length=x.undos.length-1:=Xdm;exact{hx with
  live:=λhh=>by
   have hl:=hx.live hh;obtain⟨c1,c2⟩:=ba hh;exact{hl with
    ul:=by have:=hl.ul;grind
    unw:=λh4=>by have:=hl.unw h4;show(x.undos.dropLast.length:Int)<=x.last.2.2.2.1;omega
    marks:=by
     show RMk p.1 x.pc.toNat x.marks x.reads.length x.writes.length x.undos.dropLast.length;by_cases hm:x.marks.length=0
     .have:x.marks= []:=List.eq_nil_of_length_eq_zero hm;have hM:=hl.marks;rw[this]at hM⊢;exact⟨hM.pcs,(λq hq=>by cases hq),hM.up⟩
     .obtain⟨m,q,e1,e2,⟨iP,ku⟩,e4,e5,e6,e7,e8,e9,nd,nZ,qM,qN,nf⟩:=hl.mk24 c1 hm;have:=c2 hm;exact hl.marks.cut e1 nd.2.2 nZ.2.2 (by omega)}
  undos:=λu hu=>hx.undos u (by grind [List.dropLast_eq_take,Xbf])
  ul:=by have:=hx.ul;grind}
theorem Wt9(ba:CC p.1)(h:GOk w)(hx:ROk p n x)(hl:RLive p n x)(h1:x.phase=1){i:Nat}(hi:i<p.1.length)(aR:x.pc=i)(h5:p.1[i].1=5):ROk p n (Wdm w x p.1[i]):=by
 have aV:=WpI (ba.ok i hi).1 h5;have hB:0<=p.1[i].2.2.1/\p.1[i].2.2.1<=7:=by grind [W8]
 have hM:=hl.marks;rw[aR,Xi]at hM;have bb:stk p.1 (i+1)=stk p.1 i:=Wev hi (by omega) (by omega);have cA:x.pc+1=((i+1:Nat):Int):=by omega
 unfold Wdm;cases ko:WaF x.writes p.1[i].2.2.1 with
 |some v=>
  have hv:=hl.writes _ (WiJ ko).2;simp only[cA];exact{hx with rg:=Vals.le4 (hl.regs.set _ hv.2),live:=λ_=>RLive.on ba hl h1 hi aR (by omega) (by omega) (hl.regs.set _ hv.2) hl.reads (by omega) hl.writes (by omega) (by omega) (hM.mono bb (by omega) (by omega) (by omega)) hl.pb}
 |none=>
  simp only;have cJ:=WmH (rv:=x.rv) h.mem (WsP hl.pb hB);generalize WM w.mem x.rv (if x.busy=true then x.pb else(p.1[i].2.2.1,0,0,0))=b at*;have hp:=Wfu.1 cJ.1;have Cj:RLive p n {x with busy:=true,pb:=b}:={hl with pb:=λ_=>cJ.1};have hbo:ROk p n {x with busy:=true,pb:=b}:={hx with live:=λ_=>Cj};split
  .grind [WhW]
  .split
   .simp only[cA];refine{hx with rg:=Vals.le4 (hl.regs.set _ hp.2.2.2),live:=λ_=>RLive.on ba hl h1 hi aR (by omega) (by omega) (hl.regs.set _ hp.2.2.2) (λr hr=>?_) (by simp) hl.writes (by omega) (by omega) (hM.mono bb (by simp) (by omega) (by omega)) (λh=>by cases h)};rcases Xm.1 hr with hr|hr
    .exact hl.reads r hr
    simp_all
   omega
theorem Wtr(ba:CC p.1)(h:GOk w)(hx:ROk p n x)(hl:RLive p n x)(h1:x.phase=1)(hk:k<=8){i:Nat}(hi:i<p.1.length)(aR:x.pc=i):QOk p n w (WcD w x k p.1):=by
 have hM:=hl.marks;rw[aR,Xi]at hM;unfold WcD;split
 .exact WnN h hx hl.rv hk
 .rename_i hz;obtain⟨m,q,e1,e2,⟨iP,ku⟩,e4,e5,e6,e7,e8,e9,nd,nZ,qM,qN,nf⟩:=hl.mk24 ba hz;split
  .grind [Wlz]
  .refine h.st ?_;rw[e8];simp only[e2,Xi,←Xfy];have hlen:=e5.len;have ht:(Xal x.last.2.2.1.toNat x.writes).length=x.last.2.2.1.toNat:=by simp_all
   refine{hx with rg:=Vals.le4 (e9.set _ (by omega)),live:=λ_=>RLive.on ba hl h1 hi aR (cR:=Wer p.1 m+1) (by omega) (by omega) (e9.set _ (by omega)) hl.reads (by omega) (λr hr=>hl.writes r (Xbf hr)) (by omega) (by omega) ?_ hl.pb};exact hM.drop e1 (by rw[e5.st,e7,aR];rfl) (by omega) (by omega) (by omega)
theorem Wsn(ba:CC p.1)(h:GOk w)(hx:ROk p n x)(hl:RLive p n x)(h1:x.phase=1)(hk:k<=8){i:Nat}(hi:i<p.1.length)(aR:x.pc=i)(d9:12<=p.1[i].1):QOk p n w (Wcd w x k p.1[i]):=by
 have ho:=(ba.ok i hi).1;have hM:=hl.marks;rw[aR,Xi]at hM;have bb:stk p.1 (i+1)=stk p.1 i:=Wev hi (by omega) (by omega);have cA:x.pc+1=((i+1:Nat):Int):=by omega
 have dg:=hl.ul;have hcl:=ba.len;have ue:(0<=(WaU p.1[i]).1/\(WaU p.1[i]).1<=8)/\1<=(WaU p.1[i]).2/\(WaU p.1[i]).2<=2:=by
  grind [WaU,Wjx,Weg,Wn6,Wob,Wbh,Ws6]
 unfold Wcd;cases ha:WaY w.holds ((k:Int)+1) (WaU p.1[i]).1 (WaU p.1[i]).2 with
 |none=>exact h.st (WhW hx hl)
 |some hs=>
  have Ck:HOk hs:=by
   unfold WaY at ha;split at ha
   .injection ha with ha;subst ha;exact Wq1 h.holds (by omega) ue.1 ue.2 ‹_›
   .cases ha
  obtain⟨b1,b2,b3,b4⟩:=WqW h.shelf hl.regs ho d9;simp only[cA];refine⟨?_,h.mem,b1,Ck,by simp,λ_ hh=>.inl hh,rfl,rfl⟩;by_cases hz:(W0 w.shelf p.1[i] x.regs).2.2.1=0
  .simp only[Wb hz];exact{hx with rg:=Vals.le4 b2,live:=λ_=>RLive.on ba hl h1 hi aR (by omega) (by omega) b2 hl.reads (by omega) hl.writes (by omega) (by omega) (hM.mono bb (by omega) (by omega) (by omega)) hl.pb}
  .simp only[Wa hz];refine{hx with rg:=Vals.le4 b2,live:=λ_=>RLive.on ba hl h1 hi aR (by omega) (by omega) b2 hl.reads (by omega) hl.writes (by omega) (by simp) (hM.mono bb (by omega) (by omega) (by simp)) hl.pb,undos:=λu hu=>?_,ul:=by simp;omega};rcases Xm.1 hu with hu|hu
   .exact hx.undos u hu
   simp_all
theorem WvS(hp:POk p)(h:GOk w)(hx:ROk p n x)(h1:x.phase=1)(hk:k<=8)(hn:0<=n):QOk p n w (WfG w x k p):=by
 have hl:=hx.live (by omega);have ba:=hp.code;unfold WfG;split
 .exact WnN h hx hl.rv hk
 .obtain⟨i,hi,aR,ho⟩:=Wdc (l:=p.1) hl.pc.1 (by omega);simp only[ho];obtain⟨ok,o1,fV⟩:=ba.ok i hi;have hM:=hl.marks;rw[aR,Xi]at hM;have cA:x.pc+1=((i+1:Nat):Int):=by omega
  have dN:=hl.rl;have g0:=hl.wl;have dg:=hl.ul;rw[aR,Xi]at dN;split
  .exact h.st (Wt9 ba h hx hl h1 hi aR ‹_›)
  .split
   .grind [Wtr]
   .split
    .rename_i fA;refine h.st ?_;exact{hx with
      phase:=by simp_all
      live:=λ_=>{hl with
       fork:=λ_=>⟨by simp_all,by simp_all,WrI hl.regs hn⟩
       back:=λh=>by simp_all
       pos:=λh=>by simp_all
       unw:=λh=>by simp_all}
      comm:=λh=>by simp_all}
    .split
     .grind [Wsn]
     .split
      .refine h.st ?_;have hk:=Wwu ok ‹_›;have bb:stk p.1 (i+1)=stk p.1 i:=Wev hi (by omega) (by omega);simp only[cA];refine{hx with live:=λ_=>RLive.on ba hl h1 hi aR (by omega) (by omega) hl.regs hl.reads (by omega) (λr hr=>?_) (by simp) (by omega) (hM.mono bb (by omega) (by simp) (by omega)) hl.pb};rcases Xm.1 hr with hr|hr
       .exact hl.writes r hr
       .rw[Xaf]at hr;subst hr;have:=hk.1;unfold W8 at this;exact⟨by simp_all,hl.regs.get _⟩
      .split
       .refine h.st ?_;obtain⟨s1,s2⟩:=ba.sk i hi ‹_›;have hk:=WtB ok ‹_›;have bb:stk p.1 (i+1)=stk p.1 i:=Wev hi (by omega) (by omega);have qH:stk p.1 (i+1+p.1[i].2.2.1.toNat)=stk p.1 i:=by grind [Wk1]
        by_cases hg:Wa0 x.regs p.1[i].2.1 0=0
        .simp only[Wb hg,show x.pc+p.1[i].2.2.1+1=((i+1+p.1[i].2.2.1.toNat:Nat):Int) by omega];exact{hx with live:=λ_=>RLive.on ba hl h1 hi aR s1 (by omega) hl.regs hl.reads (by omega) hl.writes (by omega) (by omega) (hM.mono qH (by omega) (by omega) (by omega)) hl.pb}
        .simp only[Wa hg,cA];exact{hx with live:=λ_=>RLive.on ba hl h1 hi aR (by omega) (by omega) hl.regs hl.reads (by omega) hl.writes (by omega) (by omega) (hM.mono bb (by omega) (by omega) (by omega)) hl.pb}
       .split
        .refine h.st ?_;simp only[cA];rw[aR];exact{hx with live:=λ_=>RLive.on ba hl h1 hi aR (by omega) (by omega) hl.regs hl.reads (by omega) hl.writes (by omega) (by omega) (hM.begin hi ‹_› hl.regs (by omega) (by omega) (by omega)) hl.pb}
        .split
         .rename_i h9;refine h.st ?_;have hz:x.marks.length≠0:=λhz=>by
           have h1:=Wm Xb hM.pcs;simp only[Xad,hz]at h1;have h2:=WaV ba.up i (by omega);have h3:=ba.up i hi
           grind [Waq,WkV]
          obtain⟨m,q,e1,e2,⟨iP,ku⟩,e4,e5,e6,e7,e8,e9,nd,nZ,qM,qN,nf⟩:=hl.mk24 ba hz;simp only[cA];rw[e8];exact{hx with rg:=Vals.le4 (hl.regs.set _ (by omega)),live:=λ_=>RLive.on ba hl h1 hi aR (by omega) (by omega) (hl.regs.set _ (by omega)) hl.reads (by omega) hl.writes (by omega) (by omega) (hM.drop e1 (WkN hi h9) (by omega) (by omega) (by omega)) hl.pb}
         .refine h.st ?_;have bb:stk p.1 (i+1)=stk p.1 i:=Wev hi (by omega) (by omega);simp only[cA];exact{hx with rg:=Vals.le4 (Wih ok (by omega) (by omega) hl.regs),live:=λ_=>RLive.on ba hl h1 hi aR (by omega) (by omega) (Wih ok (by omega) (by omega) hl.regs) hl.reads (by omega) hl.writes (by omega) (by omega) (hM.mono bb (by omega) (by omega) (by omega)) hl.pb}
theorem Wum(h:GOk w)(hx:ROk p n x)(hu:x.phase=0)(hcl:0<=(p.1.length:Int)):QOk p n w (WfA w x k):=by
 have lY:=WO h.mem;unfold WfA;split
 .exact h.st hx
 .split
  .exact h.qt hx _
  .split
   .exact h.st hx
   .refine h.st ?_;exact{
     phase:=by simp_all
     tries:=hx.tries
     live:=λ_=>{
      pc:=by simp_all
      spare:=by simp_all
      rv:=⟨lY.2.1,lY.2.2.1⟩
      regs:=⟨rfl,λv hv=>by simp_all⟩
      reads:=λr hr=>by cases hr
      rl:=by simp;omega
      writes:=λr hr=>by cases hr
      wl:=by simp
      ul:=by simp
      marks:=⟨by simp[stk],(λq hq=>by cases hq),List.Pairwise.nil⟩
      pb:=λh=>by cases h
      fork:=λh=>by simp_all
      back:=λh=>by simp_all
      newRv:=by simp_all
      pos:=λh=>by simp_all
      unw:=λh=>by simp_all}
     comm:=λh=>by simp_all
     undos:=λu hu=>by cases hu
     ul:=by simp
     rg:=by simp
     ord:=by simp}
theorem WmA{codes:List (List Opn)}{f:Fm}(h:FOk codes n f):Weq (Wb1 f)/\(Wb1 f).length<=8:=by
 refine⟨λr hr=>?_,by unfold Wb1;rw[Xad];exact h.buf8⟩;obtain⟨e,he,rfl⟩:=Xx.1 hr;have:=h.bufE e he;omega
theorem WkH{codes:List (List Opn)}{f:Fm}(h:FOk codes n f)(h3:codes.length<=3):Vals 4 (Wee f):=by
 have hl:=h.len;have hr:=h.regs;unfold Wee;rw[Wb ⟨WbL.2 hr,by omega⟩];refine⟨by simp[hr.len];omega,λv hv=>?_⟩;rcases Xm.1 hv with hv|hv
 .obtain⟨y,hy,rfl⟩:=Xx.1 hv;unfold Wrw;split
  .rename_i hc;exact(WbL.1 hc.2).get _
  .omega
 .exact hr.val v (List.mem_of_mem_drop hv)
theorem Wva(hp:POk p)(hx:ROk p n x)(h2:x.phase=2):ROk p n (Wco x):=by
 have hl:=hx.live (by omega);have ba:=hp.code;obtain⟨f1,f2,f3⟩:=hl.fork h2;obtain⟨i,hi,aR,ho⟩:=Wdc (l:=p.1) hl.pc.1 f1;rw[ho]at f2;have hM:=hl.marks;have dN:=hl.rl;have dg:=hl.ul;rw[aR,Xi]at hM dN;unfold Wco;split
 .exact Wfi hx
 .split
  .have hz:x.marks= []:=by
    have h1:=Wm Xb hM.pcs;simp only[Xad]at h1;have h3:=WaV ba.up i (by omega);have h4:=(ba.fk i hi f2).1;simp_all
   have bb:stk p.1 (i+1)=stk p.1 i:=Wev hi (by omega) (by omega);have Cn:=WmA f3;have qI:=f3.len3 hp.k3;have Co:=f3.readsL;have ug:frk p.1 (i+1)=frk p.1 i+1:=by grind [Wc1]
   exact{hx with
    phase:=by simp_all
    rg:=(WkH f3 hp.k3).le4
    ord:=qI
    live:=λ_=>{hl with
     pc:=by grind
     regs:=WkH f3 hp.k3
     reads:=λr hr=>by
      rcases Xm.1 hr with hr|hr
      .exact hl.reads r hr
      .exact f3.readsE r hr
     rl:=by
      grind
     writes:=Cn.1
     wl:=by grind
     ul:=by grind
     marks:=by
      show RMk p.1 (x.pc+1).toNat x.marks _ _ _;rw[show(x.pc+1).toNat=i+1 by omega];rw[hz]at hM⊢;exact⟨by rw[bb];exact hM.pcs,(λq hq=>by cases hq),List.Pairwise.nil⟩
     fork:=λh=>by simp_all
     back:=λh=>by simp_all
     pos:=λh=>by simp_all
     unw:=λh=>by simp_all}
    comm:=λh=>by simp_all}
  .exact hx
theorem WqN(hp:POk p)(h:GOk w)(hx:ROk p n x)(h3:x.phase=3):QOk p n w (WbT w x):=by
 have hl:=hx.live (by omega);have hz:=hl.back (.inl h3);obtain⟨m,q,e1,e2,⟨iP,ku⟩,e4,e5,e6,e7,e8,e9,nd,nZ,qM,qN,nf⟩:=hl.mk24 hp.code hz;have lY:=WO h.mem;unfold WbT;split
 .exact Wlz h hx (by omega) λ_=>⟨hp.code,λ_=>by omega⟩
 .refine h.st ?_;exact{hx with
   phase:=by simp_all
   live:=λ_=>{hl with
    fork:=λh=>by simp_all
    back:=λ_=>hz
    newRv:=⟨lY.2.1,lY.2.2.1⟩
    pos:=λ_=>by(show(0:Int)<=0/\(0:Int)<=x.last.2.1;omega)
    unw:=λ_=>by(show(x.undos.length:Int)<=x.last.2.2.2.1;omega)}
   comm:=λh=>by simp_all}
theorem Wq9(hp:POk p)(h:GOk w)(hx:ROk p n x)(h4:x.phase=4):ROk p n (Wbq w x):=by
 have hl:=hx.live (by omega);have hz:=hl.back (.inr h4);have cJ:=hl.pos h4;obtain⟨m,q,e1,e2,⟨iP,ku⟩,e4,e5,e6,e7,e8,e9,nd,nZ,qM,qN,nf⟩:=hl.mk24 hp.code hz;unfold Wbq;split
 .simp only;split
  .exact Wfi hx
  .exact{hx with live:=λ_=>{hl with pos:=λ_=>by(show 0<=x.pos+1/\x.pos+1<=x.last.2.1;omega)}}
 .rename_i fB;have bb:stk p.1 (m+1)=stk p.1 x.pc.toNat:=by
   have Cp:=hl.pc;rw[WjH iP ku,e7];rcases Wa8 (stk p.1 x.pc.toNat)with h0|⟨t,j,ht⟩
   .have h1:=Wm Xb hl.marks.pcs;simp_all
   .have h1:=hl.marks.pcs;rw[e1,ht]at h1;simp only[Xu,Xag,List.map_nil]at h1;have h2:=(List.append_inj' h1 rfl).2;injection h2 with h2;rw[e2]at h2;rw[ht,List.dropLast_concat,show m=j by omega]
  have vS:=WgJ p.1 (show m<=m+1 by omega);rw[e2,Xi]at nd;have cA:x.last.1+1=((m+1:Nat):Int):=by omega
  have t1:(Xal x.last.2.1.toNat x.reads).length=x.last.2.1.toNat:=by simp_all
  have t2:(Xal x.last.2.2.1.toNat x.writes).length=x.last.2.2.1.toNat:=by simp_all
  exact{hx with
   phase:=by simp_all
   rg:=e9.le4
   live:=λ_=>{hl with
    pc:=by grind
    rv:=hl.newRv
    regs:=e9
    reads:=λr hr=>hl.reads r (Xbf hr)
    rl:=by
     grind
    writes:=λr hr=>hl.writes r (Xbf hr)
    wl:=by grind
    ul:=by
     show(x.undos.length:Int)<=x.last.1+1;have:=hl.unw h4;omega
    marks:=by
     show RMk p.1 (x.last.1+1).toNat x.marks (Xal x.last.2.1.toNat x.reads).length (Xal x.last.2.2.1.toNat x.writes).length x.undos.length;rw[cA,Xi,t1,t2];exact(hl.marks.cut e1 (by omega) (by omega) nf).mono bb (Xn _) (Xn _) (Xn _)
    fork:=λh=>by simp_all
    back:=λh=>by omega
    newRv:=by simp_all
    pos:=λh=>by simp_all
    unw:=λh=>by simp_all}
   comm:=λh=>by simp_all}
end
end
section
section
variable{N:Nat}{w:Wo}{k:Nat}{x:Rt}{p:Pg}{n:Int}{ps:List Pg}
theorem Wq8(h:GOk w)(hx:ROk p n x)(h5:x.phase=5)(hk:k<=8):QOk p n w (WaW w x k):=by
 have hc:=hx.comm h5;unfold WaW;split
 .split
  .exact h.st (Wfi hx)
  .refine h.st ?_;exact{hx with live:=λhh=>by simp_all,comm:=λ_=>Wq7 hc}
 .have bb:=Wnf hc h.mem;obtain⟨m',c',hq⟩:∃m' c',WD w.mem x.cm=(m',c'):=⟨_,_,rfl⟩;simp only[hq]at bb⊢;refine⟨?_,bb.2,h.shelf,h.holds,?_,?_,rfl,rfl⟩
  .have hy:ROk p n {x with cm:=c'}:={hx with live:=λhh=>by simp_all,comm:=λ_=>bb.1};unfold WcL;simp only;split
   .exact Wfi hy
   .split
    .have bX:(if x.fate=2 then(6:Int)else 7)=6\/(if x.fate=2 then(6:Int)else 7)=7:=by split<;>simp
     generalize (if x.fate=2 then(6:Int)else 7)=ph at*;exact{hx with
      phase:=by grind
      live:=λhh=>by grind
      comm:=λhh=>by simp_all}
    .exact hy
  .simp only;split<;>simp
  .simp only;intro h hh;split at hh
   .rcases Xm.1 hh with hh|hh
    .grind
    .rw[Xaf]at hh;subst hh;exact .inr ⟨bb.1.plen,bb.1.rows,by grind,by grind⟩
   simp_all
theorem Wif(hp:POk p)(h:GOk w)(hx:ROk p n x)(hk:k<=8)(hn:0<=n):QOk p (n+1) w (Wan w x k p):=by
 have lX:=hx.wk (show n<=n+1 by omega);unfold Wan;by_cases hd:x.doomed=true/\1<=x.phase/\x.phase<=4
 .rw[Wb hd];exact h.st (Wfi lX)
 rw[Wa hd];by_cases h0:x.phase=0
 .simp_all [Wb,Wum]
 rw[Wa h0];by_cases h1:x.phase=1
 .rw[Wb h1];grind [WvS]
 rw[Wa h1];by_cases h2:x.phase=2
 .rw[Wb h2];exact h.st (Wva hp lX h2)
 rw[Wa h2];by_cases h3:x.phase=3
 .simp_all [Wb,WqN]
 rw[Wa h3];by_cases h4:x.phase=4
 .rw[Wb h4];exact h.st (Wq9 hp h lX h4)
 rw[Wa h4];by_cases h5:x.phase=5
 .simp_all [Wb,Wq8]
 rw[Wa h5];by_cases h6:x.phase=6
 .rw[Wb h6];by_cases hz:x.undos.length>0
  .rw[Wb hz];grind [Wlz]
  .rw[Wa hz];refine h.st ?_;exact{lX with
    phase:=by simp_all
    live:=λhh=>by simp_all
    comm:=λhh=>by simp_all}
 rw[Wa h6];by_cases h7:x.phase=7
 .rw[Wb h7];have hg:GOk {w with holds:=Wab w.holds ((k:Int)+1)}:=⟨h.mem,h.shelf,Wje h.holds⟩;by_cases hf:x.fate=0
  .rw[Wb hf];refine⟨?_,h.mem,h.shelf,Wje h.holds,by simp,λ_ hh=>.inl hh,rfl,rfl⟩;exact{
    phase:=by simp_all
    tries:=by have:=hx.tries;grind
    live:=λhh=>by simp_all
    comm:=λhh=>by simp_all
    undos:=λu hu=>by cases hu
    ul:=by simp
    rg:=by simp
    ord:=by simp}
  .rw[Wa hf];have:=Wsd (k:=k) hg lX;exact⟨this.root,this.mem,this.shelf,this.holds,this.hist,this.histE,this.roots,this.now⟩
 .rw[Wa h7];exact h.st lX
theorem WuE(hk:k<w.roots.length)(bg:w.roots[k]=x)(ng:w.roots.length<=8)(hp:POk p)(h:GOk w)(hx:ROk p n x)(hn:n<=200000)(hh:w.hist.length<=500000)(hN:1048576<N):
  Zg9 N w.e (k:Int) p=some (((Wo.put (Wan w x k p) k).e,()),()):=by
 obtain⟨g1,g2,g3,g4,g5⟩:=woG hk bg;obtain⟨r0,r1,r2,r3,r4,r5,r6,r7,r8,kX,kq,jw,jx,jV,jW,lR,lS,kY,kZ,lT,lU,lV⟩:=rtP x;have Ah:k<=8:=by omega
 have ir:=Wpt hk bg;have rH:=hx.tries;have Cq:=hx.ul;have vr:=Wlo h.holds;unfold Zg9 Wan;simp only[WA];rw[show P5 w.e=w.roots.map Rt.e from rfl,g4,g2,Wc2 (by omega),Wc2 (show 0<=x.e.2.1/\x.e.2.1<=1000000 by omega)];simp(maxSteps:=4000000) only[g3,r0,r7,kX,jW,We,W5,ret,Xd,Wfe,WC,WaP,show w.e.2.2.1.1=w.mem.1 from rfl,Wi,show P4 w.e=w.holds from rfl];rw[Wib h.holds (by omega) hN];simp only[ret,Xd];have hS4:S4 (Wab w.holds ((k:Int)+1)) w.e=Wo.e {w with holds:=Wab w.holds ((k:Int)+1)}:=rfl;have Cr:S5 (Xg (w.roots.map Rt.e) (Xa (k:Int)) x.e) (S4 (Wab w.holds ((k:Int)+1)) w.e)=Wo.e {w with holds:=Wab w.holds ((k:Int)+1)}:=(woG (w:={w with holds:=Wab w.holds ((k:Int)+1)}) hk bg).2.2.1;rw[Cr,WrS (w:={w with holds:=Wab w.holds ((k:Int)+1)}) hk bg (by omega),Wuc hk bg ng hN];have ig:∀(A:Option ((Y_World×Unit)×Unit)),A=some (((Wo.put (
   if x.phase=0 then WfA w x k else
   if x.phase=1 then WfG w x k p else
   if x.phase=2 then(w,Wco x)else
   if x.phase=3 then WbT w x else
   if x.phase=4 then(w,Wbq w x)else
   if x.phase=5 then WaW w x k else
   if x.phase=6 then(if x.undos.length>0 then Wd1 w x else(w,{x with phase:=7}))else
   if x.phase=7 then
    (if x.fate=0 then({w with holds:=Wab w.holds ((k:Int)+1)},{tries:=x.tries+1})
     else WjE {w with holds:=Wab w.holds ((k:Int)+1)} x k)
   else(w,x)) k).e,()),())->¬(x.doomed=true/\1<=x.phase/\x.phase<=4)->A=some (((Wo.put (
   if x.doomed=true/\1<=x.phase/\x.phase<=4 then(w,WdA x)else
   if x.phase=0 then WfA w x k else
   if x.phase=1 then WfG w x k p else
   if x.phase=2 then(w,Wco x)else
   if x.phase=3 then WbT w x else
   if x.phase=4 then(w,Wbq w x)else
   if x.phase=5 then WaW w x k else
   if x.phase=6 then(if x.undos.length>0 then Wd1 w x else(w,{x with phase:=7}))else
   if x.phase=7 then
    (if x.fate=0 then({w with holds:=Wab w.holds ((k:Int)+1)},{tries:=x.tries+1})
     else WjE {w with holds:=Wab w.holds ((k:Int)+1)} x k)
   else(w,x)) k).e,()),()):=λA hA hn=>by grind
 have uh:(if x.phase=0 then(some (((Wo.put (WfA w x k) k).e,()),()):Option ((Y_World×Unit)×Unit)).bind (λo6=>some ((o6.1.1,()),()))
   else if x.phase=1 then(Zht N w.e (k:Int) p).bind (λo7=>some ((o7.1.1,()),()))
   else if x.phase=2 then(Zhu N x.e).bind (λo8=>some ((S5 (Xg (w.roots.map Rt.e) (Xa (k:Int)) o8.1.1) w.e,()),()))
   else if x.phase=3 then(Zdr N x.e).bind (λo9=>if(x.undos.length:Int)>o9.2.1.2.2.2 then(Zcd N w.e (Xa (k:Int))).bind (λch=>some ((ch.1.1,()),()))else some ((S5 (Xg (w.roots.map Rt.e) (Xa (k:Int)) (S6 0 (S5 w.mem.1 (S0 4 x.e)))) w.e,()),()))
   else if x.phase=4 then(Zfz N w.e (Xa (k:Int))).bind (λgr=>some ((gr.1.1,()),()))
   else if x.phase=5 then(Zf0 N w.e (k:Int)).bind (λdD=>some ((dD.1.1,()),()))
   else if x.phase=6 then(if(x.undos.length:Int)>0 then(Zcd N w.e (Xa (k:Int))).bind (λcL=>some ((cL.1.1,()),()))else some ((S5 (Xg (w.roots.map Rt.e) (Xa (k:Int)) (7,x.e.2)) w.e,()),()))
   else if x.phase=7 then(if x.fate=0 then some ((S5 (Xg (w.roots.map Rt.e) (Xa (k:Int)) ((0:Int),(x.e.2.1+1,((0:Int),((0:Int),((0:Int),((0:Int),((0:Int),((0:Int),((0:Int),((0:Int),((0:Int),(false,(([]:List Int),(([]:List Kc),(([]:List Kc),(([]:List Kk),(([]:List Kb),(([]:List Int),(false,(((0:Int),((0:Int),((0:Int),(0:Int)))),(((0:Int),((0:Int),((0:Int),((0:Int),((0:Int),(([]:List Kc),([]:List Int))))))),d_Family)))))))))))))))))))))) (S4 (Wab w.holds ((k:Int)+1)) w.e),()),())else(some (((Wo.put (WjE {w with holds:=Wab w.holds ((k:Int)+1)} x k) k).e,()),()):Option ((Y_World×Unit)×Unit)).bind (λeV=>some ((eV.1.1,()),())))
   else some ((w.e,()),()))=some (((Wo.put (
   if x.phase=0 then WfA w x k else
   if x.phase=1 then WfG w x k p else
   if x.phase=2 then(w,Wco x)else
   if x.phase=3 then WbT w x else
   if x.phase=4 then(w,Wbq w x)else
   if x.phase=5 then WaW w x k else
   if x.phase=6 then(if x.undos.length>0 then Wd1 w x else(w,{x with phase:=7}))else
   if x.phase=7 then
    (if x.fate=0 then({w with holds:=Wab w.holds ((k:Int)+1)},{tries:=x.tries+1})
     else WjE {w with holds:=Wab w.holds ((k:Int)+1)} x k)
   else(w,x)) k).e,()),()):=by
  rw[Xi];by_cases h0:x.phase=0
  .simp_all
  .rw[Wa h0,Wa h0];by_cases h1:x.phase=1
   .rw[Wb h1,Wb h1,WvR hk bg Ah hp (hx.live (by omega)) hx.undos h.mem h.shelf h.holds hN];rfl
   .rw[Wa h1,Wa h1];by_cases h2:x.phase=2
    .rw[Wb h2,Wb h2,Wut hp (hx.live (by omega)) h2 hN];exact Wdp rfl rfl rfl
    .rw[Wa h2,Wa h2];by_cases h3:x.phase=3
     .have hl:=hx.live (by omega);obtain⟨z1,z2,z3,z4,z5,z6⟩:=hl.sz hp.code;rw[Wb h3,Wb h3,WmD (hl.back (.inl h3)) (by omega)];simp only[Xd];have cG:=(hl.mk24 hp.code (hl.back (.inl h3)));obtain⟨m,q,e1,e2,_,_,_,_,_,_,_,_,_,nf⟩:=cG;unfold WbT;by_cases hgt:(x.undos.length:Int)>x.last.2.2.2.1
      .rw[Wb hgt,Wb hgt,Wlu hk bg (by omega) (by omega) hx.undos h.shelf hN];rfl
      .rw[Wa hgt,Wa hgt];exact Wdp rfl rfl rfl
     .rw[Wa h3,Wa h3];by_cases h4:x.phase=4
      .rw[Wb h4,Wb h4,Wq0 hk bg hp (hx.live (by omega)) h4 h.mem];rfl
      .rw[Wa h4,Wa h4];by_cases h5:x.phase=5
       .rw[Wb h5,Wb h5,Wq5 hk bg Ah (hx.comm h5) h.mem hh hN];rfl
       .rw[Wa h5,Wa h5];by_cases h6:x.phase=6
        .rw[Wb h6,Wb h6];by_cases hz:x.undos.length>0
         .rw[Wb (by omega),Wb hz,Wlu hk bg (by omega) (by omega) hx.undos h.shelf hN];rfl
         .rw[Wa (by omega),Wa hz];exact Wdp rfl rfl rfl
        .rw[Wa h6,Wa h6];by_cases h7:x.phase=7
         .rw[Wb h7,Wb h7];by_cases hf:x.fate=0
          .rw[Wb hf,Wb hf,hS4];exact Wdp (w:=w) (w':={w with holds:=Wab w.holds ((k:Int)+1)}) (x':={tries:=x.tries+1}) rfl rfl rfl
          .rw[Wa hf,Wa hf];rfl
         simp_all
 rw[Wic];by_cases hd:x.doomed=true
 .rw[Wb hd];by_cases bX:1<=x.phase/\x.phase<=4
  .rw[Wf bX.1,Wf bX.2,Wb (show x.doomed=true/\1<=x.phase/\x.phase<=4 from⟨hd,bX⟩),Xi];exact Wdp rfl rfl rfl
  .have hb:(decide (1<=x.phase)&&decide (x.phase<=4))=false:=by
    rw[Xdz,Wv,Wv];omega
   rw[hb];exact ig _ uh (λhc=>bX hc.2)
 grind
end
end
section
noncomputable def Wmy(p:Pg):Bool:=p.2.all WcE&&(WpC p.1&&(decide (p.2.length<=3)&&beq (p.1.any λo=>o.1==11) (decide (p.2.length>0))))
noncomputable def Wp9(s:Sc):Bool:=Wrt s.1&&(decide (s.2.1.length<=4)&&(decide (s.2.2.length<=400)&&s.2.1.all Wmy))
structure PB(p:Pg):Prop where
 code:p.1.length<=1000
 kids:p.2.length<=1000
 each:∀c∈p.2,c.length<=1000
structure SB(s:Sc):Prop where
 cells:s.1.1.length<=100
 map:s.1.2.1.length<=100
 progs:s.2.1.length<=100
 each:∀p∈s.2.1,PB p
 acts:s.2.2.length<=1000
variable{N:Nat}{s:Sc}{p:Pg}{w:Wo}{n:Int}{a:Ac}
theorem Wsg(h:Wmy p=true):POk p:=by
 unfold Wmy at h;simp only[Xj,Xah,Wh]at h;exact⟨WwW h.2.1,λc hc=>Wxw (h.1 c hc),h.2.2.1⟩
theorem WkY(h:Wp9 s=true):ThOk s.1/\s.2.1.length<=4/\s.2.2.length<=400/\∀p∈s.2.1,POk p:=by
 simp_all [Wp9,Xj,Xah,Wh,WpL,Wsg]
theorem Wol{α:Type}(l:List α)(k:Nat):decide ((Wi l)<=(k:Int))=decide (l.length<=k):=by
 simp[Wi,Wf,Wu]
theorem Woh{α:Type}(l:List α)(k:Nat):decide ((Wi l)>(k:Int))=decide (l.length>k):=by
 simp[Wi,Wf,Wu]
theorem WsE(l k:Nat):decide (l>k)= !decide (l<=k):=by
 grind
theorem WmO{l:List Opn}(hl:l.length<=1048576)(hN:1048576<N):Zhg N l=ret (l.any λo=>o.1==11):=by
 unfold Zhg Zax Z4;have h1:=Wlq (l:=l) (p:=λo=>o.1==11) (N:=N) (lp:=λn j=>Zq N l (λaX=>(some ((),(aX,())))) (λaT bi=>(some ((),((-1:Int),())))) n j) (K0:=λj=>some ((),(j,()))) (K1:=some ((),((-1:Int),()))) (by omega) (by omega)
  (λn j hj=>by
   simp only[Zq,W2 hj,Wq hj,Wt hj,Wp (show j<4611686018427387904 by omega),We,Znb,Xd])
  (λn=>by simp[Zq,Wat,Xn,Wc])
 rw[h1];have h2:=WlC (p:=λo:Opn=>o.1==11) l 0;cases hf:fnd (λo:Opn=>o.1==11) l 0 with
 |some r=>
  simp_all
 |none=>
  grind
theorem WhM(h:PB p)(hN:1048576<N):Zg5 N p=ret (Wmy p):=by
 have hc:=h.code;have hk:=h.kids;unfold Zg5 Wmy;have h1:=WR (l:=p.2) (V:=Unit) (R:=Unit×Kq) (lp:=λn j v=>Zde N p.2 p (some ((),(false,()))) (λaX aT=>
  ((Zc0 N p.1).bind λcL=>
 (bif cL.2.1 then
 (bif decide ((Wi p.2)<=(3:Int))then
 ((Zhg N p.1).bind λdq=>
 (some ((),(beq dq.2.1 (decide ((Wi p.2)>(0:Int))),()))))
 else
 (some ((),(false,()))))
 else
 (some ((),(false,())))))) n j) (n:=N) (by omega)
  (body:=λj x v k=>(Zho N x).bind λo=>bif !o.2.1 then some ((),(false,()))else k v) (K:=λ_ v=>((Zc0 N p.1).bind λcL=>
 (bif cL.2.1 then
 (bif decide ((Wi p.2)<=(3:Int))then
 ((Zhg N p.1).bind λdq=>
 (some ((),(beq dq.2.1 (decide ((Wi p.2)>(0:Int))),()))))
 else
 (some ((),(false,()))))
 else
 (some ((),(false,()))))))
  (λn i v hi=>by simp only[Zde,W2 hi,Wq hi,Wt hi,Wp (show i<4611686018427387904 by omega),We])
  (λn v=>by simp[Zde,Wat,Xn,Wc]) ()
 refine h1.trans ?_;rw[WaK (p:=λx=>!WcE x) (E:=λ_=>some ((),(false,()))) p.2 0 () (λj x v k hx=>by rw[WoU (by have:=h.each x hx;omega) hN];rfl),WcP,WhG (by omega) hN,WmO (by omega) hN];simp only[ret,Xd];rw[show(3:Int)=((3:Nat):Int)from rfl,Wol,show(0:Int)=((0:Nat):Int)from rfl,Woh];cases p.2.all WcE<;>cases WpC p.1<;>cases decide (p.2.length<=3)<;>rfl
theorem WhJ(h:PB p)(hN:1048576<N):Zg4 N p=ret (Wmy p):=by
 have hc:=h.code;have hk:=h.kids;unfold Zg4 Wmy;have h1:=WR (l:=p.2) (V:=Unit) (R:=Unit×Kq) (lp:=λn j v=>Zcc N p (some ((),(false,()))) (λjK aX=>(some ((),(true,())))) n j) (n:=N) (by omega)
  (body:=λj x v k=>(Zhn N x).bind λo=>bif !o.2.1 then some ((),(false,()))else k v) (K:=λ_ v=>some ((),(true,())))
  (λn i v hi=>by simp only[Zcc,W2 hi,Wq hi,Wt hi,Wp (show i<4611686018427387904 by omega),We])
  (λn v=>by simp[Zcc,Wat,Xn,Wc]) ()
 have h2:Zcc N p (some ((),(false,()))) (λjK aX=>(some ((),(true,())))) N 0=ret (p.2.all WcE):=by
  refine h1.trans ?_;rw[WaK (p:=λx=>!WcE x) (E:=λ_=>some ((),(false,()))) p.2 0 () (λj x v k hx=>by rw[Wo2 (by have:=h.each x hx;omega) hN];rfl),WcP];cases p.2.all WcE<;>rfl
 rw[h2,WhS (by omega) hN,Wh3 (by omega) hN];simp only[ret,Xd];rw[show(3:Int)=((3:Nat):Int)from rfl,Woh,WsE,show(0:Int)=((0:Nat):Int)from rfl,Woh];generalize beq (p.1.any λo=>o.1==11) (decide (p.2.length>0))=b;cases p.2.all WcE<;>cases WpC p.1<;>cases decide (p.2.length<=3)<;>cases b<;>rfl
theorem WfI{t:List Int×List Int×Int}(h1:t.1.length<=1048576)(h2:t.2.1.length<=1048576)(hN:1048576<N):Ze5 N t=ret (Wrt t):=by
 unfold Ze5 Wrt WnB;have e:((Wi t.2.1) !=(8:Int))= !decide (t.2.1.length=8):=by
  grind [Wi]
 have h3:=WR (l:=t.2.1) (V:=Unit) (R:=Unit×Kq) (lp:=λn j v=>Zbr N t (some ((),(false,()))) (λjK aX=>(some ((),(true,())))) n j) (n:=N) (by omega)
  (body:=λj x v k=>bif !(decide (0<=x)&&decide (x<=65536))then some ((),(false,()))else k v) (K:=λ_ v=>some ((),(true,())))
  (λn i v hi=>by simp only[Zbr,W2 hi,Wq hi,Wt hi,Wp (show i<4611686018427387904 by omega),We,WqD,ret,Xd])
  (λn v=>by simp[Zbr,Wat,Xn,Wc]) ()
 have h4:Zbr N t (some ((),(false,()))) (λjK aX=>(some ((),(true,())))) N 0=ret (t.2.1.all λx=>decide (0<=x)&&decide (x<=65536)):=by
  refine h3.trans ?_;rw[WaK (p:=λx=>!(decide (0<=x)&&decide (x<=65536))) (E:=λ_=>some ((),(false,()))) t.2.1 0 () (λj x v k _=>rfl),WcP];cases t.2.1.all _<;>rfl
 rw[WmS h1 hN,e,WdR,h4];cases WdL t.1<;>cases decide (t.2.1.length=8)<;>cases Wby t.2.2<;>cases t.2.1.all _<;>rfl
theorem WfM(h:SB s)(hN:1048576<N):Zim N s=ret (Wp9 s):=by
 have h1:=h.cells;have h2:=h.map;have h3:=h.progs;unfold Zim Wp9 Zal Zx;have h4:=WR (l:=s.2.1) (V:=Unit) (R:=Unit×Kj) (lp:=λn j v=>Zg N s.2.1 (λaX=>(some ((),(aX,())))) (λaT bi=>(some ((),((-1:Int),())))) n j) (n:=N) (by omega)
  (body:=λj x v k=>(Zi6 N x).bind λo=>bif o.2.1 then some ((),(j,()))else k v) (K:=λ_ v=>some ((),((-1:Int),())))
  (λn i v hi=>by simp only[Zg,W2 hi,Wq hi,Wt hi,Wp (show i<4611686018427387904 by omega),We])
  (λn v=>by simp[Zg,Wat,Xn,Wc]) ()
 have h5:((Zg N s.2.1 (λaX=>(some ((),(aX,())))) (λaT bi=>(some ((),((-1:Int),())))) N 0).bind λo2=>some ((),(decide (o2.2.1>=(0:Int)),())))=ret (!s.2.1.all Wmy):=by
  have h6:=h4;rw[h6,Wgj (p:=λx=>!Wmy x) (E:=λj _=>some ((),(j,()))) s.2.1 0 () (λj x v k hx=>by unfold Zi6;rw[WhM (h.each x hx) hN];rfl)];have h7:=WlC (p:=λx=>!Wmy x) s.2.1 0;rw[WcP]at h7;rw[←h7];cases hf:fnd (λx=>!Wmy x) s.2.1 0 with
  |some r=>simp_all
  |none=>rfl
 rw[WfD (by omega) (by omega) hN];simp only[ret,Xd];rw[h5,show(4:Int)=((4:Nat):Int)from rfl,Wol,show(400:Int)=((400:Nat):Int)from rfl,Wol];cases Wrt s.1<;>cases decide (s.2.1.length<=4)<;>cases decide (s.2.2.length<=400)<;>cases s.2.1.all Wmy<;>rfl
end
section
variable{N:Nat}{s:Sc}{p:Pg}{w:Wo}{n:Int}{a:Ac}{k:Nat}
theorem Wka{ps:List Pg}(h:∀p∈ps,POk p)(hk:k<ps.length):POk (ps.getD k pg0):=by
 grind
theorem WOk.tick(h:WOk s.2.1 n w):WOk s.2.1 (n+1) {w with now:=w.now+1}:=
 {h with now:=by(have:=h.now;simp_all),n0:=by have:=h.n0;omega,hist:=by(have:=h.hist;grind),root:=λk hk=>(h.root k hk).wk (by omega)}
theorem WOk.putQ{q:Wo×Rt}{w0:Wo}(h:WOk s.2.1 (n+1) {w0 with now:=w0.now+1})(hh:(w0.hist.length:Int)<=n)(hk:k<w0.roots.length)(hq:QOk (s.2.1.getD k pg0) (n+1) {w0 with now:=w0.now+1} q):WOk s.2.1 (n+1) (Wo.put q k):=by
 have hr:q.1.roots=w0.roots:=hq.roots;exact{
  len:=by show(q.1.roots.set k q.2).length=_;rw[Xy,hr];exact h.len
  l4:=h.l4
  progs:=h.progs
  now:=hq.now.trans h.now
  n0:=h.n0
  mem:=hq.mem
  shelf:=hq.shelf
  holds:=hq.holds
  histE:=λe he=>(hq.histE e he).elim (h.histE e) id
  hist:=by have:=hq.hist;show(q.1.hist.length:Int)<=n+1;grind
  root:=λi hi=>by
   change i<(q.1.roots.set k q.2).length at hi;rw[Xy,hr]at hi;show ROk _ _ ((q.1.roots.set k q.2)[i]);rw[Xam];by_cases he:k=i
   .subst he;rw[Wb rfl];exact hq.root
   .rw[Wa he];have:=h.root i hi;simp_all}
theorem WeG(h:WOk s.2.1 n w):WOk s.2.1 (n+1) (WhB s w a):=by
 have ht:=h.tick;unfold WhB;simp only;split
 .rename_i hb;have hk:a.2.1.toNat<w.roots.length:=by omega
  have hx:=ht.root a.2.1.toNat hk;have m9:=h.root a.2.1.toNat hk;have hg:GOk {w with now:=w.now+1}:=⟨h.mem,h.shelf,h.holds⟩;have hp:=Wka h.progs (show a.2.1.toNat<s.2.1.length by rw[←h.len];exact hk);have ng:w.roots.length<=4:=by rw[h.len];exact h.l4
  rw[Wn hk];split
  .unfold WmG;rw[Wn (show a.2.1.toNat<({w with now:=w.now+1}:Wo).roots.length from hk)];exact ht.putQ h.hist hk (Wif hp hg m9 (by omega) h.n0)
  .split
   .split
    .rename_i hf;refine ht.putQ h.hist hk (hg.st ?_);have hl:=m9.live (by omega);obtain⟨f1,f2,f3⟩:=hl.fork hf.1;have hj:a.2.2.toNat<(s.2.1.getD a.2.1.toNat pg0).2.length:=by omega
     have ka:a.2.2.toNat<w.roots[a.2.1.toNat].fam.kids.length:=by rw[f3.len];exact hj
     have aU:KC ((s.2.1.getD a.2.1.toNat pg0).2.getD a.2.2.toNat []):=by rw[Wn hj];exact hp.kids _ (Xw hj)
     exact{hx with live:=λ_=>{hl.wk (show n<=n+1 by omega)with fork:=λ_=>⟨f1,f2,Wgv ka h.mem aU f3 rfl⟩}}
    .exact ht
   .split
    .split
     .refine ht.putQ h.hist hk (hg.st ?_);exact{hx with live:=λhh=>{hx.live hh with}}
     .exact ht
    .exact ht
 .exact ht
theorem WoZ(h:WOk s.2.1 n w)(hn:n<=99999)(hN:1048576<N):Zf6 N w.e s a=some (((WhB s w a).e,()),()):=by
 have ht:=h.tick;have qO:=h.now;have vg:=h.n0;have ng:w.roots.length<=4:=by rw[h.len];exact h.l4
 unfold Zf6 WhB;simp only[WA];rw[show P5 w.e=w.roots.map Rt.e from rfl,show w.e.1=w.now from rfl,Wc2 (by omega)];have hlen:Wi (w.roots.map Rt.e)=(w.roots.length:Int):=by unfold Wi;simp
 rw[hlen,Wah (by unfold I64;omega)];simp only[W5,ret,Xd];by_cases hb:0<=a.2.1/\a.2.1<w.roots.length
 .rw[Wb hb,Wf hb.1,Wf (show a.2.1<=(w.roots.length:Int) -1 by omega)];obtain⟨k,Cs⟩:∃k:Nat,a.2.1=k:=⟨a.2.1.toNat,by omega⟩;have hk:k<w.roots.length:=by omega
  obtain⟨x,bg⟩:∃x,w.roots[k]=x:=⟨_,rfl⟩;have hx:=h.root k hk;rw[bg]at hx;have l0:k<s.2.1.length:=by rw[←h.len];exact hk
  have hp:=Wka h.progs l0;obtain⟨g1,g2,g3,g4,g5⟩:=woG hk bg;obtain⟨r0,r1,r2,r3,r4,r5,r6,r7,r8,kX,kq,jw,jx,jV,jW,lR,lS,kY,kZ,lT,lU,lV⟩:=rtP x;have ir:∀y:Rt,(w.now+1,S4 (Xg (w.roots.map Rt.e) k y.e) w.e.2)=Wo.e (Wo.put ({w with now:=w.now+1},y) k):=λy=>by
   unfold Wo.put Wo.e;simp only[List.map_set];rfl
  have bF:Wo.put ({w with now:=w.now+1},x) k={w with now:=w.now+1}:=by unfold Wo.put;simp only;rw[←bg,Xap]
  simp only[Cs,Xi,Xbo,Xv,Wc];rw[g1,g4,Wn hk,bg];simp only[We,r0,kY,kZ,ir,bF,show w.e.2.2.1=w.mem from rfl];rw[W9,Wf l0];have Ct:Xc s.2.1 k (([]:List Ka),([]:List Kab))=s.2.1.getD k pg0:=rfl;rw[Ct];generalize gU:s.2.1.getD k pg0=p at*;have hg:GOk {w with now:=w.now+1}:=⟨h.mem,h.shelf,h.holds⟩;simp only[We,WC];have bb:Zg9 N (Wo.e {w with now:=w.now+1}) (k:Int) p=some (((Wo.put (Wan {w with now:=w.now+1} x k p) k).e,()),()):=
   WuE (w:={w with now:=w.now+1}) hk bg (by grind) hp hg hx (by omega) (by have:=h.hist;grind) hN
  rw[bb];by_cases h1:a.1=1
  .simp_all [Wb,WmG,Wn,Xd]
  .rw[Wa h1,Wa h1];by_cases h2:a.1=2
   .rw[Wb h2,Wb h2];by_cases hf:x.phase=2
    .rw[Wb hf,Wah (by have:=hp.k3;unfold I64 Wi;omega),show Wi p.2=(p.2.length:Int)from rfl];by_cases hj:0<=a.2.2/\a.2.2<p.2.length
     .rw[Wf hj.1,Wf (show a.2.2<=(p.2.length:Int) -1 by omega),Wb (show x.phase=2/\0<=a.2.2/\a.2.2<p.2.length from⟨hf,hj⟩)];obtain⟨j,qW⟩:∃j:Nat,a.2.2=j:=⟨a.2.2.toNat,by omega⟩;have hj':j<p.2.length:=by omega
      simp only[qW,Xi,Xbo,We];rw[W9,Wf hj'];obtain⟨f1,f2,f3⟩:=(hx.live (by omega)).fork hf;have aU:KC (p.2.getD j []):=by rw[Wn hj'];exact hp.kids _ (Xw hj')
      rw[Wlr (code:=p.2.getD j []) (by rw[f3.len];exact hj') (by rw[f3.len];exact hp.k3) h.mem aU f3 rfl (by omega) hN];simp only[Xd,We];have:U21 (Wax w.mem x.fam j (p.2.getD j [])).e x.e=Rt.e {x with fam:=Wax w.mem x.fam j (p.2.getD j [])}:=rfl
      grind [WxA]
     grind
    simp_all
   .rw[Wa h2,Wa h2];by_cases h3:a.1=3
    .rw[Wb h3,Wb h3];have hd:S11 true x.e=Rt.e {x with doomed:=true}:=rfl;simp only[hd,ir,show(Cm.e x.cm).2.2.1=x.cm.phase from rfl,WaP]
     grind
    simp_all
 .rw[Wa hb];have vf:(decide (0<=a.2.1)&&decide (a.2.1<=(w.roots.length:Int) -1))=false:=by
   rw[Xdz,Wv,Wv];omega
  rw[vf];rfl
theorem WnV(h:Wp9 s=true):WOk s.2.1 0 (Wez s):=by
 obtain⟨h1,h2,h3,h4⟩:=WkY h;exact{
  len:=by simp[Wez]
  l4:=h2
  progs:=h4
  now:=rfl
  n0:=Xab _
  mem:=by
   show W3 (Wgt s.1.1)=true;have:=h1.cells.len;unfold W3 Wgt;simp only[Xad,this,decide_true,Xch,Xj,Wh,Xah];refine⟨by omega,λw hw=>?_⟩;obtain⟨v,hv,rfl⟩:=Xx.1 hw;have:=h1.cells.val v hv;rw[WfP];unfold wd0;simp only;omega
  shelf:=⟨WrU h1.map.1 h1.map.2,h1.cnt⟩
  holds:=⟨(λh hh=>by cases hh),List.Pairwise.nil⟩
  hist:=by simp[Wez]
  histE:=λh hh=>by cases hh
  root:=λk hk=>by
   simp only[Wez,Xbe];exact{
    phase:=by simp
    tries:=by simp
    live:=λhh=>by simp at hh
    comm:=λhh=>by simp at hh
    undos:=λu hu=>by cases hu
    ul:=by simp
    rg:=by simp
    ord:=by simp}}
theorem Ws7:∀(l:List Ac) (n:Int) (w:Wo),WOk s.2.1 n w->WOk s.2.1 (n+l.length) (l.foldl (WhB s) w)
 | [],n,w,h=>by simpa using h
 |a::l,n,w,h=>by
  have:=Ws7 l (n+1) _ (WeG (a:=a) h);rw[List.foldl_cons,Xr];rw[show n+((l.length+1:Nat):Int)=n+1+l.length by omega];exact this
theorem Wt8(h:Wp9 s=true):WOk s.2.1 s.2.2.length (WhA s):=by
 have:=Ws7 s.2.2 0 _ (WnV h);rw[Int.zero_add]at this;exact this
end
section
section
variable{N:Nat}{c:Cur}
theorem Whr{b7:Int}{l8:List Int}(h8:l8.length=8):∀(n i:Nat) (c:Cur) (l:List Int),8-i<n->i<=8->WaX c->l.length=i->
  Drw (λv:Ki×Unit=>v.1.1.length=8/\v.1.2.1.length=8) (Zcj N b7 l8 (λBq iA wn dy=>(some ((wn,()),((l8,(dy,b7)),())))) n (i:Int) c l)
 |0,i,c,l,h,_,_,_=>by omega
 |n+1,i,c,l,h,hi,hc,hl=>by
  unfold Zcj;refine .bif (λh0=>?_) λh0=>.ok hc ⟨h8,?_⟩
  .have h0:(i:Int)<8:=Wz h0;have e:Wl .i64 (i:Int) 1=((i+1:Nat):Int):=Wp (by omega);simp only[e];refine(Wg7 2 hc).bind λc b hc _=>.bif (λ_=>?_) λ_=>?_
   .exact(Wxt hc).bind λc v hc hv=>.bifT (Wx (by simp;omega)) (Whr h8 n (i+1) c _ (by omega) (by omega) hc (by simp[Xaw];omega))
   .exact .bifT (Wx (by simp;omega)) (Whr h8 n (i+1) c _ (by omega) (by omega) hc (by simp[Xaw];omega))
  .have h0:¬(i:Int)<8:=of_decide_eq_false h0;simp only;omega
theorem WsM(hN:1048576<N)(hc:WaX c):Drw (λv:Ki×Unit=>v.1.1.length=8/\v.1.2.1.length=8) (Zcm N c):=by
 unfold Zcm;exact(WxC hN hc).bind λc v hc hv=>(Wxt hc).bind λc w hc hw=>Whr hv N 0 c [] (by omega) (by omega) hc rfl
theorem WqH(hN:1048576<N)(hc:WaX c):Drw (λv:Ki×Unit=>v.1.1.length<=100/\v.1.2.1.length<=100) (Zem N c):=by
 unfold Zem;refine(WsM hN hc).bind λc t hc ht=>(Wa5 16 hc).bind λc v hc hv=>.bif (λ_=>?_) λ_=>.bif (λ_=>?_) λ_=>.bif (λ_=>.ok hc (by simp only;omega)) λ_=>.bif (λ_=>?_) λ_=>.bif (λ_=>?_) λ_=>.ok hc (by simp only;omega)
 .refine .bifT (by rw[ht.1];rfl) (.ok hc ?_);simp only[Xay];omega
 .refine(Wa5 8 hc).bind λc k hc hk=>?_;have hk:=hk.2 (by decide);refine .bifT (by unfold inb;rw[ht.2];simp;omega) (.ok hc ?_);simp only[Xy];omega
 .refine .bifT (by rw[ht.2];rfl) (.ok hc ?_);simp only[Xay];omega
 .refine(Wa5 8 hc).bind λc k hc hk=>?_;have hk:=hk.2 (by decide);refine .bifT (by unfold inb;rw[ht.1];simp;omega) (.ok hc ?_);simp only[Xy];omega
theorem Wwi{p:Pg}(h:p.1.length<=300/\p.2.length<=100/\∀x∈p.2,x.length<=200):PB p:=⟨by omega,by omega,λx hx=>by have:=h.2.2 x hx;omega⟩
theorem Wvb(hN:1048576<N)(hc:WaX c):Drw (λv:Pg×Unit=>PB v.1) (Zj2 N c):=by
 unfold Zj2;refine(Wg7 2 hc).bind λc b hc _=>(WwU hN hc).bind λc p hc hp=>(Wa5 10 hc).bind λc v hc hv=>.bif (λ_=>?_) λ_=>.bif (λ_=>.bif (λh0=>?_) λ_=>.ok hc (Wwi hp)) λ_=>.bif (λ_=>?_) λ_=>.bif (λ_=>.ok hc ⟨by have:=hp.1;simp only;omega,by simp,by simp⟩) λ_=>.ok hc (Wwi hp)
 .exact(Wxk hN hc (by have:=hp.1;simp only;omega)).bind λc w hc hw=>.ok hc ⟨by simp only;omega,by have:=hp.2.1;simp only;omega,λx hx=>by have:=hp.2.2 x hx;omega⟩
 .have h0:Wi p.1.2>0:=Wz h0;refine(Wa5 (Wi p.1.2) hc).bind λc k hc hk=>?_;have hk:=hk.2 h0;unfold Wi at hk;have uY:inb k.1 p.1.2.length=true:=by unfold inb;simp;omega
  refine .bifT uY ((Wxk hN hc ?_).bind λc w hc hw=>.bifT uY (.ok hc ⟨by have:=hp.1;simp only;omega,by have:=hp.2.1;simp only[Xy];omega,λx hx=>?_⟩))
  .rw[Wn (show k.1.toNat<p.1.2.length by omega)];have:=hp.2.2 _ (Xw (show k.1.toNat<p.1.2.length by omega));omega
  .rcases Xei hx with hx|hx
   .have:=hp.2.2 x hx;omega
   .subst hx;show w.1.length<=1000;omega
 .refine .bifT (Wx (by have:=hp.2.1;simp;omega)) (.ok hc ⟨by have:=hp.1;simp only;omega,by have:=hp.2.1;simp[Xaw];omega,λx hx=>?_⟩);simp[Xaw]at hx;rcases hx with hx|hx
  .have:=hp.2.2 x hx;omega
  .subst hx;simp
end
end
section
def stl(x:Rt):Bool:=decide (x.phase=8)||((decide (x.phase=5)&&(decide (x.cm.phase=4)||decide (x.cm.phase=5)))||((decide (x.phase=6)||decide (x.phase=7))&&decide (x.fate≠0)))
def WgZ(x:Rt):Int:=if stl x=true then(if x.phase=5 then x.cm.wv else x.stamp)else 0
theorem Wcs{x:Rt}:stl x=true↔x.phase=8\/(x.phase=5/\(x.cm.phase=4\/x.cm.phase=5))\/((x.phase=6\/x.phase=7)/\x.fate≠0):=by
 unfold stl;simp only[Bool.or_eq_true,Xj,Wh]
structure RX(x:Rt):Prop where
 doom:x.doomed=true->(1<=x.phase/\x.phase<=4)\/(x.phase=5/\x.cm.phase<=3)
 fate:x.phase=5->x.fate≠0
structure Stay(x y:Rt):Prop where
 tries:x.tries<=y.tries
 st:stl x=true->stl y=true/\WgZ y=WgZ x/\y.fate=x.fate/\y.regs=x.regs/\y.order=x.order
structure RG(w:Wo)(x:Rt)(q:Wo×Rt):Prop where
 doom:q.2.doomed=false
 fate:q.2.phase=5->q.2.fate≠0
 tries:q.2.tries=x.tries
 mem:q.1.mem=w.mem
 hist:q.1.hist=w.hist
section
variable{w:Wo}{x y z:Rt}{k:Nat}{p:Pg}{n:Int}{o:Opn}
theorem Stay.refl(x:Rt):Stay x x:=⟨Xab _,λh=>⟨h,rfl,rfl,rfl,rfl⟩⟩
theorem Stay.trans(h:Stay x y)(h':Stay y z):Stay x z:=
 ⟨Xel h.tries h'.tries,λhs=>by
  obtain⟨a,b,c,d,e⟩:=h.st hs;obtain⟨a',b',c',d',e'⟩:=h'.st a;exact⟨a',b'.trans b,c'.trans c,d'.trans d,e'.trans e⟩⟩
theorem Stay.un(h:stl x=false)(ht:x.tries<=y.tries):Stay x y:=⟨ht,λhs=>by rw[h]at hs;cases hs⟩
theorem RG.same(hd:x.doomed=false){z:Rt}(h1:z.doomed=false)(h2:z.phase≠5)(h3:z.tries=x.tries):RG w x (w,z):=⟨h1,λh=>Wj h h2,h3,rfl,rfl⟩
theorem Wf5(hd:x.doomed=false):(WF x).doomed=false/\(WF x).phase≠5/\(WF x).tries=x.tries:=by
 unfold WF WdA;split
 .exact⟨rfl,by simp,rfl⟩
 .exact⟨hd,by simp,rfl⟩
theorem Wqa(hd:x.doomed=false){out:Int}(ho:out≠0):RG w x (WaT w x k out):=by
 unfold WaT WjE;simp only;generalize (if out=2 then []else x.writes)=rows;split
 .exact⟨rfl,by simp,rfl,rfl,rfl⟩
 .exact⟨hd,λ_=>ho,rfl,rfl,rfl⟩
theorem WsK(hd:x.doomed=false)(h5:x.phase≠5):RG w x (Wd1 w x):=⟨hd,λh=>Wj h h5,rfl,rfl,rfl⟩
theorem WtL(hd:x.doomed=false)(h5:x.phase≠5):(Wdm w x o).doomed=false/\(Wdm w x o).phase≠5/\(Wdm w x o).tries=x.tries:=by
 unfold Wdm;cases WaF x.writes o.2.2.1 with
 |some v=>exact⟨hd,h5,rfl⟩
 |none=>
  simp only;generalize WM w.mem x.rv _=b;split
  .exact Wf5 (x:={x with busy:=true,pb:=b}) hd
  .split
   .exact⟨hd,h5,rfl⟩
   .exact⟨hd,h5,rfl⟩
theorem Wuv(hd:x.doomed=false)(h5:x.phase≠5){code:List Opn}:RG w x (WcD w x k code):=by
 unfold WcD;split
 .exact Wqa hd (by omega)
 .split
  .exact WsK hd h5
  .exact⟨hd,λh=>Wj h h5,rfl,rfl,rfl⟩
theorem WuV(hd:x.doomed=false)(h5:x.phase≠5):RG w x (Wcd w x k o):=by
 unfold Wcd;cases WaY w.holds ((k:Int)+1) (WaU o).1 (WaU o).2 with
 |none=>
  obtain⟨a,b,c⟩:=Wf5 hd;exact⟨a,λh=>Wj h b,c,rfl,rfl⟩
 |some hs=>exact⟨hd,λh=>Wj h h5,rfl,rfl,rfl⟩
theorem WwL(hd:x.doomed=false)(h5:x.phase≠5):RG w x (WfG w x k p):=by
 unfold WfG;split
 .exact Wqa hd (by omega)
 .simp only;generalize opN p.1 x.pc=o;split
  .obtain⟨a,b,c⟩:=WtL (w:=w) (o:=o) hd h5;exact⟨a,λh=>Wj h b,c,rfl,rfl⟩
  .split
   .exact Wuv hd h5
   .split
    .exact⟨hd,λh=>by(change (2:Int)=5 at h;omega),rfl,rfl,rfl⟩
    .split
     .exact WuV hd h5
     .repeat' split
      all_goals exact⟨hd,λh=>Wj h h5,rfl,rfl,rfl⟩
theorem Wwn(hd:x.doomed=false)(h5:x.phase≠5):RG w x (WfA w x k):=by
 unfold WfA
 repeat' split
 all_goals first|exact⟨hd,λh=>Wj h h5,rfl,rfl,rfl⟩|exact⟨rfl,λh=>by(change (1:Int)=5 at h;omega),rfl,rfl,rfl⟩
theorem WtA(hd:x.doomed=false)(h5:x.phase≠5):RG w x (w,Wco x):=by
 unfold Wco;split
 .exact⟨rfl,λh=>by(change (6:Int)=5 at h;omega),rfl,rfl,rfl⟩
 .split
  .exact⟨hd,λh=>by(change (1:Int)=5 at h;omega),rfl,rfl,rfl⟩
  .exact⟨hd,λh=>Wj h h5,rfl,rfl,rfl⟩
theorem Wjj(hd:x.doomed=false)(h5:x.phase≠5):RG w x (WbT w x):=by
 unfold WbT;split
 .exact WsK hd h5
 .exact⟨hd,λh=>by(change (4:Int)=5 at h;omega),rfl,rfl,rfl⟩
theorem WnR(hd:x.doomed=false)(h5:x.phase≠5):RG w x (w,Wbq w x):=by
 unfold Wbq;split
 .simp only;split
  .exact⟨rfl,λh=>by(change (6:Int)=5 at h;omega),rfl,rfl,rfl⟩
  .exact⟨hd,λh=>Wj h h5,rfl,rfl,rfl⟩
 .exact⟨hd,λh=>by(change (1:Int)=5 at h;omega),rfl,rfl,rfl⟩
theorem WhZ(m:Mm)(c:Cm):m.1<=(WD m c).1.1:=by
 have hs:∀i w,(Wru m i w).1=m.1:=λ_ _=>rfl;unfold WD WdE Wbw WjW tick;simp only
 repeat' split
 all_goals first|exact Xab _|(simp only[hs];omega)|(simp only;omega)
structure RS(w:Wo)(x:Rt)(q:Wo×Rt):Prop where
 rx:RX q.2
 stay:Stay x q.2
 clock:w.mem.1<=q.1.mem.1
 hist:∃l,q.1.hist=w.hist++l
theorem RG.rs{q:Wo×Rt}(h:RG w x q)(hs:stl x=false):RS w x q:=⟨⟨(λhd=>by rw[h.doom]at hd;cases hd),h.fate⟩,Stay.un hs (by rw[h.tries];omega),by rw[h.mem];omega,[],by rw[h.hist];simp⟩
theorem WtE(c:Cm):Wbb c 6=6:=by unfold Wbb;rw[Wa (by omega),Wa (by omega)]
theorem WtG(c:Cm):Wbb c 5=5:=by unfold Wbb;rw[Wa (by omega),Wa (by omega)]
theorem WpP{c:Cm}{ph:Int}(h:ph=5\/ph=6):(WP c ph).wv=c.wv/\((WP c ph).phase=c.phase\/(WP c ph).phase=ph):=by
 unfold WP;split
 .refine⟨rfl,.inr ?_⟩;show Wbb c ph=ph;rcases h with rfl|rfl
  .exact WtG c
  .exact WtE c
 .exact⟨rfl,.inl rfl⟩
theorem Ws2(hx:RX x)(h5:x.phase=5):RS w x (WaW w x k):=by
 unfold WaW;split
 .rename_i hd;have h3:x.cm.phase<=3:=by rcases hx.doom hd with h|h<;>omega
  have hC:stl x=false:=by rw[Xbw,Ne,Wcs];omega
  split
  .exact⟨⟨(λhd=>by cases hd),λh=>by(change (6:Int)=5 at h;omega)⟩,Stay.un hC (Xab _),Xab _,[],by simp⟩
  .exact⟨⟨(λhd=>by cases hd),hx.fate⟩,Stay.un hC (Xab _),Xab _,[],by simp⟩
 .rename_i hd;have ii:x.doomed=false:=by simpa using hd
  have ye:=WhZ w.mem x.cm;have hf:=hx.fate h5;simp only;refine⟨?_,?_,ye,?_⟩
  .unfold WcL WdA;simp only;split
   .exact⟨(λhd=>by cases hd),λh=>by(change (6:Int)=5 at h;omega)⟩
   .split
    .have bX:(if x.fate=2 then(6:Int)else 7)≠5:=by split<;>omega
     exact⟨(λhd=>by(change x.doomed=true at hd;rw[ii]at hd;cases hd)),λh=>Wj h bX⟩
    .exact⟨(λhd=>by(change x.doomed=true at hd;rw[ii]at hd;cases hd)),λ_=>hf⟩
  .have rH:(WcL {x with cm:=(WD w.mem x.cm).2}).tries=x.tries:=by
    unfold WcL WdA;simp only;split
    .rfl
    .split<;>rfl
   refine⟨by rw[rH];omega,λhs=>?_⟩;have Cu:=Wcs.1 hs;have bb:WgZ x=x.cm.wv:=by unfold WgZ;rw[Wb hs,Wb h5]
   have key:(WD w.mem x.cm).2.wv=x.cm.wv/\((WD w.mem x.cm).2.phase=4\/(WD w.mem x.cm).2.phase=5\/(WD w.mem x.cm).2.phase=6):=by
    unfold WD;simp only;have e45:=Cu;rcases(show x.cm.phase=4\/x.cm.phase=5 by omega)with h4|h4
    .rw[Wa (by omega),Wa (by omega),Wa (by omega),Wb h4];have:=WpP (c:=x.cm) (ph:=5) (.inl rfl);exact⟨this.1,by show(WP x.cm 5).phase=4\/(WP x.cm 5).phase=5\/(WP x.cm 5).phase=6;omega⟩
    .rw[Wa (by omega),Wa (by omega),Wa (by omega),Wa (by omega),Wb h4];have:=WpP (c:=x.cm) (ph:=6) (.inr rfl);exact⟨this.1,by show(WP x.cm 6).phase=4\/(WP x.cm 6).phase=5\/(WP x.cm 6).phase=6;omega⟩
   obtain⟨k1,k2⟩:=key;rw[bb];generalize (WD w.mem x.cm).2=c at*;unfold WcL;simp only;rw[Wa (by omega)];by_cases h6:c.phase=6
   .rw[Wb h6];have bX:(if x.fate=2 then(6:Int)else 7)=6\/(if x.fate=2 then(6:Int)else 7)=7:=by split<;>simp
    generalize (if x.fate=2 then(6:Int)else 7)=ph at*;have jX:stl {x with stamp:=c.wv,cm:={},phase:=ph}=true:=Wcs.2 (.inr (.inr ⟨bX,hf⟩));refine⟨jX,?_,rfl,rfl,rfl⟩;unfold WgZ;rw[Wb jX,Wa (by show¬ph=5;omega)];exact k1
   .rw[Wa h6];have jX:stl {x with cm:=c}=true:=Wcs.2 (.inr (.inl ⟨h5,by show c.phase=4\/c.phase=5;omega⟩));refine⟨jX,?_,rfl,rfl,rfl⟩;unfold WgZ;rw[Wb jX,Wb h5];exact k1
  .split
   .exact⟨_,rfl⟩
   .exact⟨[],by simp⟩
theorem Wwa(hx:RX x)(bX:0<=x.phase/\x.phase<=8):RS w x (Wan w x k p):=by
 have hC:x.phase<=4->stl x=false:=λh=>by rw[Xbw,Ne,Wcs];omega
 unfold Wan;by_cases hd:x.doomed=true/\1<=x.phase/\x.phase<=4
 .rw[Wb hd];exact⟨⟨(λhd=>by cases hd),λh=>by(change (6:Int)=5 at h;omega)⟩,Stay.un (hC (by omega)) (Xab _),Xab _,[],by simp⟩
 rw[Wa hd];have ii:x.phase≠5->x.doomed=false:=λh5=>by
  rw[Xbw];intro h;rcases hx.doom h with h1|h1
  .exact hd ⟨h,h1⟩
  .exact h5 h1.1
 by_cases h0:x.phase=0
 .rw[Wb h0];exact(Wwn (ii (by omega)) (by omega)).rs (hC (by omega))
 rw[Wa h0];by_cases h1:x.phase=1
 .rw[Wb h1];exact(WwL (ii (by omega)) (by omega)).rs (hC (by omega))
 rw[Wa h1];by_cases h2:x.phase=2
 .rw[Wb h2];exact(WtA (ii (by omega)) (by omega)).rs (hC (by omega))
 rw[Wa h2];by_cases h3:x.phase=3
 .rw[Wb h3];exact(Wjj (ii (by omega)) (by omega)).rs (hC (by omega))
 rw[Wa h3];by_cases h4:x.phase=4
 .rw[Wb h4];exact(WnR (ii (by omega)) (by omega)).rs (hC (by omega))
 rw[Wa h4];by_cases h5:x.phase=5
 .rw[Wb h5];exact Ws2 hx h5
 rw[Wa h5];have rX:=ii h5;by_cases h6:x.phase=6
 .rw[Wb h6];have Cv:∀ph,ph≠5->RX {x with phase:=ph}:=λph hp=>⟨(λhd=>by(change x.doomed=true at hd;rw[rX]at hd;cases hd)),λh=>Wj h hp⟩;by_cases hz:x.undos.length>0
  .rw[Wb hz];refine⟨⟨(λhd=>by(change x.doomed=true at hd;rw[rX]at hd;cases hd)),λh=>Wj h h5⟩,⟨Xab _,λhs=>?_⟩,Xab _,[],by simp[Wd1]⟩;have jX:stl (Wd1 w x).2=true:=by
    have:=Wcs.1 hs;rw[Wcs];show x.phase=8\/(x.phase=5/\_)\/((x.phase=6\/x.phase=7)/\x.fate≠0);omega
   refine⟨jX,?_,rfl,rfl,rfl⟩;unfold WgZ;rw[Wb jX,Wb hs];rfl
  .rw[Wa hz];refine⟨Cv 7 (by omega),⟨Xab _,λhs=>?_⟩,Xab _,[],by simp⟩;have jX:stl {x with phase:=7}=true:=by
    have:=Wcs.1 hs;exact Wcs.2 (.inr (.inr ⟨.inr rfl,by show x.fate≠0;omega⟩))
   refine⟨jX,?_,rfl,rfl,rfl⟩;unfold WgZ;rw[Wb jX,Wb hs,Wa h5,Wa (by show¬(7:Int)=5;omega)]
 rw[Wa h6];by_cases h7:x.phase=7
 .rw[Wb h7];by_cases hf:x.fate=0
  .rw[Wb hf];have oj:stl x=false:=by rw[Xbw,Ne,Wcs];omega
   exact⟨⟨(λhd=>by cases hd),λh=>by(change (0:Int)=5 at h;omega)⟩,Stay.un oj (by show x.tries<=x.tries+1;omega),Xab _,[],by simp⟩
  .rw[Wa hf];refine⟨⟨(λhd=>by cases hd),λh=>by(change (8:Int)=5 at h;omega)⟩,⟨Xab _,λhs=>?_⟩,Xab _,[],by simp[WjE]⟩;have jX:stl (WjE {w with holds:=Wab w.holds ((k:Int)+1)} x k).2=true:=Wcs.2 (.inl rfl);refine⟨jX,?_,rfl,rfl,rfl⟩;unfold WgZ;rw[Wb jX,Wb hs,Wa h5];rfl
 .rw[Wa h7];exact⟨hx,Stay.refl x,Xab _,[],by simp⟩
end
def WX(w:Wo):Prop:=∀(i:Nat) (h:i<w.roots.length),RX w.roots[i]
structure WStay(w v:Wo):Prop where
 len:w.roots.length=v.roots.length
 root:∀(i:Nat) (h:i<w.roots.length) (h':i<v.roots.length),Stay w.roots[i] v.roots[i]
 hist:∃l,v.hist=w.hist++l
 clock:w.mem.1<=v.mem.1
section
variable{s:Sc}{w v u:Wo}{n:Int}{a:Ac}{k:Nat}
theorem WStay.refl(w:Wo):WStay w w:=⟨rfl,λi h h'=>Stay.refl _,⟨[],by simp⟩,Xab _⟩
theorem WStay.trans(h:WStay w v)(h':WStay v u):WStay w u:=by
 obtain⟨l,hl⟩:=h.hist;obtain⟨l',cM⟩:=h'.hist;exact⟨h.len.trans h'.len,λi a b=>(h.root i a (by rw[←h.len];exact a)).trans (h'.root i (by rw[←h.len];exact a) b),⟨l++l',by rw[cM,hl,List.append_assoc]⟩,Xel h.clock h'.clock⟩
theorem Wlg{q:Wo×Rt}{w0:Wo}(hx:WX w0)(hk:k<w0.roots.length)(hr:q.1.roots=w0.roots)(hq:RS w0 w0.roots[k] q):WX (Wo.put q k)/\WStay w0 (Wo.put q k):=by
 have hlen:(q.1.roots.set k q.2).length=w0.roots.length:=by rw[Xy,hr]
 refine⟨λi hi=>?_,hlen.symm,λi hi ik=>?_,hq.hist,hq.clock⟩
 .change i<(q.1.roots.set k q.2).length at hi;show RX (q.1.roots.set k q.2)[i];rw[Xam];by_cases he:k=i
  .rw[Wb he];exact hq.rx
  .rw[Wa he];simp only[hr];exact hx i (by rw[←hlen];exact hi)
 .have Cw:i<(q.1.roots.set k q.2).length:=ik;show Stay _ ((q.1.roots.set k q.2)[i]'Cw);rw[Xam];by_cases he:k=i
  .subst he;rw[Wb rfl];exact hq.stay
  .rw[Wa he];simp only[hr];exact Stay.refl _
theorem Wnx(h:WOk s.2.1 n w)(hk:k<w.roots.length):(Wan {w with now:=w.now+1} w.roots[k] k (s.2.1.getD k pg0)).1.roots=w.roots:=
 (Wif (w:={w with now:=w.now+1}) (k:=k) (Wka h.progs (by rw[←h.len];exact hk)) ⟨h.mem,h.shelf,h.holds⟩ (h.root k hk) (by have:=h.l4;have:=h.len;omega) h.n0).roots
theorem WmI(h:WOk s.2.1 n w)(hx:WX w):WX (WhB s w a)/\WStay w (WhB s w a):=by
 have dI:WX {w with now:=w.now+1}:=hx;have nc:WStay w {w with now:=w.now+1}:=⟨rfl,λi h h'=>Stay.refl _,⟨[],by simp⟩,Xab _⟩;unfold WhB;simp only;split
 .rename_i hb;have hk:a.2.1.toNat<w.roots.length:=by omega
  rw[Wn hk];have uZ:=hx _ hk;split
  .unfold WmG;rw[Wn (show a.2.1.toNat<({w with now:=w.now+1}:Wo).roots.length from hk)];obtain⟨c,d⟩:=Wlg (w0:={w with now:=w.now+1}) dI hk (Wnx h hk) (Wwa uZ (h.root _ hk).phase);exact⟨c,nc.trans d⟩
  .split
   .split
    .rename_i hf;have bX:=hf.1;obtain⟨c,d⟩:=Wlg (w0:={w with now:=w.now+1}) (q:=({w with now:=w.now+1},{w.roots[a.2.1.toNat]with fam:=Wax w.mem w.roots[a.2.1.toNat].fam a.2.2.toNat ((s.2.1.getD a.2.1.toNat pg0).2.getD a.2.2.toNat [])})) dI hk rfl
      ⟨⟨uZ.doom,uZ.fate⟩,Stay.un (by rw[Xbw,Ne,Wcs,bX];omega) (Xab _),Xab _,[],by simp⟩
     exact⟨c,nc.trans d⟩
    .exact⟨dI,nc⟩
   .split
    .split
     .rename_i hf;have oj:stl w.roots[a.2.1.toNat]=false:=by rw[Xbw,Ne,Wcs];omega
      obtain⟨c,d⟩:=Wlg (w0:={w with now:=w.now+1}) (q:=({w with now:=w.now+1},{w.roots[a.2.1.toNat]with doomed:=true})) dI hk rfl
       ⟨⟨λ_=>hf,uZ.fate⟩,Stay.un oj (Xab _),Xab _,[],by simp⟩
      exact⟨c,nc.trans d⟩
     .exact⟨dI,nc⟩
    .exact⟨dI,nc⟩
 .exact⟨dI,nc⟩
theorem WwZ:WX (Wez s):=λi h=>by
 simp only[Wez,Xbe];exact⟨(λhd=>by cases hd),λh=>by(change (0:Int)=5 at h;omega)⟩
end
end
section
def Wag(c:Cm):Int:=
 if c.phase=1 then 3*c.puts.length-c.pos+1+c.reads.length else
 if c.phase=2 then 1+c.reads.length+2*c.puts.length else
 if c.phase=3 then c.reads.length-c.pos+2*c.puts.length else
 if c.phase=4 then 2*c.puts.length-c.pos else
 if c.phase=5 then c.puts.length-c.pos else
 if c.phase=7 then c.pos+1 else 0
section
variable{c:Cm}{m:Mm}{n ph:Int}
theorem Wg0(h:CmOk c):0<=Wag c/\Wag c<=33/\(c.phase≠6->c.phase≠8->1<=Wag c):=by
 have hp:=h.phase;have h1:=h.plen;have h2:=h.rlen;have h3:=h.pos;unfold Cm.steps at h3;unfold Wag;have:c.phase=1\/c.phase=2\/c.phase=3\/c.phase=4\/c.phase=5\/c.phase=6\/c.phase=7\/c.phase=8:=by omega
 rcases this with h|h|h|h|h|h|h|h<;>(rw[h]at h3⊢;simp at h3⊢;try omega)
theorem Wcr(h:0<=n):Wag (Waw c n)=n:=by
 unfold Waw;split
 .rename_i h0;rw[h0];rfl
 .show(if(7:Int)=1 then _ else if(7:Int)=2 then _ else if(7:Int)=3 then _ else if(7:Int)=4 then _ else if(7:Int)=5 then _ else if(7:Int)=7 then n-1+1 else 0)=n;simp
theorem Wkp(h:ph=2\/ph=3\/ph=4\/ph=5\/ph=6):Wag (WcR c ph)<=if ph=2 then 1+c.reads.length+2*c.puts.length else if ph=3 then c.reads.length+2*c.puts.length else if ph=4 then 2*c.puts.length else if ph=5 then c.puts.length else 0:=by
 obtain⟨a,ha⟩:∃a,Wbb c ph=a:=⟨_,rfl⟩;have:a=ph\/a=6\/(ph=3/\a=4):=by
  unfold Wbb at ha;split at ha
  .omega
  .split at ha<;>omega
 have e:Wag (WcR c ph)=Wag {c with phase:=a,pos:=0}:=by unfold WcR;rw[ha]
 rw[e];unfold Wag;simp only;rcases h with rfl|rfl|rfl|rfl|rfl<;>rcases this with rfl|rfl|⟨_,rfl⟩<;>simp<;>omega
theorem Wed(h:CmOk c)(hp:c.phase=1/\ph=2\/c.phase=3/\ph=4\/c.phase=4/\ph=5\/c.phase=5/\ph=6):Wag (WP c ph)<Wag c:=by
 have h3:=h.pos;have hb:=Wkp (c:=c) (ph:=ph) (by omega);unfold Cm.steps at h3;unfold WP;split
 .rename_i hs;refine Xcw hb ?_;unfold Cm.steps at hs;unfold Wag;rcases hp with⟨a,rfl⟩|⟨a,rfl⟩|⟨a,rfl⟩|⟨a,rfl⟩<;>(rw[a]at h3 hs⊢;simp at h3 hs⊢;omega)
 .unfold Wag;simp only;rcases hp with⟨a,rfl⟩|⟨a,rfl⟩|⟨a,rfl⟩|⟨a,rfl⟩<;>(rw[a];simp;omega)
theorem WoF(h:CmOk c)(h6:c.phase≠6)(h8:c.phase≠8):Wag (WD m c).2<Wag c:=by
 have hp:=h.phase;have h1:=h.plen;have h2:=h.rlen;have h3:=h.pos;unfold Cm.steps at h3;unfold WD;simp only;by_cases p1:c.phase=1
 .rw[Wb p1];split
  .exact Wed h (.inl ⟨p1,rfl⟩)
  .show Wag (Waw c c.pos)<_;rw[Wcr h3.1];unfold Wag;rw[p1]at h3⊢;simp at h3⊢;omega
 rw[Wa p1];by_cases p2:c.phase=2
 .rw[Wb p2];split
  .show Wag (Waw c c.puts.length)<_;rw[Wcr (by omega)];unfold Wag;rw[p2]at h3⊢;simp at h3⊢;omega
  .refine Xcw (Wkp (c:={c with wv:=(tick m).2}) (.inr (.inl rfl))) ?_;unfold Wag;rw[p2]at h3⊢;simp at h3⊢;omega
 rw[Wa p2];by_cases p3:c.phase=3
 .rw[Wb p3];split
  .show Wag (Waw c c.puts.length)<_;rw[Wcr (by omega)];unfold Wag;rw[p3]at h3⊢;simp at h3⊢;omega
  .exact Wed h (.inr (.inl ⟨p3,rfl⟩))
 rw[Wa p3];by_cases p4:c.phase=4
 .rw[Wb p4];exact Wed h (.inr (.inr (.inl ⟨p4,rfl⟩)))
 rw[Wa p4];by_cases p5:c.phase=5
 .rw[Wb p5];exact Wed h (.inr (.inr (.inr ⟨p5,rfl⟩)))
 rw[Wa p5,Wb (show c.phase=7 by omega)];show Wag (Waw c c.pos)<_;rw[Wcr h3.1];unfold Wag;rw[show c.phase=7 by omega];simp;omega
theorem WmN(h:CmOk c):Wag (WaB c)<=Wag c/\(c.phase<=3->Wag (WaB c)<Wag c):=by
 have hp:=h.phase;have h3:=h.pos;unfold Cm.steps at h3;unfold WaB;by_cases p1:c.phase=1
 .rw[Wb p1,Wcr h3.1];unfold Wag;rw[p1]at h3⊢;simp at h3⊢;omega
 rw[Wa p1];split
 .rename_i Cx;rw[Wcr (by omega)];rcases Cx with p|p<;>(unfold Wag;rw[p]at h3⊢;simp at h3⊢;omega)
 .exact⟨Xab _,λh=>by omega⟩
end
end
section
def WsB(f:Fm):List Kd->Int
 | []=>0
 |x::l=>if WaG x=1/\WsB f l<=fP f x+fQ f then fP f x+fQ f else WsB f l
def Wl7(f:Fm):Int:=WsB f f.kids
theorem WpN(f:Fm):∀(l:List Kd),0<=WsB f l
 | []=>Xab _
 |x::l=>by have:=WpN f l;rw[WsB];split<;>omega
theorem Wl0{f:Fm}{b:Int}:∀{l:List Kd},0<=b->(∀x∈l,WaG x=1->fP f x+fQ f<=b)->WsB f l<=b
 | [],h,_=>h
 |x::l,h,hl=>by
  have ih:=Wl0 (f:=f) h λy hy=>hl y (List.mem_cons_of_mem _ hy);rw[WsB];split
  .rename_i hc;exact hl x (List.mem_cons_self ..) hc.1
  .exact ih
theorem WoO{f:Fm}:∀{l:List Kd},∀x∈l,WaG x=1->fP f x+fQ f<=WsB f l
 | [],x,h,_=>by cases h
 |y::l,x,h,hu=>by
  rw[WsB];rcases List.mem_cons.1 h with rfl|h
  .split
   .exact Xab _
   .rename_i hc;by_cases h':WsB f l<=fP f x+fQ f
    .exact Wj ⟨hu,h'⟩ hc
    .omega
  .have:=WoO (f:=f) x h hu;split<;>omega
variable{codes:List (List Opn)}{n:Int}{f g:Fm}{m:Mm}
theorem Wx5(hF:FOk codes n f)(hl:∀c∈codes,c.length<=24):0<=fQ f:=by
 have h1:Wdn (λ_=>0) f.kids<=Wdn (W7 f.clock) f.kids:=by
  refine Wjl λx hx=>?_;obtain⟨k,hk,rfl⟩:=Xbc hx;have aU:k<codes.length:=by rw[←hF.len];exact hk
  have hK:=hF.kid k hk;rw[Wn aU]at hK;have a:=(WeR hK (hl _ (Xw aU))).1;have b:=Wcy f.clock f.kids[k];unfold W7;omega
 have h2:∀l:List Kd,Wdn (λ_=>0) l=0:=λl=>by induction l with
  |nil=>rfl
  |cons x l ih=>simp only[Wdn,Xag,Xdc]at*;omega
 rw[h2]at h1;have h3:0<=tri (Wfz f):=by
  unfold tri;split
  .omega
  .split<;>omega
 unfold fQ;omega
theorem Wx0(hF:FOk codes n f)(hl:∀c∈codes,c.length<=24)(hT:∀(j:Nat) (h:j<f.kids.length),KT f j f.kids[j]){k:Nat}(hk:k<f.kids.length)(hu:WaG f.kids[k]=1):1<=fP f f.kids[k]+fQ f:=by
 have hq:=Wx5 hF hl;have aU:k<codes.length:=by rw[←hF.len];exact hk
 have hK:=hF.kid k hk;rw[Wn aU]at hK;have hlen:=hl _ (Xw aU);obtain⟨l1,l2,l3⟩:=Wl1 hK hlen (hT k hk).pb;have b:=Wcy f.clock f.kids[k];have Cy:1<=Wfz f:=by
  unfold Wfz;have:=Wb9 (g:=WaG) (y:=f.kids[k]) hk;have h0:0<=Wdn WaG (f.kids.set k {phase:=3}):=(WkU {f with kids:=f.kids.set k {phase:=3}}).1;rw[Wb9 hk,hu]at h0;have:WaG ({phase:=3}:Kd)=0:=rfl;omega
 by_cases p0:f.kids[k].phase=0
 .have:=l3 p0;unfold fP;omega
 .
  obtain⟨c1,c2,c3,c4⟩:=WeR hK hlen;have bX:=hK.phase;have fU:f.kids[k].phase≠3:=λh3=>by unfold WaG at hu;rw[Wb h3]at hu;omega
  have hc:1<=Wbv f.kids[k]:=by
   by_cases p2:f.kids[k].phase=2
   .exact(c3 p2).1
   .have:=c4 (.inr (by omega));omega
  have hs:W7 f.clock f.kids[k]<=Wdn (W7 f.clock) f.kids:=by
   have h0:Wdn (λ_=>0) (f.kids.set k {phase:=3})<=Wdn (W7 f.clock) (f.kids.set k {phase:=3}):=by
    refine Wjl λx hx=>?_;rcases Xei hx with hx|rfl
    .obtain⟨j,hj,rfl⟩:=Xbc hx;have Ai:j<codes.length:=by rw[←hF.len];exact hj
     have hK:=hF.kid j hj;rw[Wn Ai]at hK;have a:=(WeR hK (hl _ (Xw Ai))).1;have b:=Wcy f.clock f.kids[j];unfold W7;omega
    .unfold W7 Wbv Wb7;simp
   have hz:∀l:List Kd,Wdn (λ_=>0) l=0:=λl=>by induction l with
    |nil=>rfl
    |cons x l ih=>simp only[Wdn,Xag,Xdc]at*;omega
   rw[hz,Wb9 hk]at h0;have:W7 f.clock ({phase:=3}:Kd)=0:=by unfold W7 Wbv Wb7;simp
   omega
  have h3:0<=tri (Wfz f):=by
   unfold tri;split
   .omega
   .split<;>omega
  unfold fP fQ;unfold W7 at hs;unfold W7;omega
end
section
theorem Wu3{l:List Opn}{j e:Nat}(hc:CC l)(hm:Mate l j e)(h8:∃h:j<l.length,l[j].1=8):∀i,j<i->i<=e->dep l j<dep l i/\frk l i=frk l (j+1):=λi rc yw=>by
 obtain⟨hj,h8⟩:=h8;have hlen:=hm.len;have key:∀d,j+1+d<=e->dep l j<dep l (j+1+d)/\frk l (j+1+d)=frk l (j+1):=λd=>by
  induction d with
  |zero=>intro _;rw[Nat.add_zero,Waq hj,WrA h8];exact⟨by omega,rfl⟩
  |succ d ih=>
   intro hd;obtain⟨i1,i2⟩:=ih (by omega);have hlt:j+1+d<l.length:=by omega
   have hb:=WhL l[j+1+d];have hJ:=Waq hlt;have hne:=hm.ne (j+1+d) (by omega) (by omega);refine⟨by rw[show j+1+(d+1)=j+1+d+1 by omega];omega,?_⟩;rw[show j+1+(d+1)=j+1+d+1 by omega,Wc1 hlt,i2];have:¬l[j+1+d].1=11:=λfA=>by
    have h0:=(hc.fk _ hlt fA).1;have:=hc.up.at (j:=j) (by omega);omega
   rw[show(l[j+1+d].1==11)=false by simpa using this];rfl
 have:=key (i-(j+1)) (by omega);rw[show j+1+(i-(j+1))=i by omega]at this;exact this
def WrM(x:Rt):Int:=if x.busy=true then x.pb.2.1 else 0
def Wet(p:Pg)(pc:Int):Int:=382*(1-frk p.1 pc.toNat)
def Wbg(x:Rt):Int:=x.undos.length+146*(2-x.spare)+36
def Ww(p:Pg)(x:Rt):Int:=
 if x.phase=1 then 75-3*x.pc-WrM x+Wet p x.pc+Wbg x else
 if x.phase=2 then(if x.fam.lost=true then x.undos.length+3 else 73-3*x.pc+Wl7 x.fam+Wbg x)else
 if x.phase=3 then x.last.2.1+74-3*x.last.1+Wet p x.pc+Wbg x else
 if x.phase=4 then x.last.2.1-x.pos+73-3*x.last.1+Wet p x.pc+Wbg x else
 if x.phase=5 then Wag x.cm+x.undos.length+3 else
 if x.phase=6 then x.undos.length+2 else
 if x.phase=7 then 1 else 0
structure RT(x:Rt):Prop where
 pb:x.busy=true->x.pb.2.1=1\/x.pb.2.1=2
 fam:x.phase=2->x.fam.lost=true\/∀(j:Nat) (h:j<x.fam.kids.length),KT x.fam j x.fam.kids[j]
 cm:x.phase=5->x.cm.phase≠6/\x.cm.phase≠8
variable{w:Wo}{x y:Rt}{k:Nat}{p:Pg}{n:Int}{o:Opn}
theorem Wf8(h:RT x):0<=WrM x/\WrM x<=2:=by
 unfold WrM;split
 .have:=h.pb ‹_›;omega
 .omega
theorem WnL{a b:Int}(h:a<=b):Wet p b<=Wet p a:=by
 have:=WgJ p.1 (show a.toNat<=b.toNat by omega);unfold Wet;omega
theorem Ws3(hc:CC p.1){a:Int}(h:a<=p.1.length):0<=Wet p a:=by
 have:=Wd3 hc a.toNat (by omega);unfold Wet;omega
theorem Wcn(h:x.phase=1):Ww p x=75-3*x.pc-WrM x+Wet p x.pc+Wbg x:=by unfold Ww;rw[Wb h]
theorem Wo4(h:x.phase=6):Ww p x=x.undos.length+2:=by unfold Ww;rw[h];simp
theorem Wfn:Ww p (WdA x)=x.undos.length+2:=Wo4 rfl
theorem Wiq(h1:x.phase=1)(hy:y.phase=1)(aR:x.pc+1<=y.pc)(hb:y.busy=x.busy)(hp:y.pb=x.pb)(hs:y.spare=x.spare)(hu:(y.undos.length:Int)<=x.undos.length+1):Ww p y<Ww p x:=by
 rw[Wcn h1,Wcn hy];have:=WnL (p:=p) (show x.pc<=y.pc by omega);unfold WrM Wbg;rw[hb,hp,hs];omega
end
section
variable{w:Wo}{x y:Rt}{k:Nat}{p:Pg}{n:Int}{o:Opn}
theorem We5(ba:CC p.1)(hl:RLive p n x)(ht:RT x)(h1:x.phase=1):(x.undos.length:Int)+37+146*(2-x.spare)<=Ww p x:=by
 rw[Wcn h1];have hp:=Wf8 ht;have aR:=hl.pc;have hlen:=ba.len;have:=Ws3 ba aR.2;unfold Wbg;omega
theorem Wjf(ba:CC p.1)(hl:RLive p n x)(ht:RT x)(h1:x.phase=1){out:Int}(mf:0<=x.rv/\x.rv<=1000000)(hk:k<=8):Ww p (WaT w x k out).2<Ww p x:=by
 have qP:=We5 ba hl ht h1;have hs:=hl.spare;unfold WaT;simp only;generalize (if out=2 then []else x.writes)=rows;split
 .show Ww p (WjE w {x with fate:=out,stamp:=x.rv} k).2<_;have:Ww p (WjE w {x with fate:=out,stamp:=x.rv} k).2=0:=rfl;omega
 .have hc:CmOk (Wbj ((k:Int)+1) x.rv rows x.reads):=WkO (by omega) mf;have:=(Wg0 hc).2.1;have e:Ww p ({x with fate:=out,cm:=Wbj ((k:Int)+1) x.rv rows x.reads,phase:=5}:Rt)=Wag (Wbj ((k:Int)+1) x.rv rows x.reads)+x.undos.length+3:=rfl;show Ww p ({x with fate:=out,cm:=Wbj ((k:Int)+1) x.rv rows x.reads,phase:=5}:Rt)<_;rw[e];omega
theorem Wld(ba:CC p.1)(hl:RLive p n x)(hz:x.marks.length≠0):0<=x.last.1/\x.last.1<x.pc/\0<=x.last.2.1/\x.last.2.1<=x.last.1+72/\Wet p (x.last.1+1)=Wet p x.pc:=by
 have hM:=hl.marks;have aR:=hl.pc;obtain⟨j,q,y,e1,e2,e3,h8,qG,bq,gU,e5,e6⟩:=WhQ (d:=zRM) ba (show x.pc.toNat<=p.1.length by omega) hM.pcs hz;have e4:x.last=y:=e2;have hy:=(hM.each y (by rw[e1];simp)).2.1;have hf:=(Wu3 ba bq h8 x.pc.toNat qG gU).2;have hfj:=Wd3 ba j (by omega);rw[e4];rw[e3]at hy⊢;rw[Xi]at hy;refine⟨by omega,by omega,hy.1,by omega,?_⟩;unfold Wet;rw[hf,show((j:Int)+1).toNat=j+1 by omega]
theorem WfS(ba:CC p.1)(hl:RLive p n x)(ht:RT x)(h1:x.phase=1){b:Bool}{q:Pb}:Ww p (WF {x with busy:=b,pb:=q})<Ww p x:=by
 have qP:=We5 ba hl ht h1;have hs:=hl.spare;unfold WF;split
 .have e:Ww p (WdA ({x with busy:=b,pb:=q}:Rt))=x.undos.length+2:=rfl;rw[e];omega
 .rename_i hc;have hz:x.marks.length≠0:=λh=>hc (.inl h);obtain⟨m1,m2,m3,m4,m5⟩:=Wld ba hl hz;have hp:=Wf8 ht;have aR:=hl.pc;have hlen:=ba.len;rw[Wcn h1];have e:Ww p ({x with busy:=false,pb:=(0,0,0,0),spare:=x.spare+1,phase:=3}:Rt)=x.last.2.1+74-3*x.last.1+Wet p x.pc+(x.undos.length+146*(2-(x.spare+1))+36):=rfl;show Ww p ({x with busy:=false,pb:=(0,0,0,0),spare:=x.spare+1,phase:=3}:Rt)<_;rw[e];unfold Wbg;omega
theorem Wra(ba:CC p.1)(hl:RLive p n x)(ht:RT x)(h1:x.phase=1):Ww p (Wdm w x o)<Ww p x:=by
 have hp:=Wf8 ht;unfold Wdm;cases WaF x.writes o.2.2.1 with
 |some v=>exact Wiq h1 h1 (Xab _) rfl rfl rfl (by show(x.undos.length:Int)<=_;omega)
 |none=>
  simp only;have hq:0<=(if x.busy=true then x.pb else(o.2.2.1,0,0,0)).2.1/\(if x.busy=true then x.pb else(o.2.2.1,0,0,0)).2.1<=2:=by
   split
   .have:=ht.pb ‹_›;omega
   .simp
  have gU:(if x.busy=true then x.pb else(o.2.2.1,0,0,0)).2.1=WrM x:=by unfold WrM;split<;>rfl
  have hs:=Wor (m:=w.mem) (rv:=x.rv) hq;rw[gU]at hs;generalize WM w.mem x.rv (if x.busy=true then x.pb else(o.2.2.1,0,0,0))=q at*;split
  .exact WfS ba hl ht h1
  .have hf:=WnL (p:=p) (show x.pc<=x.pc+1 by omega);split
   .rw[Wcn h1];refine Xcw (Xfs (Wcn h1)) ?_;show 75-3*(x.pc+1) -0+Wet p (x.pc+1)+Wbg x<_;omega
   .rw[Wcn h1];refine Xcw (Xfs (Wcn h1)) ?_;show 75-3*x.pc-q.2.1+Wet p x.pc+Wbg x<_;omega
theorem Wtl{α:Type}(l:List α)(h:l.length≠0):(l.dropLast.length:Int)=l.length-1:=by rw[Xdm];omega
theorem Wg4(h:x.phase=1\/x.phase=3\/x.phase=6)(hz:x.undos.length≠0):Ww p (Wd1 w x).2<Ww p x:=by
 have hd:=Wtl x.undos hz;have e:Ww p (Wd1 w x).2=Ww p x-1:=by
  unfold Wd1 Ww Wbg;simp only;rw[hd];rcases h with h|h|h
  .rw[Wb h,Wb h];show 75-3*x.pc-WrM x+Wet p x.pc+_=_;omega
  .rw[Wa (by omega),Wa (by omega),Wb h,Wa (by omega),Wa (by omega),Wb h];show x.last.2.1+74-3*x.last.1+Wet p x.pc+_=_;omega
  .rw[h];simp;omega
 omega
theorem Wo8(ba:CC p.1)(hl:RLive p n x)(ht:RT x)(h1:x.phase=1)(hk:k<=8):Ww p (WcD w x k p.1).2<Ww p x:=by
 unfold WcD;split
 .exact Wjf ba hl ht h1 hl.rv hk
 .rename_i hz;split
  .have hM:=hl.marks;have dg:0<=x.last.2.2.2.1:=by
    have hm:x.last∈x.marks:=Wgr hz _;exact(hM.each _ hm).2.2.2.1
   exact Wg4 (.inl h1) (by omega)
  .have hM:=hl.marks;have aR:=hl.pc;obtain⟨j,q,y,e1,e2,e3,h8,qG,bq,gU,e5,e6⟩:=WhQ (d:=zRM) ba (show x.pc.toNat<=p.1.length by omega) hM.pcs hz;have e4:x.last=y:=e2;refine Wiq h1 h1 ?_ rfl rfl rfl (by show(x.undos.length:Int)<=_;omega);show x.pc+1<=(Wer p.1 x.last.1.toNat:Int)+1;rw[e4,e3,Xi];omega
theorem WoJ(ba:CC p.1)(hl:RLive p n x)(ht:RT x)(h1:x.phase=1):Ww p (Wcd w x k o).2<Ww p x:=by
 unfold Wcd;cases WaY w.holds ((k:Int)+1) (WaU o).1 (WaU o).2 with
 |none=>
  have:=WfS ba hl ht h1 (b:=x.busy) (q:=x.pb);exact this
 |some hs=>
  refine Wiq h1 h1 (Xab _) rfl rfl rfl ?_;show((if(W0 w.shelf o x.regs).2.2.1=0 then x.undos else x.undos++ [(W0 w.shelf o x.regs).2.2]).length:Int)<=_;split
  .omega
  .simp
theorem Wtk(ba:CC p.1)(h3:p.2.length<=3)(hl:RLive p n x)(ht:RT x)(h1:x.phase=1)(hk:k<=8)(yf:∀regs writes rv,Wl7 (Wad rv regs writes p.2.length)<=381):Ww p (WfG w x k p).2<Ww p x:=by
 unfold WfG;split
 .exact Wjf ba hl ht h1 hl.rv hk
 .obtain⟨i,hi,aR,ho⟩:=Wdc (l:=p.1) hl.pc.1 (by have:=hl.pc;omega);simp only[ho];have ui:∀y:Rt,y.phase=1->x.pc+1<=y.pc->y.busy=x.busy->y.pb=x.pb->y.spare=x.spare->y.undos=x.undos->Ww p y<Ww p x:=λy a b c d e f=>Wiq h1 a b c d e (by rw[f];omega);split
  .exact Wra ba hl ht h1
  .split
   .exact Wo8 ba hl ht h1 hk
   .split
    .rename_i fA;rw[Wcn h1];have e:Ww p ({x with phase:=2,fam:=Wad x.rv x.regs x.writes p.2.length}:Rt)=73-3*x.pc+Wl7 (Wad x.rv x.regs x.writes p.2.length)+Wbg x:=rfl;show Ww p ({x with phase:=2,fam:=Wad x.rv x.regs x.writes p.2.length}:Rt)<_;rw[e];have:=yf x.regs x.writes x.rv;have hp:=Wf8 ht;have hf:=Wd3 ba (i+1) (by omega);rw[Wc1 hi,show(p.1[i].1==11)=true by simpa using fA]at hf;have:Wet p x.pc=382:=by
      unfold Wet;rw[aR,Xi];have:frk p.1 i=0:=by have:Bool.toNat true=1:=rfl;omega
      rw[this];rfl
     omega
    .split
     .exact WoJ ba hl ht h1
     .split
      .exact ui _ h1 (Xab _) rfl rfl rfl rfl
      .split
       .have hk:=WtB (ba.ok i hi).1 ‹_›;refine ui _ h1 ?_ rfl rfl rfl rfl;show x.pc+1<=(if Wa0 x.regs p.1[i].2.1 0=0 then x.pc+p.1[i].2.2.1 else x.pc)+1;split<;>omega
       .split
        .exact ui _ h1 (Xab _) rfl rfl rfl rfl
        .split
         .exact ui _ h1 (Xab _) rfl rfl rfl rfl
         .exact ui _ h1 (Xab _) rfl rfl rfl rfl
end
section
variable{w:Wo}{x y:Rt}{k:Nat}{p:Pg}{n:Int}{o:Opn}
theorem WlI(g:Kd->Int)(x:Kd):∀u:Nat,Wdn g (Xo u x)=u*g x
 |0=>by simp[Wdn]
 |u+1=>by
  have:=WlI g x u;simp only[Wdn,List.replicate_succ,Xag,Xdc]at*;rw[this,Xfy,Int.add_mul];omega
theorem Wqs{rv:Int}{regs:List Int}{writes:List Rw}{u:Nat}(h:u<=3):Wl7 (Wad rv regs writes u)<=381:=by
 have hk:(Wad rv regs writes u).kids=Xo u {regs:=regs}:=rfl;have hc:(Wad rv regs writes u).clock=0:=rfl;have h1:WaG ({regs:=regs}:Kd)=1:=rfl;have h2:Wb7 0 ({regs:=regs}:Kd)=0:=rfl;have h3:W7 0 ({regs:=regs}:Kd)=26:=rfl;have h4:WbK ({regs:=regs}:Kd)=75:=rfl;have hu:Wfz (Wad rv regs writes u)=u:=by unfold Wfz;rw[hk,WlI,h1];omega
 have hq:fQ (Wad rv regs writes u)=u*26+26*tri u:=by unfold fQ;rw[hu,hk,hc,WlI,h3]
 refine Wl0 (by omega) λy hy _=>?_;rw[hk]at hy;obtain⟨Ae,rfl⟩:=List.mem_replicate.1 hy;unfold fP;rw[hq,hu,hc,h2,h4];have:u=1\/u=2\/u=3:=by omega
 rcases this with rfl|rfl|rfl<;>decide
theorem Wq4(hl:RLive p n x)(ba:CC p.1)(ht:RT x)(h2:x.phase=2)(hq:x.fam.lost=true\/Wbe x.fam=true):Ww p (Wco x)<Ww p x:=by
 have hs:=hl.spare;have e:Ww p x=if x.fam.lost=true then(x.undos.length:Int)+3 else 73-3*x.pc+Wl7 x.fam+Wbg x:=by unfold Ww;rw[Wa (by omega),Wb h2]
 unfold Wco;split
 .rename_i ca;rw[Wfn,e,Wb ca];omega
 .rename_i ca;rw[Wb (hq.resolve_left ca),e,Wa ca];refine Xcw (Xfs (Wcn rfl)) ?_;have hp:=Wf8 ht;have h0:=WpN x.fam x.fam.kids;obtain⟨f1,f2,f3⟩:=hl.fork h2;obtain⟨i,hi,aR,ho⟩:=Wdc (l:=p.1) hl.pc.1 f1;have hf:=Wd3 ba (i+1) (by omega);have Aj:=Wc1 hi;rw[←ho,f2]at Aj;have hz:Wet p (x.pc+1)=0:=by
   unfold Wet;have:frk p.1 (i+1)=1:=by rw[Aj]at hf⊢;have:((11:Int)==11).toNat=1:=rfl;omega
   rw[show(x.pc+1).toNat=i+1 by omega,this];rfl
  show 75-3*(x.pc+1) -WrM x+Wet p (x.pc+1)+Wbg x<73-3*x.pc+WsB x.fam x.fam.kids+Wbg x;rw[hz];omega
theorem Wns(ba:CC p.1)(hl:RLive p n x)(h3:x.phase=3):Ww p (WbT w x).2<Ww p x:=by
 have hz:=hl.back (.inl h3);have hM:=hl.marks;unfold WbT;split
 .have dg:0<=x.last.2.2.2.1:=(hM.each _ (Wgr hz _)).2.2.2.1;exact Wg4 (.inr (.inl h3)) (by omega)
 .have e:Ww p x=x.last.2.1+74-3*x.last.1+Wet p x.pc+Wbg x:=by unfold Ww;rw[Wa (by omega),Wa (by omega),Wb h3]
  have e':Ww p ({x with newRv:=w.mem.1,pos:=0,phase:=4}:Rt)=x.last.2.1-0+73-3*x.last.1+Wet p x.pc+Wbg x:=rfl;show Ww p ({x with newRv:=w.mem.1,pos:=0,phase:=4}:Rt)<_;rw[e,e'];omega
theorem WmW(ba:CC p.1)(hl:RLive p n x)(ht:RT x)(h4:x.phase=4):Ww p (Wbq w x)<Ww p x:=by
 have hz:=hl.back (.inr h4);have hs:=hl.spare;have cJ:=hl.pos h4;obtain⟨m1,m2,m3,m4,m5⟩:=Wld ba hl hz;have aR:=hl.pc;have hlen:=ba.len;have yC:=Ws3 ba aR.2;have hp:=Wf8 ht;have e:Ww p x=x.last.2.1-x.pos+73-3*x.last.1+Wet p x.pc+Wbg x:=by unfold Ww;rw[Wa (by omega),Wa (by omega),Wa (by omega),Wb h4]
 unfold Wbq;split
 .simp only;split
  .rw[Wfn,e];unfold Wbg;omega
  .have e':Ww p ({x with pos:=x.pos+1}:Rt)=x.last.2.1-(x.pos+1)+73-3*x.last.1+Wet p x.pc+Wbg x:=by
    unfold Ww;rw[Wa (show¬x.phase=1 by omega),Wa (show¬x.phase=2 by omega),Wa (show¬x.phase=3 by omega),Wb h4];rfl
   rw[e,e'];omega
 .rw[e];refine Xcw (Xfs (Wcn rfl)) ?_;show 75-3*(x.last.1+1) -WrM x+Wet p (x.last.1+1)+Wbg x<_;rw[m5];omega
theorem WnK(hc:CmOk x.cm)(h5:x.phase=5)(mn:x.cm.phase≠6/\x.cm.phase≠8)(hdm:x.doomed=true->x.cm.phase<=3):Ww p (WaW w x k).2<Ww p x:=by
 have e:Ww p x=Wag x.cm+x.undos.length+3:=by unfold Ww;rw[h5];rfl
 have hb:=(Wg0 hc).2.2 mn.1 mn.2;unfold WaW;split
 .rename_i hd;simp only;split
  .rw[Wfn,e];omega
  .have e':Ww p ({x with cm:=WaB x.cm,doomed:=false}:Rt)=Wag (WaB x.cm)+x.undos.length+3:=by
    unfold Ww;show(if x.phase=1 then _ else _)=_;rw[h5];rfl
   rw[e',e];have:=(WmN hc).2 (hdm hd);omega
 .have hs:=WoF (m:=w.mem) hc mn.1 mn.2;show Ww p (WcL {x with cm:=(WD w.mem x.cm).2})<_;generalize (WD w.mem x.cm).2=c at*;unfold WcL;split
  .have e':Ww p (WdA ({x with cm:=c}:Rt))=x.undos.length+2:=rfl;rw[e',e];omega
  .split
   .rw[e];by_cases h2:x.fate=2
    .have e':Ww p ({x with stamp:=c.wv,cm:={},phase:=if x.fate=2 then 6 else 7}:Rt)=x.undos.length+2:=by rw[Wb h2];rfl
     show Ww p ({x with stamp:=c.wv,cm:={},phase:=if x.fate=2 then 6 else 7}:Rt)<_;rw[e'];omega
    .have e':Ww p ({x with stamp:=c.wv,cm:={},phase:=if x.fate=2 then 6 else 7}:Rt)=1:=by rw[Wa h2];rfl
     show Ww p ({x with stamp:=c.wv,cm:={},phase:=if x.fate=2 then 6 else 7}:Rt)<_;rw[e'];omega
   .have e':Ww p ({x with cm:=c}:Rt)=Wag c+x.undos.length+3:=by
     unfold Ww;show(if x.phase=1 then _ else _)=_;rw[h5];rfl
    rw[e',e];omega
end
section
variable{w:Wo}{x y:Rt}{k:Nat}{p:Pg}{n:Int}{o:Opn}
theorem RT.of(h:RT x)(hb:y.busy=x.busy)(hp:y.pb=x.pb)(h2:y.phase≠2)(h5:y.phase≠5):RT y:=
 ⟨λhy=>by rw[hp];exact h.pb (hb▸hy),λhy=>Wj hy h2,λhy=>Wj hy h5⟩
theorem RT.no(hb:y.busy=false)(h2:y.phase≠2)(h5:y.phase≠5):RT y:=
 ⟨(λhy=>by rw[hb]at hy;cases hy),λhy=>Wj hy h2,λhy=>Wj hy h5⟩
theorem Wft:RT (WdA x):=RT.no rfl (by show(6:Int)≠2;omega) (by show(6:Int)≠5;omega)
theorem Wh1:RT (WF x):=by
 unfold WF;split
 .exact Wft
 .exact RT.no rfl (by show(3:Int)≠2;omega) (by show(3:Int)≠5;omega)
theorem Wnk(h:RT x){out:Int}:RT (WaT w x k out).2:=by
 unfold WaT;simp only;generalize (if out=2 then []else x.writes)=rows;split
 .exact h.of rfl rfl (by show(8:Int)≠2;omega) (by show(8:Int)≠5;omega)
 .refine⟨h.pb,λhy=>by(change (5:Int)=2 at hy;omega),λ_=>?_⟩;have e:(Wbj ((k:Int)+1) x.rv rows x.reads).phase=if(WbF rows).length=0 then 2 else 1:=rfl;show(Wbj ((k:Int)+1) x.rv rows x.reads).phase≠6/\(Wbj ((k:Int)+1) x.rv rows x.reads).phase≠8;rw[e];split<;>omega
theorem Wuz(h:RT x)(h1:x.phase=1):RT (Wdm w x o):=by
 have hn:∀y:Rt,y.phase=1->y.phase≠2/\y.phase≠5:=λy hy=>by omega
 unfold Wdm;cases WaF x.writes o.2.2.1 with
 |some v=>exact h.of rfl rfl (hn _ h1).1 (hn _ h1).2
 |none=>
  simp only;have hq:0<=(if x.busy=true then x.pb else(o.2.2.1,0,0,0)).2.1/\(if x.busy=true then x.pb else(o.2.2.1,0,0,0)).2.1<=2:=by
   split
   .have:=h.pb ‹_›;omega
   .simp
  have hs:=Wor (m:=w.mem) (rv:=x.rv) hq;generalize (if x.busy=true then x.pb else(o.2.2.1,0,0,0))=q0 at*;generalize WM w.mem x.rv q0=q at*;split
  .exact Wh1
  .split
   .exact RT.no rfl (hn _ h1).1 (hn _ h1).2
   .exact⟨λ_=>by show q.2.1=1\/q.2.1=2;omega,λhy=>Wj hy (hn _ h1).1,λhy=>Wj hy (hn _ h1).2⟩
theorem Wtu{rv:Int}{regs:List Int}{writes:List Rw}{u:Nat}(j:Nat)(h:j<(Wad rv regs writes u).kids.length):KT (Wad rv regs writes u) j (Wad rv regs writes u).kids[j]:=by
 have e:(Wad rv regs writes u).kids[j]={regs:=regs}:=by simp only[Wad,Xbe]
 rw[e];refine⟨(λh=>by cases h),?_,λ_ e he=>by cases he⟩;show(0:Int)=(j:Int)+1↔(0:Int)=2;omega
theorem Wv5(h:RT x)(h1:x.phase=1):RT (WfG w x k p).2:=by
 have hn:∀y:Rt,y.phase=1->y.phase≠2/\y.phase≠5:=λy hy=>by omega
 unfold WfG;split
 .exact Wnk h
 .simp only;generalize opN p.1 x.pc=o;split
  .exact Wuz h h1
  .split
   .unfold WcD;split
    .exact Wnk h
    .split
     .exact h.of rfl rfl (hn _ h1).1 (hn _ h1).2
     .exact h.of rfl rfl (hn _ h1).1 (hn _ h1).2
   .split
    .exact⟨h.pb,λ_=>.inr λj hj=>Wtu j hj,λhy=>by(change (2:Int)=5 at hy;omega)⟩
    .split
     .unfold Wcd;cases WaY w.holds ((k:Int)+1) (WaU o).1 (WaU o).2 with
      |none=>exact Wh1
      |some hs=>exact h.of rfl rfl (hn _ h1).1 (hn _ h1).2
     .repeat' split
      all_goals exact h.of rfl rfl (hn _ h1).1 (hn _ h1).2
theorem WqX(h:RT x)(h5:x.phase=5):RT (WaW w x k).2:=by
 unfold WaW;split
 .simp only;split
  .exact Wft
  .rename_i h8;refine⟨h.pb,λhy=>by(change x.phase=2 at hy;omega),λ_=>⟨?_,h8⟩⟩;have:=(h.cm h5).1;show(WaB x.cm).phase≠6;unfold WaB Waw
   repeat' split
   all_goals first|(simp only;omega)|exact this
 .show RT (WcL {x with cm:=(WD w.mem x.cm).2});generalize (WD w.mem x.cm).2=c;unfold WcL;split
  .exact Wft
  .rename_i h8;split
   .have:(if x.fate=2 then(6:Int)else 7)≠2/\(if x.fate=2 then(6:Int)else 7)≠5:=by split<;>omega
    exact h.of rfl rfl this.1 this.2
   .rename_i h6;exact⟨h.pb,λhy=>by(change x.phase=2 at hy;omega),λ_=>⟨h6,h8⟩⟩
theorem WpQ(h:RT x):RT (Wan w x k p).2:=by
 unfold Wan;by_cases hd:x.doomed=true/\1<=x.phase/\x.phase<=4
 .rw[Wb hd];exact Wft
 rw[Wa hd];by_cases h0:x.phase=0
 .rw[Wb h0];unfold WfA;split
  .exact h
  .split
   .exact h
   .split
    .exact h
    .exact RT.no rfl (by show(1:Int)≠2;omega) (by show(1:Int)≠5;omega)
 rw[Wa h0];by_cases h1:x.phase=1
 .rw[Wb h1];exact Wv5 h h1
 rw[Wa h1];by_cases h2:x.phase=2
 .rw[Wb h2];show RT (Wco x);unfold Wco;split
  .exact Wft
  .split
   .exact h.of rfl rfl (by show(1:Int)≠2;omega) (by show(1:Int)≠5;omega)
   .exact h
 rw[Wa h2];by_cases h3:x.phase=3
 .rw[Wb h3];unfold WbT;split
  .exact h.of rfl rfl (by show x.phase≠2;omega) (by show x.phase≠5;omega)
  .exact h.of rfl rfl (by show(4:Int)≠2;omega) (by show(4:Int)≠5;omega)
 rw[Wa h3];by_cases h4:x.phase=4
 .rw[Wb h4];show RT (Wbq w x);unfold Wbq;simp only;split
  .split
   .exact Wft
   .exact h.of rfl rfl (by show x.phase≠2;omega) (by show x.phase≠5;omega)
  .exact h.of rfl rfl (by show(1:Int)≠2;omega) (by show(1:Int)≠5;omega)
 rw[Wa h4];by_cases h5:x.phase=5
 .rw[Wb h5];exact WqX h h5
 rw[Wa h5];by_cases h6:x.phase=6
 .rw[Wb h6];by_cases hz:x.undos.length>0
  .rw[Wb hz];exact h.of rfl rfl (by show x.phase≠2;omega) (by show x.phase≠5;omega)
  .rw[Wa hz];exact h.of rfl rfl (by show(7:Int)≠2;omega) (by show(7:Int)≠5;omega)
 rw[Wa h6];by_cases h7:x.phase=7
 .rw[Wb h7];by_cases hf:x.fate=0
  .rw[Wb hf];exact RT.no rfl (by show(0:Int)≠2;omega) (by show(0:Int)≠5;omega)
  .rw[Wa hf];exact h.of rfl rfl (by show(8:Int)≠2;omega) (by show(8:Int)≠5;omega)
 .rw[Wa h7];exact h
end
section
variable{w:Wo}{x y:Rt}{k:Nat}{p:Pg}{n:Int}{o:Opn}{f:Fm}{codes:List (List Opn)}
theorem Wpd(hp:POk p)(hx:ROk p n x)(ht:RT x)(h:1<=x.phase/\x.phase<=4):(x.undos.length:Int)+3<=Ww p x:=by
 have hl:=hx.live h;have hs:=hl.spare;have hlen:=hp.code.len;by_cases h1:x.phase=1
 .have:=We5 hp.code hl ht h1;omega
 by_cases h2:x.phase=2
 .have aR:=hl.pc;obtain⟨f1,f2,f3⟩:=hl.fork h2;have e:Ww p x=if x.fam.lost=true then(x.undos.length:Int)+3 else 73-3*x.pc+Wl7 x.fam+Wbg x:=by unfold Ww;rw[Wa (by omega),Wb h2]
  rw[e];split
  .omega
  .have:=WpN x.fam x.fam.kids;unfold Wl7 Wbg;omega
 have hz:=hl.back (by omega);obtain⟨m1,m2,m3,m4,m5⟩:=Wld hp.code hl hz;have aR:=hl.pc;have yC:=Ws3 hp.code aR.2;by_cases h3:x.phase=3
 .have e:Ww p x=x.last.2.1+74-3*x.last.1+Wet p x.pc+Wbg x:=by unfold Ww;rw[Wa h1,Wa h2,Wb h3]
  rw[e];unfold Wbg;omega
 .have h4:x.phase=4:=by omega
  have cJ:=hl.pos h4;have e:Ww p x=x.last.2.1-x.pos+73-3*x.last.1+Wet p x.pc+Wbg x:=by unfold Ww;rw[Wa h1,Wa h2,Wa h3,Wb h4]
  rw[e];unfold Wbg;omega
theorem Wqr(hp:POk p)(hx:ROk p n x)(rK:RX x)(ht:RT x)(hk:k<=8)(h:1<=x.phase/\x.phase<=7):
  Ww p (Wan w x k p).2<Ww p x\/(x.phase=2/\x.fam.lost≠true/\Wbe x.fam≠true/\(Wan w x k p).2=x):=by
 unfold Wan;by_cases hd:x.doomed=true/\1<=x.phase/\x.phase<=4
 .rw[Wb hd];have:=Wpd hp hx ht hd.2;left;show Ww p (WdA x)<_;rw[Wfn];omega
 rw[Wa hd,Wa (by omega)];by_cases h1:x.phase=1
 .rw[Wb h1];exact .inl (Wtk hp.code hp.k3 (hx.live (by omega)) ht h1 hk λregs writes rv=>Wqs hp.k3)
 rw[Wa h1];by_cases h2:x.phase=2
 .rw[Wb h2];by_cases hq:x.fam.lost=true\/Wbe x.fam=true
  .exact .inl (Wq4 (hx.live (by omega)) hp.code ht h2 hq)
  .refine .inr ⟨h2,λh=>hq (.inl h),λh=>hq (.inr h),?_⟩;show Wco x=x;unfold Wco;rw[Wa (λh=>hq (.inl h)),Wa (λh=>hq (.inr h))]
 rw[Wa h2];by_cases h3:x.phase=3
 .rw[Wb h3];exact .inl (Wns hp.code (hx.live (by omega)) h3)
 rw[Wa h3];by_cases h4:x.phase=4
 .rw[Wb h4];exact .inl (WmW hp.code (hx.live (by omega)) ht h4)
 rw[Wa h4];by_cases h5:x.phase=5
 .rw[Wb h5];exact .inl (WnK (hx.comm h5) h5 (ht.cm h5) λhdm=>by
   rcases rK.doom hdm with h|h
   .omega
   .exact h.2)
 rw[Wa h5];left;by_cases h6:x.phase=6
 .rw[Wb h6];by_cases hz:x.undos.length>0
  .rw[Wb hz];exact Wg4 (.inr (.inr h6)) (by omega)
  .rw[Wa hz,Wo4 h6];show(1:Int)<_;omega
 .rw[Wa h6,Wb (by omega)];have e:Ww p x=1:=by unfold Ww;rw[show x.phase=7 by omega];rfl
  rw[e];by_cases hf:x.fate=0
  .rw[Wb hf];show(0:Int)<1;omega
  .rw[Wa hf];show(0:Int)<1;omega
theorem Wwj(f:Fm):Wfz f=(f.kids.length:Int) -f.kids.countP λx=>decide (x.phase=3):=by
 unfold Wfz;have:∀l:List Kd,Wdn WaG l=(l.length:Int) -l.countP λx=>decide (x.phase=3):=λl=>by
  induction l with
  |nil=>rfl
  |cons x l ih=>
   have e:Wdn WaG (x::l)=WaG x+Wdn WaG l:=by simp[Wdn]
   rw[e,ih,List.countP_cons,Xr];unfold WaG;by_cases h:x.phase=3
   .rw[Wb h,Wf h];simp;omega
   .rw[Wa h,Wu h];simp;omega
 exact this f.kids
theorem WuS(hF:FOk codes n f)(h3:codes.length<=3)(hl:∀c∈codes,c.length<=24)(hT:∀(j:Nat) (h:j<f.kids.length),KT f j f.kids[j]):Wl7 f<=381:=by
 have hlen:=hF.len;have hcl:=hF.clock;have hdn:=hF.done;have hC:=Wwj f;have Cf:=WkU f;have nq:f.clock<=0->∀x:Kd,∀k (h:k<f.kids.length),f.kids[k]=x->Wb7 f.clock x=0:=λh0 x k hk he=>by
  have:=(hF.kid k hk).since;rw[he]at this;unfold Wb7;rw[Wa (by omega)]
 have kr:Wdn (W7 f.clock) f.kids<=(if f.clock<=0 then 26 else 52)*Wfz f:=by
  have e:∀a:Int,Wdn (λx=>0+a*WaG x) f.kids=a*Wfz f:=λa=>by
   rw[Wlf (g:=λ_=>0)];have:∀l:List Kd,Wdn (λ_=>0) l=0:=λl=>by induction l with
    |nil=>rfl
    |cons x l ih=>simp only[Wdn,Xag,Xdc]at*;omega
   rw[this];unfold Wfz;omega
  rw[←e];refine Wjl λx hx=>?_;obtain⟨k,hk,he⟩:=Xbc hx;have aU:k<codes.length:=by omega
  have hK:=hF.kid k hk;rw[Wn aU,he]at hK;obtain⟨c1,c2,c3,c4⟩:=WeR hK (hl _ (Xw aU));have hb:=Wcy f.clock x;have bX:=hK.phase;unfold W7;by_cases p3:x.phase=3
  .have:Wbv x=0:=by unfold Wbv;rw[Wb p3]
   have hu:WaG x=0:=by unfold WaG;rw[Wb p3]
   rw[hu]at hb⊢;omega
  .have hu:WaG x=1:=WcZ p3;rw[hu]at hb⊢;split
   .rw[nq ‹_› x k hk he];omega
   .omega
 refine Wl0 (by omega) λx hx uO=>?_;obtain⟨k,hk,he⟩:=Xbc hx;have aU:k<codes.length:=by omega
 have hK:=hF.kid k hk;rw[Wn aU,he]at hK;have kC:=hT k hk;rw[he]at kC;obtain⟨l1,l2,l3⟩:=Wl1 hK (hl _ (Xw aU)) kC.pb;have hb:=Wcy f.clock x;unfold fP fQ;by_cases h0:f.clock<=0
 .rw[Wb h0]at kr;have hs:=nq h0 x k hk he;rw[hs];have:Wfz f=0\/Wfz f=1\/Wfz f=2\/Wfz f=3:=by omega
  rcases this with hu|hu|hu|hu<;>(rw[hu]at kr⊢;unfold tri;simp;omega)
 .rw[Wa h0]at kr;have:Wfz f=0\/Wfz f=1\/Wfz f=2:=by omega
  rcases this with hu|hu|hu<;>(rw[hu]at kr⊢;unfold tri;simp;omega)
theorem WrB(hp:POk p)(hx:ROk p n x)(ht:RT x):0<=Ww p x/\Ww p x<=808/\(1<=x.phase/\x.phase<=7->1<=Ww p x):=by
 have bX:=hx.phase;have dg:=hx.ul;have hlen:=hp.code.len;by_cases h:1<=x.phase/\x.phase<=4
 .have qP:=Wpd hp hx ht h;refine⟨by omega,?_,λ_=>by omega⟩;have hl:=hx.live h;have hs:=hl.spare;have aR:=hl.pc;have hu:=hl.ul;have hf1:Wet p x.pc<=382:=by unfold Wet;omega
  have fR:=Wf8 ht;by_cases h1:x.phase=1
  .rw[Wcn h1];unfold Wbg;omega
  by_cases h2:x.phase=2
  .obtain⟨f1,f2,f3⟩:=hl.fork h2;have e:Ww p x=if x.fam.lost=true then(x.undos.length:Int)+3 else 73-3*x.pc+Wl7 x.fam+Wbg x:=by unfold Ww;rw[Wa (by omega),Wb h2]
   rw[e];split
   .omega
   .rename_i ca;have:=WuS f3 hp.k3 (λc hc=>(hp.kids c hc).toCC.len) ((ht.fam h2).resolve_left ca);unfold Wbg;omega
  have hz:=hl.back (by omega);obtain⟨m1,m2,m3,m4,m5⟩:=Wld hp.code hl hz;have hM:=(hl.marks.each _ (Wgr hz zRM)).2.1;have vS:=WgJ p.1 (show x.last.1.toNat<=x.pc.toNat by omega);have Cz:=Wd3 hp.code x.pc.toNat (by omega);have hM':x.last.2.1<=x.last.1+72*frk p.1 x.last.1.toNat:=hM.2.1;have ni:Wet p x.pc=382*(1-frk p.1 x.pc.toNat):=rfl;by_cases h3:x.phase=3
  .have e:Ww p x=x.last.2.1+74-3*x.last.1+Wet p x.pc+Wbg x:=by unfold Ww;rw[Wa h1,Wa h2,Wb h3]
   rw[e,ni];unfold Wbg;omega
  .have h4:x.phase=4:=by omega
   have cJ:=hl.pos h4;have e:Ww p x=x.last.2.1-x.pos+73-3*x.last.1+Wet p x.pc+Wbg x:=by unfold Ww;rw[Wa h1,Wa h2,Wa h3,Wb h4]
   rw[e,ni];unfold Wbg;omega
 .have:x.phase=0\/x.phase=5\/x.phase=6\/x.phase=7\/x.phase=8:=by omega
  rcases this with h|h|h|h|h
  .have e:Ww p x=0:=by unfold Ww;rw[h];rfl
   omega
  .have hb:=Wg0 (hx.comm h);have e:Ww p x=Wag x.cm+x.undos.length+3:=by unfold Ww;rw[h];rfl
   omega
  .rw[Wo4 h];omega
  .have e:Ww p x=1:=by unfold Ww;rw[h];rfl
   omega
  .have e:Ww p x=0:=by unfold Ww;rw[h];rfl
   omega
end
section
def Wwg(m:Mm)(rv:Int):Prop:=∀i,0<=i->i<=7->(WN m i).2.2=0/\(WN m i).2.1<=rv
def pbV(m:Mm)(b:Bool)(q:Pb):Prop:=b=true->(0<=q.1/\q.1<=7)/\q.2.2.1=(WN m q.1).2.1
variable{m:Mm}{rv:Int}{q:Pb}{o:Opn}{x:Kd}{f:Fm}{k:Nat}{code:List Opn}{codes:List (List Opn)}{n:Int}
theorem WrW(h:Wwg m rv)(hc:0<=q.1/\q.1<=7)(hp:0<=q.2.1/\q.2.1<=2)(hv:1<=q.2.1->q.2.2.1=(WN m q.1).2.1):
  (WM m rv q).1=q.1/\(WM m rv q).2.1=q.2.1+1/\(WM m rv q).2.2.1=(WN m q.1).2.1:=by
 obtain⟨f1,f2⟩:=h q.1 hc.1 hc.2;have e:Xc m.2 (Xa q.1) (0,(0,0))=WN m q.1:=rfl;unfold WM;simp only[e,WC,WaP];have:q.2.1=0\/q.2.1=1\/q.2.1=2:=by omega
 rcases this with h0|h0|h0
 .rw[Wb h0,Wb f1,Wb f2,h0];exact⟨rfl,rfl,rfl⟩
 .have:=hv (by omega);rw[Wa (by omega),Wb h0,h0];exact⟨rfl,rfl,this⟩
 .have:=hv (by omega);rw[Wa (by omega),Wa (by omega),Wb h0,Wb f1,Wb this.symm,h0];exact⟨rfl,rfl,this⟩
theorem Wpo{b:Bool}{p:Pb}{c:Int}(hm:Wwg m rv)(hv:pbV m b p)(hb:b=true->p.2.1=1\/p.2.1=2)(hB:0<=c/\c<=7):
  (0<=(if b=true then p else(c,0,0,0)).1/\(if b=true then p else(c,0,0,0)).1<=7)/\(if b=true then p else(c,0,0,0)).2.1<=2/\
  (WM m rv (if b=true then p else(c,0,0,0))).1=(if b=true then p else(c,0,0,0)).1/\(WM m rv (if b=true then p else(c,0,0,0))).2.1=(if b=true then p else(c,0,0,0)).2.1+1/\
  (WM m rv (if b=true then p else(c,0,0,0))).2.2.1=(WN m (if b=true then p else(c,0,0,0)).1).2.1:=by
 by_cases h:b=true
 .rw[Wb h];have h1:=hv h;have h2:=hb h;exact⟨h1.1,by omega,WrW hm h1.1 (by omega) λ_=>h1.2⟩
 .rw[Wa h];exact⟨hB,by show(0:Int)<=2;omega,WrW hm hB (by show(0:Int)<=0/\(0:Int)<=2;omega) λh=>by(change (1:Int)<=0 at h;omega)⟩
structure FGd(m:Mm)(f:Fm):Prop where
 lost:f.lost=false
 free:Wwg m f.rv
 kid:∀(k:Nat) (h:k<f.kids.length),pbV m f.kids[k].busy f.kids[k].pb
theorem WuZ(hm:Wwg m f.rv)(hl:f.lost=false)(hv:pbV m x.busy x.pb)(hb:x.busy=true->x.pb.2.1=1\/x.pb.2.1=2)(hB:0<=o.2.2.1/\o.2.2.1<=7):
  (Wbn m f x o).1=f/\pbV m (Wbn m f x o).2.busy (Wbn m f x o).2.pb:=by
 unfold Wbn;cases WaF x.writes o.2.2.1 with
 |some v=>exact⟨rfl,hv⟩
 |none=>
  simp only;cases ent f.buf o.2.2.1 with
  |some r=>
   simp only;split
   .exact⟨rfl,(λh=>by cases h)⟩
   .exact⟨rfl,hv⟩
  |none=>
   simp only;obtain⟨hc,vE,hs⟩:=Wpo (b:=x.busy) (p:=x.pb) (c:=o.2.2.1) hm hv hb hB;generalize (if x.busy=true then x.pb else(o.2.2.1,0,0,0))=q0 at*;generalize WM m f.rv q0=q at*;obtain⟨s1,s2,s3⟩:=hs;rw[Wa (by omega)];split
   .exact⟨rfl,(λh=>by cases h)⟩
   .refine⟨rfl,λ_=>?_⟩;show(0<=q.1/\q.1<=7)/\q.2.2.1=(WN m q.1).2.1;rw[s1];exact⟨hc,s3⟩
theorem WuD(hm:Wwg m f.rv)(hl:f.lost=false)(aU:KC code)(hK:KOk code f.clock n x)(hv:pbV m x.busy x.pb)(ht:KT f k x):
  (WaN m f x k code).1.lost=false/\(WaN m f x k code).1.rv=f.rv/\(WaN m f x k code).1.kids=f.kids/\pbV m (WaN m f x k code).2.busy (WaN m f x k code).2.pb:=by
 have du:pbV m (f.again x).busy (f.again x).pb:=λh=>by cases h
 unfold WaN;split
 .rename_i h0;unfold Wgw;split
  .exact⟨hl,rfl,rfl,hv⟩
  .obtain⟨i,hi,aR,ho⟩:=Wdc (l:=code) hK.pc.1 (by have:=hK.pc;omega);simp only[ho];split
   .have aV:=WpI (aU.ok i hi).1 ‹_›;have hB:0<=code[i].2.2.1/\code[i].2.2.1<=7:=by have:=aV.2;unfold W8 at this;simpa using this
    obtain⟨a,b⟩:=WuZ (o:=code[i]) hm hl hv ht.pb hB;rw[a];exact⟨hl,rfl,rfl,b⟩
   .split
    .refine⟨hl,rfl,rfl,?_⟩;unfold Wel;split<;>exact hv
    .repeat' split
     all_goals exact⟨hl,rfl,rfl,hv⟩
 .split
  .split
   .exact⟨hl,rfl,rfl,hv⟩
   .exact⟨hl,rfl,rfl,hv⟩
  .split
   .split
    .exact⟨hl,rfl,rfl,hv⟩
    .simp only;split
     .exact⟨hl,rfl,rfl,hv⟩
     .exact⟨hl,rfl,rfl,du⟩
   .exact⟨hl,rfl,rfl,hv⟩
theorem Wt7(hF:FOk codes n f)(hT:∀(j:Nat) (h:j<f.kids.length),KT f j f.kids[j])(hg:FGd m f)(hk:k<f.kids.length)(aU:KC (codes.getD k [])):FGd m (Wax m f k (codes.getD k [])):=by
 have hg0:f.kids.getD k {}=f.kids[k]:=Wn hk _;unfold Wax;rw[Wa (by rw[hg.lost];simp),hg0];obtain⟨a,b,c,d⟩:=WuD (k:=k) hg.free hg.lost aU (hF.kid k hk) (hg.kid k hk) (hT k hk);refine⟨a,?_,λj hj=>?_⟩
 .show Wwg m (WaN m f f.kids[k] k (codes.getD k [])).1.rv;rw[b];exact hg.free
 .have hj':j<f.kids.length:=by rw[Wk3 c]at hj;exact hj
  rw[Whd hk c hj' hj];split
  .exact d
  .exact hg.kid j hj'
end
section
def lkA(c:Cm)(j:Nat):Prop:=(c.phase=1/\(j:Int)<c.pos)\/c.phase=2\/c.phase=3\/c.phase=4\/(c.phase=5/\c.pos<=j)\/(c.phase=7/\(j:Int)<=c.pos)
def lkd(c:Cm)(i:Int):Prop:=∃(j:Nat) (h:j<c.puts.length),c.puts[j].1=i/\lkA c j
def owner(m:Mm)(i:Int):Int:=(WN m i).2.2
structure CmLk(m:Mm)(c:Cm):Prop where
 own:∀i,0<=i->i<=7->(owner m i=c.who↔lkd c i)
 ver:c.phase=3\/c.phase=4\/c.phase=5->c.wv<=m.1/\∀i,lkd c i->(WN m i).2.1<=c.wv
section
variable{m:Mm}{c c':Cm}{i j:Int}{w:Wd}
theorem Wc0(hm:W3 m=true)(hi:0<=i/\i<=7)(hj:0<=j/\j<=7):WN (Wru m i w) j=if j=i then w else WN m j:=by
 have h8:=(WO hm).1;unfold WN Wru WjD Wa0;simp only;rw[Wn (show j.toNat<(m.2.set i.toNat w).length by rw[Xy];omega),Xam];by_cases h:j=i
 .subst h;rw[Wb rfl,Wb rfl]
 .rw[Wa (by omega),Wa h,Wn (show j.toNat<m.2.length by omega)]
theorem WeJ(hp:c'.puts=c.puts)(h:∀j:Nat,j<c.puts.length->(lkA c' j↔lkA c j)):lkd c' i↔lkd c i:=by
 unfold lkd;rw[hp];exact⟨λ⟨j,hj,a,b⟩=>⟨j,hj,a,(h j hj).1 b⟩,λ⟨j,hj,a,b⟩=>⟨j,hj,a,(h j hj).2 b⟩⟩
theorem WuB(h:CmOk c){a b:Nat}(ha:a<c.puts.length)(hb:b<c.puts.length)(e:c.puts[a].1=c.puts[b].1):a=b:=by
 have hp:=List.pairwise_iff_getElem.1 h.pup;rcases Nat.lt_trichotomy a b with h1|h1|h1
 .have:=hp a b ha hb h1;omega
 .exact h1
 .have:=hp b a hb ha h1;omega
theorem CmLk.same(h:CmLk m c)(hp:c'.puts=c.puts)(hw:c'.who=c.who)(hv:c'.wv=c.wv)(ha:∀j:Nat,j<c.puts.length->(lkA c' j↔lkA c j))(bX:c'.phase=3\/c'.phase=4\/c'.phase=5->c.phase=3\/c.phase=4\/c.phase=5):CmLk m c':=
 ⟨λi h0 h7=>by rw[hw,h.own i h0 h7,WeJ hp ha],λh3=>by
  obtain⟨a,b⟩:=h.ver (bX h3);rw[hv];exact⟨a,λi hi=>b i ((WeJ hp ha).1 hi)⟩⟩
theorem WlF(n:Int)(j:Nat)(hn:0<=n):lkA (Waw c n) j↔(j:Int)<n:=by
 by_cases h:n=0
 .have:Waw c n={c with phase:=8,pos:=0}:=by unfold Waw;rw[Wb h]
  rw[this];unfold lkA;simp only;omega
 .have:Waw c n={c with phase:=7,pos:=n-1}:=by unfold Waw;rw[Wa h]
  rw[this];unfold lkA;simp only;constructor
  .intro hz;omega
  .intro hz;right;right;right;right;right;exact⟨trivial,by omega⟩
theorem Wav(c:Cm)(ph:Int):(WP c ph).puts=c.puts/\(WP c ph).who=c.who/\(WP c ph).wv=c.wv:=by
 unfold WP WcR;split<;>exact⟨rfl,rfl,rfl⟩
theorem WcC(c:Cm)(n:Int):(Waw c n).puts=c.puts/\(Waw c n).who=c.who/\(Waw c n).wv=c.wv:=by
 unfold Waw;split<;>exact⟨rfl,rfl,rfl⟩
theorem WiR(c:Cm)(n:Int):(Waw c n).phase=7\/(Waw c n).phase=8:=by unfold Waw;split<;>simp
theorem Wj5(m:Mm)(c:Cm):(WD m c).2.who=c.who:=by
 unfold WD;simp only;have h1:=λph=>(Wav c ph).2.1;have h2:=λn=>(WcC c n).2.1
 repeat' split
 all_goals first|exact h1 _|exact h2 _|rfl
theorem WtF(h:CmOk c)(hm:W3 m=true)(hc:CmLk m c):CmLk (WD m c).1 (WD m c).2:=by
 have cJ:=h.pos;have bb:c.phase=1\/c.phase=4\/c.phase=5\/c.phase=7->c.steps=c.puts.length:=λhp=>by unfold Cm.steps;rw[Wb hp]
 have hw:=h.who;have gw:∀n:Int,0<=n->(∀j:Nat,j<c.puts.length->((j:Int)<n↔lkA c j))->CmLk m (Waw c n):=λn h0 hn=>by
  obtain⟨p1,p2,p3⟩:=WcC c n;refine hc.same p1 p2 p3 (λj hj=>by rw[WlF n j h0];exact hn j hj) λh3=>?_;rcases WiR c n with h|h<;>omega
 unfold WD;simp only;by_cases h1:c.phase=1
 .rw[Wb h1];obtain⟨j,hj,e1,e2,e3,e4⟩:=h.put (by omega);have hs:=bb (by omega);rw[e2];by_cases ho:(WN m c.puts[j].1).2.2=0
  .rw[Wb ho];obtain⟨p1,p2,p3⟩:=Wav c 2;have bX:∀l:Nat,l<c.puts.length->(lkA (WP c 2) l↔lkA c l\/l=j):=λl hl=>by
    unfold WP;by_cases cG:c.pos+1=c.steps
    .rw[Wb cG];have:(WcR c 2).phase=2:=by show Wbb c 2=2;unfold Wbb;rw[Wa (by omega),Wa (by omega)]
     unfold lkA;rw[this];omega
    .rw[Wa cG];unfold lkA;simp only;omega
   refine⟨λi h0 h7=>?_,λh3=>?_⟩
   .rw[p2];have hcl:=hc.own i h0 h7;unfold owner WjW at*;rw[Wc0 hm e3 ⟨h0,h7⟩];by_cases hi:i=c.puts[j].1
    .rw[Wb hi];refine⟨λ_=>⟨j,by rw[p1];exact hj,by simp only[p1];exact hi.symm,(bX j hj).2 (.inr rfl)⟩,λ_=>rfl⟩
    .rw[Wa hi,hcl];refine⟨λ⟨l,hl,a,b⟩=>⟨l,by rw[p1];exact hl,by simp only[p1];exact a,(bX l hl).2 (.inl b)⟩,λ⟨l,hl,a,b⟩=>?_⟩;simp only[p1]at hl a;rcases(bX l hl).1 b with b|b
     .exact⟨l,hl,a,b⟩
     .subst b;exact Wj a.symm hi
   .exfalso;have ve:(WP c 2).phase=1\/(WP c 2).phase=2:=by
     unfold WP;split
     .right;show Wbb c 2=2;unfold Wbb;rw[Wa (by omega),Wa (by omega)]
     .left;exact h1
    change (WP c 2).phase=3\/(WP c 2).phase=4\/(WP c 2).phase=5 at h3;omega
  .rw[Wa ho];exact gw _ (by omega) λl hl=>by unfold lkA;omega
 rw[Wa h1];by_cases h2:c.phase=2
 .rw[Wb h2];have ht:=WoI hm;by_cases hz:(tick m).2=0
  .rw[Wb hz,ht.2.2.2.2 hz];exact gw _ (by omega) λl hl=>by unfold lkA;omega
  .rw[Wa hz];obtain⟨t1,t2⟩:=ht.2.2.2.1 hz;have ax:∀i,WN (tick m).1 i=WN m i:=λi=>by rw[t2];rfl
   have bX:∀l:Nat,l<c.puts.length->(lkA (WcR {c with wv:=(tick m).2} 3) l↔lkA c l):=λl hl=>by
    have eb:c.puts.length≠0:=by omega
    change l<c.puts.length at hl;have:(WcR {c with wv:=(tick m).2} 3).phase=3\/(WcR {c with wv:=(tick m).2} 3).phase=4:=by
     show Wbb {c with wv:=(tick m).2} 3=3\/Wbb {c with wv:=(tick m).2} 3=4;unfold Wbb;rw[Wa (λhz=>eb hz.2)];split<;>simp
    unfold lkA;omega
   refine⟨λi h0 h7=>?_,λh3=>⟨by show(tick m).2<=(tick m).1.1;rw[t2];simp only;omega,λi hi=>?_⟩⟩
   .unfold owner;rw[ax];exact(hc.own i h0 h7).trans (WeJ (c':=WcR {c with wv:=(tick m).2} 3) (c:=c) rfl bX).symm
   .rw[ax];obtain⟨l,hl,a,b⟩:=hi;change l<c.puts.length at hl;change c.puts[l].1=i at a;have hr:=h.rows _ (Xw hl);have hcl:=WfP.1 (Wgq hm hr.1);rw[←a];show(WN m c.puts[l].1).2.1<=(tick m).2;omega
 rw[Wa h2];by_cases h3:c.phase=3
 .rw[Wb h3];split
  .exact gw _ (by omega) λl hl=>by unfold lkA;omega
  .obtain⟨p1,p2,p3⟩:=Wav c 4;refine hc.same p1 p2 p3 (λl hl=>?_) λ_=>.inl h3;unfold WP;split
   .have:(WcR c 4).phase=4:=by show Wbb c 4=4;unfold Wbb;rw[Wa (λhz=>by have:=hz.2;omega),Wa (by omega)]
    show lkA (WcR c 4) l↔lkA c l;unfold lkA;omega
   .unfold lkA;simp only;omega
 rw[Wa h3];by_cases h4:c.phase=4
 .rw[Wb h4];obtain⟨j,hj,e1,e2,e3,e4⟩:=h.put (by omega);have hs:=bb (by omega);rw[e2];obtain⟨p1,p2,p3⟩:=Wav c 5;have ax:∀i,0<=i->i<=7->(WN (WdE m c.puts[j].1 c.who c.puts[j].2) i).2=(WN m i).2:=λi h0 h7=>by
   unfold WdE;split
   .rw[Wc0 hm e3 ⟨h0,h7⟩];split
    .rename_i hi;rw[hi]
    .rfl
   .rfl
  have bX:∀l:Nat,l<c.puts.length->(lkA (WP c 5) l↔lkA c l):=λl hl=>by
   unfold WP;split
   .have:(WcR c 5).phase=5/\(WcR c 5).pos=0:=⟨WtG c,rfl⟩;unfold lkA;omega
   .unfold lkA;simp only;omega
  refine⟨λi h0 h7=>?_,λ_=>?_⟩
  .unfold owner;rw[ax i h0 h7,p2,WeJ p1 bX];exact hc.own i h0 h7
  .obtain⟨v1,v2⟩:=hc.ver (.inr (.inl h4));rw[p3];refine⟨by unfold WdE;split<;>exact v1,λi hi=>?_⟩;have ik:=(WeJ p1 bX).1 hi;obtain⟨l,hl,a,b⟩:=ik;have hr:=h.rows _ (Xw hl);rw[ax i (by omega) (by omega)];exact v2 i ⟨l,hl,a,b⟩
 rw[Wa h4];have uj:∀(ver:Int) (j:Nat) (hj:j<c.puts.length),0<=c.puts[j].1/\c.puts[j].1<=7->lkA c j->(WN m c.puts[j].1).2.1<=ver->ver<=m.1->Wbw m c.puts[j].1 c.who ver=Wru m c.puts[j].1 ((WN m c.puts[j].1).1,ver,0):=λver j hj uk hl u6 iy=>by
  have ho:=(hc.own c.puts[j].1 uk.1 uk.2).2 ⟨j,hj,rfl,hl⟩;unfold owner at ho;unfold Wbw;rw[Wb ⟨ho,u6,iy⟩]
 have ke:∀(ver:Int) (c':Cm) (j:Nat) (hj:j<c.puts.length),0<=c.puts[j].1/\c.puts[j].1<=7->c'.puts=c.puts->c'.who=c.who->c'.wv=c.wv->(∀l:Nat,l<c.puts.length->(lkA c' l↔lkA c l/\l≠j))->(c'.phase=3\/c'.phase=4\/c'.phase=5->c.phase=3\/c.phase=4\/c.phase=5)->CmLk (Wru m c.puts[j].1 ((WN m c.puts[j].1).1,ver,0)) c':=λver c' j hj uk p1 p2 p3 bX yg=>by
  have oa:∀i,lkd c' i↔lkd c i/\i≠c.puts[j].1:=λi=>by
   unfold lkd;rw[p1];refine⟨λ⟨l,hl,a,b⟩=>?_,λ⟨⟨l,hl,a,b⟩,hne⟩=>?_⟩
   .have:=(bX l hl).1 b;exact⟨⟨l,hl,a,this.1⟩,λhe=>this.2 (WuB h hl hj (a.trans he))⟩
   .exact⟨l,hl,a,(bX l hl).2 ⟨b,λhe=>hne (by subst he;exact a.symm)⟩⟩
  refine⟨λi h0 h7=>?_,λh3=>?_⟩
  .unfold owner;rw[Wc0 hm uk ⟨h0,h7⟩,p2,oa];by_cases hi:i=c.puts[j].1
   .rw[Wb hi];exact⟨λhz=>by(change (0:Int)=c.who at hz;omega),λhz=>Wj hi hz.2⟩
   .rw[Wa hi];exact⟨λhz=>⟨(hc.own i h0 h7).1 hz,hi⟩,λhz=>(hc.own i h0 h7).2 hz.1⟩
  .obtain⟨v1,v2⟩:=hc.ver (yg h3);rw[p3];refine⟨v1,λi hi=>?_⟩;have ik:=(oa i).1 hi;obtain⟨⟨l,hl,a,b⟩,hne⟩:=ik;have hr:=h.rows _ (Xw hl);rw[Wc0 hm uk (by rw[←a];exact hr.1),Wa hne];exact v2 i ⟨l,hl,a,b⟩
 by_cases h5:c.phase=5
 .rw[Wb h5];obtain⟨j,hj,e1,e2,e3,e4⟩:=h.put (by omega);have hs:=bb (by omega);rw[e2];obtain⟨v1,v2⟩:=hc.ver (.inr (.inr h5));have u0:lkA c j:=by unfold lkA;omega
  rw[uj c.wv j hj e3 u0 (v2 _ ⟨j,hj,rfl,u0⟩) v1];obtain⟨p1,p2,p3⟩:=Wav c 6;refine ke c.wv (WP c 6) j hj e3 p1 p2 p3 (λl hl=>?_) λ_=>.inr (.inr h5);unfold WP;split
  .have:(WcR c 6).phase=6:=WtE c;unfold lkA;omega
  .unfold lkA;simp only;omega
 rw[Wa h5];by_cases h7:c.phase=7
 .rw[Wb h7];obtain⟨j,hj,e1,e2,e3,e4⟩:=h.put (by omega);have hs:=bb (by omega);rw[e2];have u0:lkA c j:=by unfold lkA;omega
  have hcl:=WfP.1 (Wgq hm e3);rw[uj _ j hj e3 u0 (Xab _) hcl.2.1.2];obtain⟨p1,p2,p3⟩:=WcC c c.pos;refine ke _ (Waw c c.pos) j hj e3 p1 p2 p3 (λl hl=>?_) λh3=>?_
  .rw[WlF _ _ (by omega)];unfold lkA;omega
  .rcases WiR c c.pos with h|h<;>omega
 .rw[Wa h7];exact hc
theorem Wrf(h:CmOk c)(hc:CmLk m c):CmLk m (WaB c):=by
 have cJ:=h.pos;have gw:∀n:Int,0<=n->(∀j:Nat,j<c.puts.length->((j:Int)<n↔lkA c j))->CmLk m (Waw c n):=λn h0 hn=>by
  obtain⟨p1,p2,p3⟩:=WcC c n;refine hc.same p1 p2 p3 (λj hj=>by rw[WlF n j h0];exact hn j hj) λh3=>?_;rcases WiR c n with h|h<;>omega
 unfold WaB;split
 .exact gw _ (by omega) λl hl=>by unfold lkA;omega
 .split
  .exact gw _ (by omega) λl hl=>by unfold lkA;omega
  .exact hc
theorem WoX(c:Cm):(WaB c).who=c.who:=by
 have h2:=λn=>(WcC c n).2.1;unfold WaB
 repeat' split
 all_goals first|exact h2 _|rfl
theorem Wkg(h:CmOk c)(hm:W3 m=true){who:Int}(h1:who≠c.who)(h0:who≠0)(hi:0<=i/\i<=7):(owner (WD m c).1 i=who↔owner m i=who)/\(owner m i=who->WN (WD m c).1 i=WN m i):=by
 have bF:(owner m i=who↔owner m i=who)/\(owner m i=who->WN m i=WN m i):=⟨Iff.rfl,λ_=>rfl⟩;have eN:∀(a:Int) (wd:Wd),0<=a/\a<=7->(WN m a).2.2≠who->wd.2.2≠who->(owner (Wru m a wd) i=who↔owner m i=who)/\(owner m i=who->WN (Wru m a wd) i=WN m i):=λa wd ha hne hw=>by
  unfold owner;rw[Wc0 hm ha hi];by_cases hia:i=a
  .subst hia;rw[Wb rfl];exact⟨⟨λhz=>Wj hz hw,λhz=>Wj hz hne⟩,λhz=>Wj hz hne⟩
  .rw[Wa hia];exact⟨Iff.rfl,λ_=>rfl⟩
 unfold WD;simp only;by_cases p1:c.phase=1
 .rw[Wb p1];obtain⟨j,hj,e1,e2,e3,e4⟩:=h.put (by omega);rw[e2];by_cases ho:(WN m c.puts[j].1).2.2=0
  .rw[Wb ho];exact eN _ _ e3 (by omega) (by show c.who≠who;omega)
  .rw[Wa ho];exact bF
 rw[Wa p1];by_cases p2:c.phase=2
 .rw[Wb p2];have ht:=WoI hm;by_cases hz:(tick m).2=0
  .rw[Wb hz];simp only;rw[ht.2.2.2.2 hz];exact bF
  .rw[Wa hz];simp only;rw[(ht.2.2.2.1 hz).2];exact bF
 rw[Wa p2];by_cases p3:c.phase=3
 .rw[Wb p3];split<;>exact bF
 rw[Wa p3];by_cases p4:c.phase=4
 .rw[Wb p4];obtain⟨j,hj,e1,e2,e3,e4⟩:=h.put (by omega);rw[e2];unfold WdE;split
  .rename_i ho;exact eN _ _ e3 (by omega) (by show(WN m c.puts[j].1).2.2≠who;omega)
  .exact bF
 rw[Wa p4];by_cases p5:c.phase=5
 .rw[Wb p5];obtain⟨j,hj,e1,e2,e3,e4⟩:=h.put (by omega);rw[e2];unfold Wbw;split
  .rename_i ho;exact eN _ _ e3 (by omega) (by show(0:Int)≠who;omega)
  .exact bF
 rw[Wa p5];by_cases p7:c.phase=7
 .rw[Wb p7];obtain⟨j,hj,e1,e2,e3,e4⟩:=h.put (by omega);rw[e2];unfold Wbw;split
  .rename_i ho;exact eN _ _ e3 (by omega) (by show(0:Int)≠who;omega)
  .exact bF
 .rw[Wa p7];exact bF
end
end
end Go.Sx
