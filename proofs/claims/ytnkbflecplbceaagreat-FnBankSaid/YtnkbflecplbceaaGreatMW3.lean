/- Plain laws of the Lean functions. -/
import Derived.Test.YtnkbflecplbceaaGreatMW2
open Option renaming bind_some→Xd
open Int renaming toNat_natCast→Xj,toNat→Xb,le_refl→Xp,le_trans→Xey
open List renaming take→Xas,getD→Xc,length_take→Xap,length→Xa,length_map→Xaf,drop_length→Xdo,getElem_map→Xdx,drop_eq_getElem_cons→Xby,drop_zero→Xcc,set→Xl,replicate→Xw,set_getElem_self→Xbf,getElem_mem→Xq,mem_append→Xm,pairwise_append→Xag,mem_singleton→Xz,map_append→Xr,eq_nil_of_length_eq_zero→Xy,mem_of_mem_take→Xco,mem_map→Xv,all_eq_true→Xae,length_set→Xad,getElem_set→Xao,getElem_replicate→Xbj,foldl_cons→Xce,append_eq→Xah,mem_or_eq_of_mem_set→Xcw,mem_filter→Xav
open Bool renaming not_true→Xab,true_and→Xbq,and_eq_false_iff→Xcm,and_eq_true→Xh,and_self→Xbr,eq_false_iff→Xbz
open Nat renaming le_refl→Xn
namespace Go.Sx
set_option linter.unusedVariables false
set_option linter.unusedSimpArgs false
section
variable{N:Nat}{w:Wo}{k:Nat}{x:Rt}{o:Opn}{p:Pg}{n:Int}{code:List Opn}
theorem RLive.mk24(hc:CC p.1)(h:RLive p n x)(hz:x.marks.length≠0):∃(m:Nat) (q:List RM),x.marks=q++ [x.last]/\x.last.1=(m:Int)/\(∃hm:m<p.1.length,p.1[m].1=8)/\(m:Int)<x.pc/\Mate p.1 m (WiA p.1 m)/\x.pc<=WiA p.1 m/\stk p.1 m=(stk p.1 x.pc.toNat).dropLast/\x.marks.dropLast=q/\
  Vals 4 x.last.2.2.2.2/\(0<=x.last.2.1/\x.last.2.1<=x.last.1+72*frk p.1 x.last.1.toNat/\x.last.2.1<=x.reads.length)/\(0<=x.last.2.2.1/\x.last.2.2.1<=x.last.1+8/\x.last.2.2.1<=x.writes.length)/\0<=x.last.2.2.2.1/\x.last.2.2.2.1<=x.last.1/\x.last.2.2.2.1<=x.undos.length:=by
 have hp:=h.pc;obtain⟨m,q,y,e1,e2,e3,e4,e5,e6,e7,e8,e9⟩:=Who (d:=zRM) hc (show x.pc.toNat<=p.1.length by omega) h.marks.pcs hz;have hl:x.last=y:=e2;have hy:=h.marks.each y (by rw[e1];simp);rw[hl];exact⟨m,q,e1,e3,e4,by omega,e6,by omega,e8,by rw[e1];simp,hy⟩
theorem Wsr(hk:k<w.roots.length)(aD:w.roots[k]=x)(mH:k<=8)(hc:CC p.1)(hx:RLive p n x)(hu:∀u∈x.undos,UnV u)(hs:ShOk w.shelf)(hh:HOk w.holds)(hN:1048576<N):
  Zh1 N w.e (k:Int) p.1=some (((Wo.put (WbL w x k p.1) k).e,()),()):=by
 obtain⟨g1,g2,g3,g4,g5⟩:=woG hk aD;obtain⟨r0,r1,r2,r3,r4,r5,r6,r7,r8,km,jy,iF,iG,iX,iY,kZ,la,kn,ko,lb,ld,lg⟩:=rtP x;obtain⟨z1,z2,z3,z4,z5,z6⟩:=hx.sz hc;have hcl:=hc.len;unfold Zh1 WbL;simp only[Wz];rw[show P5 w.e=w.roots.map Rt.e from rfl,g4,g2];simp only[cond_true,Wu,iX,Wb];by_cases hz:x.marks.length=0
 .rw[if_pos (by omega),if_pos hz,g3,WlU hk aD mH hh hx.rv z5 z6 hN];rfl
 .rw[if_neg (by omega),if_neg hz,WoJ hz (by omega)];simp only[Xd,iY,War];obtain⟨m,q,e1,e2,⟨hm,lh⟩,e4,e5,e6,e7,e8,e9,eD,kj,kV,kW,jv⟩:=hx.mk24 hc hz;by_cases hgt:(x.undos.length:Int)>x.last.2.2.2.1
  .rw[if_pos hgt,if_pos hgt,g3,Xj,Wlf hk aD (by omega) (by omega) hu hs hN];rfl
  .rw[if_neg hgt,if_neg hgt];simp only[iG,iX];obtain⟨a,b,c,d⟩:=Wez hz (by omega) zRM;have d':(decide ((0:Int)<=W5 .i64 (x.marks.length:Int) 1)&&decide (W5 .i64 (x.marks.length:Int) 1<=(x.marks.length:Int)))=true:=d;have c':Xas (Xb (W5 .i64 (x.marks.length:Int) 1)) x.marks=x.marks.dropLast:=c;rw[d',c',Wbt (by rw[e9.len];omega),e2,Wac,decide_eq_true hm];have o1:Xc p.1 (Xb ((m:Nat):Int)) ((0,0,0,0):Opn)=opN p.1 (m:Int):=rfl;have hr:=Ww3 (hc.ok m hm).1 lh;rw[←Wlv hm]at hr;simp only[cond_true,ret,Xd,o1];rw[Wa9 hr e9.len];have b2:(decide ((0:Int)<=x.last.2.2.1)&&decide (x.last.2.2.1<=(x.writes.length:Int)))=true:=by simp;omega
   rw[b2];simp only[cond_true];rw[WdB (by rw[Xap];omega),Wiw (by omega) hN ⟨hm,lh⟩ e5];simp only[ret,Xd];rw[WcG (by have:=e5.len;omega),Xj];exact Wc8 rfl rfl rfl
theorem Wsg(hk:k<w.roots.length)(aD:w.roots[k]=x)(mH:k<=8)(hc:CC p.1)(hx:RLive p n x)(ho:Was o=true)(dv:12<=o.1)(hs:ShOk w.shelf)(hh:HOk w.holds)(hN:1048576<N):
  Zf5 N w.e (k:Int) o=some (((Wo.put (Wbs w x k o) k).e,()),()):=by
 obtain⟨g1,g2,g3,g4,g5⟩:=woG hk aD;obtain⟨r0,r1,r2,r3,r4,r5,r6,r7,r8,km,jy,iF,iG,iX,iY,kZ,la,kn,ko,lb,ld,lg⟩:=rtP x;obtain⟨z1,z2,z3,z4,z5,z6⟩:=hx.sz hc;have tS:=WkQ hh;have aF:=hx.pc;have hcl:=hc.len;have tn:(0<=(WaC o).1/\(WaC o).1<=8)/\1<=(WaC o).2/\(WaC o).2<=2:=by
  unfold WaC;have kU:=Wou ho;split
  .rename_i h;have:Wb6 o.2.1=true:=by
    rcases h with h|h
    .exact(Wt7 ho h).1
    .exact(Wtb ho h).1
   rw[WbR]at this;simp only;omega
  .split
   .have:=(Wv1 ho ‹_›).2;rw[WbR]at this;simp only;omega
   .split<;>(simp only;omega)
 unfold Zf5 Wbs;simp only[Wz,WgF];rw[show P5 w.e=w.roots.map Rt.e from rfl,g4,g2,WcG (by omega),Wlq ho dv,show P4 w.e=w.holds from rfl,show w.e.2.2.2.1=w.shelf from rfl];simp only[cond_true,Xd,WiI hh (show 1<=(k:Int)+1/\(k:Int)+1<=9 by omega) tn.1 tn.2 (by omega) hN,r3,jy,iY,Wex hx.spare];cases ha:WaT w.holds ((k:Int)+1) (WaC o).1 (WaC o).2 with
 |none=>
  simp only[Option.isSome_none,Bool.not_false,cond_true,Xj];exact Wc8 rfl rfl rfl
 |some bP=>
  simp only[Option.isSome_some,Xab,cond_false,Option.getD_some,Xj,WiB hs hx.regs ho dv hN,Xd,Wdj];rw[WcG (by omega),WC (by simp;omega)];by_cases hz:(Wbo w.shelf o x.regs).2.2.1=0
  .rw[if_pos hz,if_pos hz];exact Wc8 rfl rfl rfl
  .rw[if_neg hz,if_neg hz];exact Wc8 rfl rfl rfl
theorem Wv3(hk:k<w.roots.length)(aD:w.roots[k]=x)(mH:k<=8)(hp:POk p)(hx:RLive p n x)(hu:∀u∈x.undos,UnV u)(hm:WY w.mem=true)(hs:ShOk w.shelf)(hh:HOk w.holds)(hN:1048576<N):
  Zg8 N w.e (k:Int) p=some (((Wo.put (Wdx w x k p) k).e,()),()):=by
 obtain⟨g1,g2,g3,g4,g5⟩:=woG hk aD;obtain⟨r0,r1,r2,r3,r4,r5,r6,r7,r8,km,jy,iF,iG,iX,iY,kZ,la,kn,ko,lb,ld,lg⟩:=rtP x;have hc:=hp.code;obtain⟨z1,z2,z3,z4,z5,z6⟩:=hx.sz hc;have aF:=hx.pc;have hcl:=hc.len;have cZ:=hx.regs.len;unfold Zg8 Wdx;simp only[Wz];rw[show P5 w.e=w.roots.map Rt.e from rfl,g4,g2,g3];simp only[cond_true,r3,r4,jy,iF,iG,iX,iY,War,Wu,show Wb p.1=(p.1.length:Int)from rfl];by_cases fH:x.pc>=p.1.length
 .rw[if_pos fH,if_pos fH,WlU hk aD mH hh hx.rv z5 z6 hN];rfl
 .rw[if_neg fH,if_neg fH];obtain⟨j,hj,ej,eo⟩:=Wfk (l:=p.1) aF.1 (by omega);have wC:Xc p.1 (Xb x.pc) ((0,0,0,0):Opn)=opN p.1 x.pc:=rfl;have il:inb x.pc p.1.length=true:=by rw[ej,Wac];exact decide_eq_true hj
  rw[il];obtain⟨ok,o1,gV⟩:=hc.ok j hj;simp only[cond_true,wC];rw[←eo]at ok o1 gV;rw[WcG (show 0<=x.pc/\x.pc<=1000000 by omega)];have tp:(opN p.1 x.pc).1=9->x.marks.length≠0:=λh9 hz=>by
   have h1:=congrArg Xa hx.marks.pcs;simp only[Xaf,hz]at h1;have h2:=WbE hc.up j (by omega);have h3:=hc.up j hj;rw[WaG hj,Wk3 (by rw[←eo];exact h9)]at h3;rw[ej,Xj]at h1;omega
  generalize opN p.1 x.pc=o at*;have wB:o.1>=12->Zf5 N w.e (k:Int) o=some (((Wo.put (Wbs w x k o) k).e,()),()):=λdv=>Wsg hk aD mH hc hx ok dv hs hh hN;by_cases h5:o.1=5
  .rw[if_pos h5,if_pos h5,Xj,WtN hk aD hc hx hm h5 ok hN];rfl
  .rw[if_neg h5,if_neg h5];by_cases ci:o.1=10
   .rw[if_pos ci,if_pos ci,Wsr hk aD mH hc hx hu hs hh hN];rfl
   .rw[if_neg ci,if_neg ci];by_cases dg:o.1=11
    .rw[if_pos dg,if_pos dg,show Wb p.2=((p.2.length:Nat):Int)from rfl,Wje (by omega) (by omega) hp.k3 hN,Xj];exact Wc8 rfl rfl rfl
    .rw[if_neg dg,if_neg dg];by_cases dv:o.1>=12
     .rw[if_pos dv];have hb:=wB dv;have:o.1=12\/o.1=13\/o.1=14\/o.1=15\/o.1=16:=by omega
      rcases this with h|h|h|h|h
      .rw[if_pos h,if_pos h,hb];rfl
      .rw[if_neg (by omega),if_pos h,if_pos h,hb];rfl
      .rw[if_neg (by omega),if_neg (by omega),if_pos h,if_pos h,hb];rfl
      .rw[if_neg (by omega),if_neg (by omega),if_neg (by omega),if_pos h,if_pos h,hb];rfl
      .rw[if_neg (by omega),if_neg (by omega),if_neg (by omega),if_neg (by omega),if_pos h,hb];rfl
     .rw[if_neg dv,if_neg (show¬o.1=12 by omega),if_neg (show¬o.1=13 by omega),if_neg (show¬o.1=14 by omega),if_neg (show¬o.1=15 by omega),if_neg (show¬o.1=16 by omega)];by_cases h6:o.1=6
      .rw[if_pos h6,if_pos h6,Wa9 (Ww2 ok h6).2 cZ,WC (by simp;omega),Xj];exact Wc8 rfl rfl rfl
      .rw[if_neg h6,if_neg h6];by_cases h7:o.1=7
       .rw[if_pos h7,if_pos h7];have h:=Wv8 ok h7;rw[Wa9 h.1 cZ,Ww (a:=x.pc) (b:=o.2.2.1) (by unfold I64;omega),WcG (a:=x.pc+o.2.2.1) (by omega),Xj];by_cases hg:Xc x.regs (Xb o.2.1) 0=0
        .rw[if_pos hg,if_pos (show Wbi x.regs o.2.1 0=0 from hg)];exact Wc8 rfl rfl rfl
        .rw[if_neg hg,if_neg (show¬Wbi x.regs o.2.1 0=0 from hg)];exact Wc8 rfl rfl rfl
       .rw[if_neg h7,if_neg h7];by_cases h8:o.1=8
        .rw[if_pos h8,if_pos h8,Wbt (by omega)];simp only[ret,Xd];rw[WC (by simp;omega),Xj];exact Wc8 rfl rfl rfl
        .rw[if_neg h8,if_neg h8];by_cases h9:o.1=9
         .rw[if_pos h9,if_pos h9];have hz:=tp h9;obtain⟨a,b,c,d⟩:=Wez hz (by omega) zRM;obtain⟨m,q,e1,e2,⟨ii,lh⟩,e4,e5,e6,e7,e8,e9,eD,kj,kV,kW,jv⟩:=hx.mk24 hc hz;rw[WlW hz (by omega)];simp only[Xd];rw[d,c,e2,Wac,decide_eq_true ii];have o1:Xc p.1 (Xb ((m:Nat):Int)) ((0,0,0,0):Opn)=opN p.1 (m:Int):=rfl;have hr:=Ww3 (hc.ok m ii).1 lh;rw[←Wlv ii]at hr;simp only[cond_true,o1];rw[Wa9 hr cZ,Xj];exact Wc8 rfl rfl rfl
         .rw[if_neg h9,if_neg h9,WhA hN ok (by omega) (by omega) hx.regs,Xj];exact Wc8 rfl rfl rfl
theorem Wud(hk:k<w.roots.length)(aD:w.roots[k]=x)(kp:w.roots.length<=8)(hN:1048576<N):
  Ze7 N w.e (k:Int)=some (((Wo.put (Wc9 w x k) k).e,()),()):=by
 obtain⟨g1,g2,g3,g4,g5⟩:=woG hk aD;have eE:=Wo9 hk aD;have cZ:(w.roots.map Rt.e).length=w.roots.length:=by simp
 unfold Ze7;rw[show P5 w.e=w.roots.map Rt.e from rfl,g4,g2,WcG (by omega),Xj];simp only[cond_true,Wdj,Wu,War,show w.e.2.1=w.token from rfl,show x.e.2.1=x.tries from rfl,show w.e.1=w.now from rfl,show w.e.2.2.1.1=w.mem.1 from rfl];have oo:∀(K0:Bool->Int->Bool->Option ((Y_World×Unit)×Unit)) (d j n:Nat) (al:Bool),j+d=w.roots.length->d<n->
   Zav N (k:Int) k (Wb (w.roots.map Rt.e)) w.now w.token w.mem.1 w.e.2.2.2.1.2 (w.roots.map Rt.e) w.e.2.2.1.2 w.e.2.2.2.1.1 (P4 w.e) (Q6 w.e) K0 n al (j:Int)=K0 (al&&Waa k (w.roots.drop j) j) (w.roots.length:Int) false:=by
  intro K0 d
  induction d with
  |zero=>
   intro j n al hj hn;obtain⟨n,rfl⟩:∃n',n=n'+1:=⟨n-1,by omega⟩;have:j=(w.roots.map Rt.e).length:=by omega
   rw[Zav,this,WaH (Xn _),cZ,Xdo];simp[Waa]
  |succ d ih=>
   intro j n al hj hn;obtain⟨n,rfl⟩:∃n',n=n'+1:=⟨n-1,by omega⟩;have hlt:j<(w.roots.map Rt.e).length:=by omega
   have wF:j<w.roots.length:=by omega
   rw[Zav];simp only[Wao hlt,Wv hlt,WB hlt,Wk (show j<4611686018427387904 by omega),cond_true,ih (j+1) n _ (by omega) (by omega),Xdx];rw[Xby wF,Waa];generalize Waa k (w.roots.drop (j+1)) (j+1)=b;have hp:(Rt.e w.roots[j]).1=w.roots[j].phase:=rfl;rw[hp];simp only[Wu];cases al with
   |false=>simp
   |true=>
    simp only[cond_true,Xbq];by_cases h1:j=k
    .rw[if_pos (by omega),decide_eq_true h1];simp
    .rw[if_neg (by omega),decide_eq_false h1];by_cases h2:w.roots[j].phase=0
     .rw[if_pos h2,decide_eq_true h2];simp
     .rw[if_neg h2,decide_eq_false h2];have:(w.roots[j].phase==8)=decide (w.roots[j].phase=8):=by
       by_cases h3:w.roots[j].phase=8<;>simp[h3]
      rw[this];simp
 have:=oo;refine(oo _ w.roots.length 0 N true (by omega) (by omega)).trans ?_;rw[Xcc,Xbq];unfold Wc9;have cF:some ((S5 (Xl (w.roots.map Rt.e) k ((1:Int),(x.tries,((0:Int),((0:Int),(w.mem.1,((0:Int),((0:Int),((0:Int),((0:Int),(w.now,((0:Int),(false,(Xw (Xb (4:Int)) (0:Int),(([]:List Kc),(([]:List Kc),(([]:List Ki),(([]:List Kb),(([]:List Int),(false,(((0:Int),((0:Int),((0:Int),(0:Int)))),(((0:Int),((0:Int),((0:Int),((0:Int),((0:Int),(([]:List Kc),([]:List Int))))))),d_Family)))))))))))))))))))))) w.e,()),())=some (((Wo.put (w,{phase:=1,tries:=x.tries,rv:=w.mem.1,began:=w.now,regs:=[0,0,0,0]}) k).e,()),()):=Wc8 (x':={phase:=1,tries:=x.tries,rv:=w.mem.1,began:=w.now,regs:=[0,0,0,0]}) (w':=w) rfl rfl rfl;have wG:some (((w.now,((k:Int)+1,w.e.2.2)),()),())=some (((Wo.put ({w with token:=(k:Int)+1},x) k).e,()),()):=by
  have:Wo.put ({w with token:=(k:Int)+1},x) k={w with token:=(k:Int)+1}:=by unfold Wo.put;simp only;rw[←aD,Xbf]
  rw[this];rfl
 have aq:(((decide ((0:Int)<=(4:Int)))&&(decide ((4:Int)<=(4:Int))))&&(WG (Xb (4:Int))))=true:=rfl;have bj:some ((w.e,()),())=some (((Wo.put (w,x) k).e,()),()):=by rw[eE]
 rw[aq];simp only[cond_true,cF];by_cases t0:w.token=0
 .rw[if_pos t0];rw[if_neg (show¬(w.token≠0/\w.token≠(k:Int)+1) by omega)];by_cases ht:x.tries>=3
  .rw[if_pos ht,if_pos t0,if_pos ⟨ht,t0⟩];exact wG
  .rw[if_neg ht,if_neg (show¬w.token=(k:Int)+1 by omega),if_neg (λh=>ht h.1),if_neg (by omega)]
 .rw[if_neg t0];by_cases t1:w.token=(k:Int)+1
  .rw[if_pos t1,if_neg (show¬(w.token≠0/\w.token≠(k:Int)+1) by omega),if_neg (show¬(x.tries>=3/\w.token=0) by omega)];have fe:∀b:Bool,(bif !b then some ((w.e,()),())else some (((Wo.put (w,{phase:=1,tries:=x.tries,rv:=w.mem.1,began:=w.now,regs:=[0,0,0,0]}) k).e,()),()))=some (((Wo.put (if w.token=(k:Int)+1/\b=false then(w,x)else(w,{phase:=1,tries:=x.tries,rv:=w.mem.1,began:=w.now,regs:=[0,0,0,0]})) k).e,()),()):=λb=>by
    cases b with
    |false=>rw[if_pos ⟨t1,rfl⟩];exact bj
    |true=>rw[if_neg (by simp)];rfl
   by_cases ht:x.tries>=3
   .rw[if_pos ht,if_neg t0,if_pos t1];exact fe _
   .rw[if_neg ht,if_pos t1];exact fe _
  .rw[if_neg t1,if_pos ⟨t0,t1⟩];exact bj
theorem WuA(hp:POk p)(hx:RLive p n x)(h2:x.phase=2)(hN:1048576<N):Zg9 N x.e=some (((WbN x).e,()),()):=by
 obtain⟨r0,r1,r2,r3,r4,r5,r6,r7,r8,km,jy,iF,iG,iX,iY,kZ,la,kn,ko,lb,ld,lg⟩:=rtP x;have hc:=hp.code;obtain⟨z1,z2,z3,z4,z5,z6⟩:=hx.sz hc;obtain⟨f1,f2,f3⟩:=hx.fork h2;have aF:=hx.pc;have hcl:=hc.len;have qu:x.fam.kids.length<=3:=by have:=f3.len;have:=hp.k3;omega
 have qr:=f3.len3 hp.k3;have nF:=f3.readsL;unfold Zg9 WbN;simp only[r3,iF,ko,lb,ld,lg,We1,Xd];rw[WmR qu hN,WlB f3.regs qu (λy hy=>by
  obtain⟨i,hi,rfl⟩:=List.getElem_of_mem hy;rw[(f3.kid i hi).regs.len];omega) hN,Wm3 (by have:=f3.buf8;omega) hN,WC (by omega),Wbt (by omega),WcG (by omega),WhP]
 by_cases hl:x.fam.lost=true
 .rw[if_pos hl,if_pos hl]
 .rw[if_neg hl,if_neg hl];simp only[ret,Xd,cond_true];cases ho:Wbd x.fam
  .rw[if_neg (by simp)];rfl
  .rw[if_pos rfl];rfl
theorem Wp9(hk:k<w.roots.length)(aD:w.roots[k]=x)(hp:POk p)(hx:RLive p n x)(h4:x.phase=4)(hm:WY w.mem=true):
  Zfk N w.e k=some (((Wo.put (w,Waz w x) k).e,()),()):=by
 obtain⟨g1,g2,g3,g4,g5⟩:=woG hk aD;obtain⟨r0,r1,r2,r3,r4,r5,r6,r7,r8,km,jy,iF,iG,iX,iY,kZ,la,kn,ko,lb,ld,lg⟩:=rtP x;have hc:=hp.code;obtain⟨z1,z2,z3,z4,z5,z6⟩:=hx.sz hc;have hz:=hx.back (.inr h4);obtain⟨m,q,e1,e2,⟨ii,lh⟩,e4,e5,e6,e7,e8,e9,eD,kj,kV,kW,jv⟩:=hx.mk24 hc hz;have bK:=hx.pos h4;have aF:=hx.pc;have hcl:=hc.len;unfold Zfk Waz;simp only[Wz];rw[show P5 w.e=w.roots.map Rt.e from rfl,g1,WoJ hz (by omega)];simp only[Xd,r4,r5,r6,iF,iG,War,We1,show w.e.2.2.1.2=w.mem.2 from rfl];by_cases hlt:x.pos<x.last.2.1
 .rw[if_pos hlt,if_pos hlt];have hj:x.pos.toNat<x.reads.length:=by omega
  have il:inb x.pos x.reads.length=true:=by unfold inb;simp;omega
  have hg:Xc x.reads (Xb x.pos) ((0:Int),(0:Int))=Wbi x.reads x.pos (0,0):=rfl;have hv:0<=(Wbi x.reads x.pos (0,0)).1/\(Wbi x.reads x.pos (0,0)).1<=7:=by
   unfold Wbi;rw[Wf hj];exact(hx.reads _ (Xq hj)).1
  rw[il,hg,Wg9 hm hv,show Xc w.mem.2 (Xb (Wbi x.reads x.pos (0,0)).1) ((0:Int),((0:Int),(0:Int)))=Wg w.mem (Wbi x.reads x.pos (0,0)).1 from rfl,WcG (by omega)];simp only[cond_true,Wdj];by_cases a:(Wg w.mem (Wbi x.reads x.pos (0,0)).1).2.2=0
  .rw[if_pos a];by_cases b:(Wg w.mem (Wbi x.reads x.pos (0,0)).1).2.1>x.rv
   .rw[if_pos b,if_pos (.inr b)];exact Wc8 rfl rfl rfl
   .rw[if_neg b,if_neg (by omega)];exact Wc8 rfl rfl rfl
  .rw[if_neg a,if_pos (.inl a)];exact Wc8 rfl rfl rfl
 .rw[if_neg hlt,if_neg hlt];have b1:(decide ((0:Int)<=x.last.2.1)&&decide (x.last.2.1<=(x.reads.length:Int)))=true:=by simp;omega
  have b2:(decide ((0:Int)<=x.last.2.2.1)&&decide (x.last.2.2.1<=(x.writes.length:Int)))=true:=by simp;omega
  rw[b1,b2,WdB (by rw[Xap];omega),WdB (by rw[Xap];omega),Wbt (by rw[e9.len];omega),WcG (by omega)];simp only[cond_true,ret,Xd];exact Wc8 rfl rfl rfl
theorem Wql(hk:k<w.roots.length)(aD:w.roots[k]=x)(mH:k<=8)(ie:CmOk x.cm)(hm:WY w.mem=true)(hh:w.hist.length<=500000)(hN:1048576<N):
  Zfl N w.e (k:Int)=some (((Wo.put (W4 w x k) k).e,()),()):=by
 obtain⟨g1,g2,g3,g4,g5⟩:=woG hk aD;obtain⟨r0,r1,r2,r3,r4,r5,r6,r7,r8,km,jy,iF,iG,iX,iY,kZ,la,kn,ko,lb,ld,lg⟩:=rtP x;have ay:=WlZ ie hm;unfold Zfl W4;simp only[Wz,WgF];rw[show P5 w.e=w.roots.map Rt.e from rfl,g4,g2,WcG (by omega),Xj];simp only[cond_true,r7,km,kn,show w.e.2.2.1=w.mem from rfl,show Q6 w.e=w.hist from rfl];rw[WhP];by_cases hd:x.doomed=true
 .rw[if_pos hd,if_pos hd];obtain⟨b,hb⟩:=Wsy (N:=N) ie hN;rw[hb];simp only[Xd,Wu,show(Wx x.cm).e.2.2.1=(Wx x.cm).phase from rfl];by_cases h8:(Wx x.cm).phase=8
  .rw[if_pos h8,if_pos h8];have:S20 (Wx x.cm).e (S11 false x.e)=Rt.e {x with cm:=Wx x.cm,doomed:=false}:=rfl;rw[this,We1];exact Wc8 rfl rfl rfl
  .rw[if_neg h8,if_neg h8];exact Wc8 rfl rfl rfl
 .rw[if_neg hd,if_neg hd,WmO ie hm hN];simp only[Xd];obtain⟨m',c',hq⟩:∃m' c',Wi w.mem x.cm=(m',c'):=⟨_,_,rfl⟩;rw[hq]at ay⊢;simp only at ay⊢;have jx:Zbj N (P5 c'.e)=ret c'.puts:=WdB (by have:=ay.1.plen;show c'.puts.length<=1048576;omega);have hS:S20 c'.e x.e=Rt.e {x with cm:=c'}:=rfl;rw[jx,hS,We1];simp only[ret,Xd];rw[WC (by simp;omega)];simp only[cond_true,Wu,War,show c'.e.2.2.1=c'.phase from rfl,show(Cm.e x.cm).2.2.1=x.cm.phase from rfl,show P4 c'.e=c'.wv from rfl];unfold Wab;simp only;by_cases h3:x.cm.phase<=3
  .rw[if_pos h3];by_cases h4:c'.phase=4
   .rw[if_pos h4,if_neg (by omega),if_neg (by omega),if_pos (show x.cm.phase<=3/\c'.phase=4 from⟨h3,h4⟩),if_neg (by omega),if_neg (by omega)];exact Wc8 (w':={w with mem:=m',hist:=w.hist++ [(c'.wv,(k:Int)+1,c'.puts)]}) rfl rfl rfl
   .rw[if_neg h4,if_neg (show¬(x.cm.phase<=3/\c'.phase=4)fromλh=>h4 h.2)];by_cases h8:c'.phase=8
    .rw[if_pos h8,if_pos h8];exact Wc8 (w':={w with mem:=m'}) rfl rfl rfl
    .rw[if_neg h8,if_neg h8];by_cases h6:c'.phase=6
     .rw[if_pos h6,if_pos h6];by_cases h2:x.fate=2
      .rw[if_pos h2,if_pos h2];exact Wc8 (w':={w with mem:=m'}) rfl rfl rfl
      .rw[if_neg h2,if_neg h2];exact Wc8 (w':={w with mem:=m'}) rfl rfl rfl
     .rw[if_neg h6,if_neg h6];exact Wc8 (w':={w with mem:=m'}) rfl rfl rfl
  .rw[if_neg h3,if_neg (show¬(x.cm.phase<=3/\c'.phase=4)fromλh=>h3 h.1)];by_cases h8:c'.phase=8
   .rw[if_pos h8,if_pos h8];exact Wc8 (w':={w with mem:=m'}) rfl rfl rfl
   .rw[if_neg h8,if_neg h8];by_cases h6:c'.phase=6
    .rw[if_pos h6,if_pos h6];by_cases h2:x.fate=2
     .rw[if_pos h2,if_pos h2];exact Wc8 (w':={w with mem:=m'}) rfl rfl rfl
     .rw[if_neg h2,if_neg h2];exact Wc8 (w':={w with mem:=m'}) rfl rfl rfl
    .rw[if_neg h6,if_neg h6];exact Wc8 (w':={w with mem:=m'}) rfl rfl rfl
end
section
section
variable{code:List Opn}{pc cu rl wl ul rf kY rh:Nat}{ms q:List RM}{y:RM}{n n':Int}{x:Rt}{w:Wo}{p:Pg}{k:Nat}{o:Opn}
theorem WhW(code:List Opn){a b:Nat}(h:a<=b):frk code a<=frk code b:=by
 unfold frk;exact List.Sublist.countP_le (List.take_sublist_take_left h)
theorem RMk.mono(h:RMk code pc ms rl wl ul)(hs:stk code cu=stk code pc)(h1:rl<=rf)(h2:wl<=kY)(h3:ul<=rh):RMk code cu ms rf kY rh:=
 ⟨by rw[hs];exact h.pcs,λq hq=>by obtain⟨a,b,c,d⟩:=h.each q hq;exact⟨a,by omega,by omega,by omega⟩,h.up⟩
theorem RMk.cut(h:RMk code pc ms rl wl ul)(rb:ms=q++ [y])(h1:y.2.1<=rf)(h2:y.2.2.1<=kY)(h3:y.2.2.2.1<=rh):RMk code pc ms rf kY rh:=by
 refine⟨h.pcs,λa ha=>?_,h.up⟩;obtain⟨c1,c2,c3,c4⟩:=h.each a ha;have hle:a.2.1<=y.2.1/\a.2.2.1<=y.2.2.1/\a.2.2.2.1<=y.2.2.2.1:=by
  have hu:=h.up;rw[rb]at ha hu;rcases Xm.1 ha with ha|ha
  .exact(Xag.1 hu).2.2 a ha y (by simp)
  .rw[Xz]at ha;subst ha;omega
 exact⟨c1,by omega,by omega,by omega⟩
theorem RMk.begin(h:RMk code pc ms rl wl ul)(hp:pc<code.length)(h8:code[pc].1=8){regs:List Int}(hr:Vals 4 regs)(h1:rl<=pc+72*frk code pc)(h2:wl<=pc+8)(h3:ul<=pc):
  RMk code (pc+1) (ms++ [((pc:Int),(rl:Int),(wl:Int),(ul:Int),regs)]) rl wl ul:=by
 refine⟨?_,?_,?_⟩
 .rw[Wi3 hp h8,Xr,Xr,h.pcs];rfl
 .intro q hq;rcases Xm.1 hq with hq|hq
  .exact h.each q hq
  .rw[Xz]at hq;subst hq;refine⟨hr,?_,?_,?_⟩
   .simp only[Xj];omega
   .simp only;omega
   .simp only;omega
 .refine Xag.2 ⟨h.up,List.pairwise_singleton _ _,λa ha b hb=>?_⟩;rw[Xz]at hb;subst hb;obtain⟨c1,c2,c3,c4⟩:=h.each a ha;exact⟨c2.2.2,c3.2.2,c4.2.2⟩
theorem RMk.drop(h:RMk code pc ms rl wl ul)(rb:ms=q++ [y])(hs:stk code cu=(stk code pc).dropLast)(h1:y.2.1<=rf)(h2:y.2.2.1<=kY)(h3:y.2.2.2.1<=rh):RMk code cu q rf kY rh:=by
 have h':=h.cut rb h1 h2 h3;subst rb;have e:=h.pcs;refine⟨?_,λa ha=>h'.each a (List.mem_append_left _ ha),(Xag.1 h.up).1⟩;rw[hs,List.map_dropLast,←e,Xr];simp
theorem RLive.wk(h:RLive p n x)(hn:n<=n'):RLive p n' x:={h with fork:=λh2=>by obtain⟨a,b,c⟩:=h.fork h2;exact⟨a,b,c.wk hn⟩}
theorem ROk.wk(h:ROk p n x)(hn:n<=n'):ROk p n' x:={h with tries:=by have:=h.tries;omega,live:=λhl=>(h.live hl).wk hn}
theorem RLive.on(aG:CC p.1)(h:RLive p n x)(h1:x.phase=1){i:Nat}(hi:i<p.1.length)(aF:x.pc=i){regs:List Int}{reads writes:List Rw}{marks:List RM}{undos:List Un}{busy:Bool}{pb:Pb}{cu:Nat}
  (hp:cu<=p.1.length) (hlt:i<cu) (hr:Vals 4 regs) (nF:Wi1 reads) (cZ:reads.length<=x.reads.length+1) (fo:Wi1 writes) (qp:writes.length<=x.writes.length+1) (cG:undos.length<=x.undos.length+1) (hm:RMk p.1 cu marks reads.length writes.length undos.length) (hb:busy=true->Wlp pb=true):
  RLive p n {x with regs:=regs,reads:=reads,writes:=writes,marks:=marks,undos:=undos,busy:=busy,pb:=pb,pc:=(cu:Int)} where
 pc:=by show(0:Int)<=(cu:Int)/\(cu:Int)<=_;omega
 spare:=h.spare
 rv:=h.rv
 regs:=hr
 reads:=nF
 rl:=by
  have h2:=h.rl;have h3:=WhW p.1 (show i<=cu by omega);rw[aF,Xj]at h2;show(reads.length:Int)<=(cu:Int)+72*(frk p.1 ((cu:Nat):Int).toNat:Int);rw[Xj];omega
 writes:=fo
 wl:=by have:=h.wl;show(writes.length:Int)<=(cu:Int)+8;omega
 ul:=by have:=h.ul;show(undos.length:Int)<=(cu:Int);omega
 marks:=by show RMk p.1 ((cu:Nat):Int).toNat _ _ _ _;rw[Xj];exact hm
 pb:=hb
 fork:=λh2=>by(change x.phase=2 at h2;omega)
 back:=λh2=>by(change x.phase=3\/x.phase=4 at h2;omega)
 newRv:=h.newRv
 pos:=λh2=>by(change x.phase=4 at h2;omega)
 unw:=λh2=>by(change x.phase=4 at h2;omega)
theorem Vals.le4{r:List Int}(h:Vals 4 r):r.length<=4:=Nat.le_of_eq h.len
theorem WeU(h:ROk p n x):ROk p n (WbZ x) where
 phase:=by show(0:Int)<=6/\(6:Int)<=8;omega
 tries:=h.tries
 live:=λh=>by(change (1:Int)<=6/\(6:Int)<=4 at h;omega)
 comm:=λh=>by(change (6:Int)=5 at h;omega)
 undos:=h.undos
 ul:=h.ul
 rg:=by show([]:List Int).length<=4;simp
 ord:=by show([]:List Int).length<=3;simp
theorem Whm(h:ROk p n x)(hl:RLive p n x):ROk p n (Wy x):=by
 unfold Wy;split
 .exact WeU h
 .rename_i hc;exact{h with
   phase:=by show(0:Int)<=3/\(3:Int)<=8;omega
   live:=λ_=>{hl with
    spare:=by have:=hl.spare;show 0<=x.spare+1/\x.spare+1<=2;omega
    pb:=λh=>by cases h
    fork:=λh=>by(change (3:Int)=2 at h;omega)
    back:=λ_=>by show x.marks.length≠0;omega
    pos:=λh=>by(change (3:Int)=4 at h;omega)
    unw:=λh=>by(change (3:Int)=4 at h;omega)}
   comm:=λh=>by(change (3:Int)=5 at h;omega)}
structure QOk(p:Pg)(n:Int)(w:Wo)(q:Wo×Rt):Prop where
 root:ROk p n q.2
 mem:WY q.1.mem=true
 shelf:ShOk q.1.shelf
 holds:HOk q.1.holds
 hist:q.1.hist.length<=w.hist.length+1
 histE:∀h∈q.1.hist,h∈w.hist\/HE h
 roots:q.1.roots=w.roots
 now:q.1.now=w.now
structure GOk(w:Wo):Prop where
 mem:WY w.mem=true
 shelf:ShOk w.shelf
 holds:HOk w.holds
theorem GOk.st(h:GOk w){y:Rt}(hy:ROk p n y):QOk p n w (w,y):=⟨hy,h.mem,h.shelf,h.holds,by simp,λ_ hh=>.inl hh,rfl,rfl⟩
theorem GOk.qt(h:GOk w){y:Rt}(hy:ROk p n y)(t:Int):QOk p n w ({w with token:=t},y):=⟨hy,h.mem,h.shelf,h.holds,by simp,λ_ hh=>.inl hh,rfl,rfl⟩
theorem Wsv(h:GOk w)(hx:ROk p n x):QOk p n w (Wjh w x k):=by
 unfold Wjh;refine h.qt ?_ _;exact{hx with
  phase:=by show(0:Int)<=8/\(8:Int)<=8;omega
  live:=λh=>by(change (1:Int)<=8/\(8:Int)<=4 at h;omega)
  comm:=λh=>by(change (8:Int)=5 at h;omega)
  undos:=λu hu=>by cases hu
  ul:=by simp}
theorem Wme(h:GOk w)(hx:ROk p n x)(jM:0<=x.rv/\x.rv<=1000000)(hk:k<=8){out:Int}:QOk p n w (W6 w x k out):=by
 unfold W6;simp only;generalize (if out=2 then []else x.writes)=rows;split
 .exact Wsv (x:={x with fate:=out,stamp:=x.rv}) h
   {phase:=hx.phase,tries:=hx.tries,live:=λhh=>{hx.live hh with},comm:=hx.comm,undos:=hx.undos,ul:=hx.ul,rg:=hx.rg,ord:=hx.ord}
 .refine h.st ?_;exact{hx with
   phase:=by show(0:Int)<=5/\(5:Int)<=8;omega
   live:=λh=>by(change (1:Int)<=5/\(5:Int)<=4 at h;omega)
   comm:=λ_=>Wke (by omega) jM}
theorem Wf6{α:Type}{l:List α}(h:l.length≠0)(d:α):WhH l d∈l:=by
 unfold WhH;rw[Wf (show l.length-1<l.length by omega)];exact Xq _
theorem Wkt(h:GOk w)(hx:ROk p n x)(hz:x.undos.length≠0)(aG:1<=x.phase/\x.phase<=4->CC p.1/\(x.marks.length≠0->x.last.2.2.2.1<x.undos.length)):QOk p n w (Wd1 w x):=by
 unfold Wd1;refine⟨?_,h.mem,Wqa h.shelf (hx.undos _ (Wf6 hz _)),h.holds,by simp,λ_ hh=>.inl hh,rfl,rfl⟩;have hdl:x.undos.dropLast.length=x.undos.length-1:=List.length_dropLast;exact{hx with
  live:=λhh=>by
   have hl:=hx.live hh;obtain⟨c1,c2⟩:=aG hh;exact{hl with
    ul:=by have:=hl.ul;show(x.undos.dropLast.length:Int)<=x.pc;omega
    unw:=λh4=>by have:=hl.unw h4;show(x.undos.dropLast.length:Int)<=x.last.2.2.2.1;omega
    marks:=by
     show RMk p.1 x.pc.toNat x.marks x.reads.length x.writes.length x.undos.dropLast.length;by_cases hm:x.marks.length=0
     .have:x.marks= []:=Xy hm;have hM:=hl.marks;rw[this]at hM⊢;exact⟨hM.pcs,(λq hq=>by cases hq),hM.up⟩
     .obtain⟨m,q,e1,e2,⟨ii,lh⟩,e4,e5,e6,e7,e8,e9,eD,kj,kV,kW,jv⟩:=hl.mk24 c1 hm;have:=c2 hm;exact hl.marks.cut e1 eD.2.2 kj.2.2 (by omega)}
  undos:=λu hu=>hx.undos u (by rw[List.dropLast_eq_take]at hu;exact Xco hu)
  ul:=by have:=hx.ul;show x.undos.dropLast.length<=24;omega}
theorem Wtt(aG:CC p.1)(h:GOk w)(hx:ROk p n x)(hl:RLive p n x)(h1:x.phase=1){i:Nat}(hi:i<p.1.length)(aF:x.pc=i)(h5:p.1[i].1=5):ROk p n (Wci w x p.1[i]):=by
 have aI:=Wwb (aG.ok i hi).1 h5;have hB:0<=p.1[i].2.2.1/\p.1[i].2.2.1<=7:=by have:=aI.2;unfold W7 at this;simpa using this
 have hM:=hl.marks;rw[aF,Xj]at hM;have ay:stk p.1 (i+1)=stk p.1 i:=Wga hi (by omega) (by omega);have bY:x.pc+1=((i+1:Nat):Int):=by omega
 unfold Wci;cases hlr:Wbc x.writes p.1[i].2.2.1 with
 |some v=>
  have hv:=hl.writes _ (WiF hlr).2;simp only[bY];exact{hx with rg:=Vals.le4 (hl.regs.set _ hv.2),live:=λ_=>RLive.on aG hl h1 hi aF (by omega) (by omega) (hl.regs.set _ hv.2) hl.reads (by omega) hl.writes (by omega) (by omega) (hM.mono ay (by omega) (by omega) (by omega)) hl.pb}
 |none=>
  simp only;have bK:=WlL (rv:=x.rv) h.mem (Wq1 hl.pb hB);generalize WV w.mem x.rv (if x.busy=true then x.pb else(p.1[i].2.2.1,0,0,0))=b at*;have hp:=WeY.1 bK.1;have yg:RLive p n {x with busy:=true,pb:=b}:={hl with pb:=λ_=>bK.1};have yh:ROk p n {x with busy:=true,pb:=b}:={hx with live:=λ_=>yg};split
  .exact Whm yh yg
  .split
   .simp only[bY];refine{hx with rg:=Vals.le4 (hl.regs.set _ hp.2.2.2),live:=λ_=>RLive.on aG hl h1 hi aF (by omega) (by omega) (hl.regs.set _ hp.2.2.2) (λr hr=>?_) (by simp) hl.writes (by omega) (by omega) (hM.mono ay (by simp) (by omega) (by omega)) (λh=>by cases h)};rcases Xm.1 hr with hr|hr
    .exact hl.reads r hr
    .rw[Xz]at hr;subst hr;exact⟨hB,hp.2.2.2⟩
   .exact yh
theorem WrT(aG:CC p.1)(h:GOk w)(hx:ROk p n x)(hl:RLive p n x)(h1:x.phase=1)(hk:k<=8){i:Nat}(hi:i<p.1.length)(aF:x.pc=i):QOk p n w (WbL w x k p.1):=by
 have hM:=hl.marks;rw[aF,Xj]at hM;unfold WbL;split
 .exact Wme h hx hl.rv hk
 .rename_i hz;obtain⟨m,q,e1,e2,⟨ii,lh⟩,e4,e5,e6,e7,e8,e9,eD,kj,kV,kW,jv⟩:=hl.mk24 aG hz;split
  .exact Wkt h hx (by omega) λ_=>⟨aG,λ_=>by omega⟩
  .refine h.st ?_;rw[e8];simp only[e2,Xj,←Int.natCast_succ];have hlen:=e5.len;have ht:(Xas x.last.2.2.1.toNat x.writes).length=x.last.2.2.1.toNat:=by rw[Xap];omega
   refine{hx with rg:=Vals.le4 (e9.set _ (by omega)),live:=λ_=>RLive.on aG hl h1 hi aF (cu:=WiA p.1 m+1) (by omega) (by omega) (e9.set _ (by omega)) hl.reads (by omega) (λr hr=>hl.writes r (Xco hr)) (by omega) (by omega) ?_ hl.pb};exact hM.drop e1 (by rw[e5.st,e7,aF];rfl) (by omega) (by rw[ht];omega) (by omega)
theorem WqT(aG:CC p.1)(h:GOk w)(hx:ROk p n x)(hl:RLive p n x)(h1:x.phase=1)(hk:k<=8){i:Nat}(hi:i<p.1.length)(aF:x.pc=i)(dv:12<=p.1[i].1):QOk p n w (Wbs w x k p.1[i]):=by
 have ho:=(aG.ok i hi).1;have hM:=hl.marks;rw[aF,Xj]at hM;have ay:stk p.1 (i+1)=stk p.1 i:=Wga hi (by omega) (by omega);have bY:x.pc+1=((i+1:Nat):Int):=by omega
 have cG:=hl.ul;have hcl:=aG.len;have tn:(0<=(WaC p.1[i]).1/\(WaC p.1[i]).1<=8)/\1<=(WaC p.1[i]).2/\(WaC p.1[i]).2<=2:=by
  unfold WaC;have kU:=Wou ho;split
  .rename_i h;have:Wb6 p.1[i].2.1=true:=by
    rcases h with h|h
    .exact(Wt7 ho h).1
    .exact(Wtb ho h).1
   rw[WbR]at this;simp only;omega
  .split
   .have:=(Wv1 ho ‹_›).2;rw[WbR]at this;simp only;omega
   .split<;>(simp only;omega)
 unfold Wbs;cases ha:WaT w.holds ((k:Int)+1) (WaC p.1[i]).1 (WaC p.1[i]).2 with
 |none=>exact h.st (Whm hx hl)
 |some hs=>
  have zR:HOk hs:=by
   unfold WaT at ha;split at ha
   .injection ha with ha;subst ha;exact WpF h.holds (by omega) tn.1 tn.2 ‹_›
   .cases ha
  obtain⟨b1,b2,b3,b4⟩:=WqI h.shelf hl.regs ho dv;simp only[bY];refine⟨?_,h.mem,b1,zR,by simp,λ_ hh=>.inl hh,rfl,rfl⟩;by_cases hz:(Wbo w.shelf p.1[i] x.regs).2.2.1=0
  .simp only[if_pos hz];exact{hx with rg:=Vals.le4 b2,live:=λ_=>RLive.on aG hl h1 hi aF (by omega) (by omega) b2 hl.reads (by omega) hl.writes (by omega) (by omega) (hM.mono ay (by omega) (by omega) (by omega)) hl.pb}
  .simp only[if_neg hz];refine{hx with rg:=Vals.le4 b2,live:=λ_=>RLive.on aG hl h1 hi aF (by omega) (by omega) b2 hl.reads (by omega) hl.writes (by omega) (by simp) (hM.mono ay (by omega) (by omega) (by simp)) hl.pb,undos:=λu hu=>?_,ul:=by simp;omega};rcases Xm.1 hu with hu|hu
   .exact hx.undos u hu
   .rw[Xz]at hu;subst hu;exact b3 hz
theorem Wvs(hp:POk p)(h:GOk w)(hx:ROk p n x)(h1:x.phase=1)(hk:k<=8)(hn:0<=n):QOk p n w (Wdx w x k p):=by
 have hl:=hx.live (by omega);have aG:=hp.code;unfold Wdx;split
 .exact Wme h hx hl.rv hk
 .obtain⟨i,hi,aF,ho⟩:=Wfk (l:=p.1) hl.pc.1 (by have:=hl.pc;omega);simp only[ho];obtain⟨ok,o1,gV⟩:=aG.ok i hi;have hM:=hl.marks;rw[aF,Xj]at hM;have bY:x.pc+1=((i+1:Nat):Int):=by omega
  have cZ:=hl.rl;have qp:=hl.wl;have cG:=hl.ul;rw[aF,Xj]at cZ;split
  .exact h.st (Wtt aG h hx hl h1 hi aF ‹_›)
  .split
   .exact WrT aG h hx hl h1 hk hi aF
   .split
    .rename_i dg;refine h.st ?_;exact{hx with
      phase:=by show(0:Int)<=2/\(2:Int)<=8;omega
      live:=λ_=>{hl with
       fork:=λ_=>⟨by show x.pc<p.1.length;omega,by show(opN p.1 x.pc).1=11;rw[ho];exact dg,WsT hl.regs hn⟩
       back:=λh=>by(change (2:Int)=3\/(2:Int)=4 at h;omega)
       pos:=λh=>by(change (2:Int)=4 at h;omega)
       unw:=λh=>by(change (2:Int)=4 at h;omega)}
      comm:=λh=>by(change (2:Int)=5 at h;omega)}
    .split
     .exact WqT aG h hx hl h1 hk hi aF (by omega)
     .split
      .refine h.st ?_;have hk:=Ww2 ok ‹_›;have ay:stk p.1 (i+1)=stk p.1 i:=Wga hi (by omega) (by omega);simp only[bY];refine{hx with live:=λ_=>RLive.on aG hl h1 hi aF (by omega) (by omega) hl.regs hl.reads (by omega) (λr hr=>?_) (by simp) (by omega) (hM.mono ay (by omega) (by simp) (by omega)) hl.pb};rcases Xm.1 hr with hr|hr
       .exact hl.writes r hr
       .rw[Xz]at hr;subst hr;have:=hk.1;unfold W7 at this;exact⟨by simpa using this,hl.regs.get _⟩
      .split
       .refine h.st ?_;obtain⟨s1,s2⟩:=aG.sk i hi ‹_›;have hk:=Wv8 ok ‹_›;have ay:stk p.1 (i+1)=stk p.1 i:=Wga hi (by omega) (by omega);have qq:stk p.1 (i+1+p.1[i].2.2.1.toNat)=stk p.1 i:=by rw[←ay];exact WoH (by omega) s1 s2
        by_cases hg:Wbi x.regs p.1[i].2.1 0=0
        .simp only[if_pos hg,show x.pc+p.1[i].2.2.1+1=((i+1+p.1[i].2.2.1.toNat:Nat):Int) by omega];exact{hx with live:=λ_=>RLive.on aG hl h1 hi aF s1 (by omega) hl.regs hl.reads (by omega) hl.writes (by omega) (by omega) (hM.mono qq (by omega) (by omega) (by omega)) hl.pb}
        .simp only[if_neg hg,bY];exact{hx with live:=λ_=>RLive.on aG hl h1 hi aF (by omega) (by omega) hl.regs hl.reads (by omega) hl.writes (by omega) (by omega) (hM.mono ay (by omega) (by omega) (by omega)) hl.pb}
       .split
        .refine h.st ?_;simp only[bY];rw[aF];exact{hx with live:=λ_=>RLive.on aG hl h1 hi aF (by omega) (by omega) hl.regs hl.reads (by omega) hl.writes (by omega) (by omega) (hM.begin hi ‹_› hl.regs (by omega) (by omega) (by omega)) hl.pb}
        .split
         .rename_i h9;refine h.st ?_;have hz:x.marks.length≠0:=λhz=>by
           have h1:=congrArg Xa hM.pcs;simp only[Xaf,hz]at h1;have h2:=WbE aG.up i (by omega);have h3:=aG.up i hi;rw[WaG hi,Wk3 h9]at h3;omega
          obtain⟨m,q,e1,e2,⟨ii,lh⟩,e4,e5,e6,e7,e8,e9,eD,kj,kV,kW,jv⟩:=hl.mk24 aG hz;simp only[bY];rw[e8];exact{hx with rg:=Vals.le4 (hl.regs.set _ (by omega)),live:=λ_=>RLive.on aG hl h1 hi aF (by omega) (by omega) (hl.regs.set _ (by omega)) hl.reads (by omega) hl.writes (by omega) (by omega) (hM.drop e1 (Wku hi h9) (by omega) (by omega) (by omega)) hl.pb}
         .refine h.st ?_;have ay:stk p.1 (i+1)=stk p.1 i:=Wga hi (by omega) (by omega);simp only[bY];exact{hx with rg:=Vals.le4 (Wlk ok (by omega) (by omega) hl.regs),live:=λ_=>RLive.on aG hl h1 hi aF (by omega) (by omega) (Wlk ok (by omega) (by omega) hl.regs) hl.reads (by omega) hl.writes (by omega) (by omega) (hM.mono ay (by omega) (by omega) (by omega)) hl.pb}
theorem WtE(h:GOk w)(hx:ROk p n x)(hu:x.phase=0)(hcl:0<=(p.1.length:Int)):QOk p n w (Wc9 w x k):=by
 have gN:=Wt h.mem;unfold Wc9;split
 .exact h.st hx
 .split
  .exact h.qt hx _
  .split
   .exact h.st hx
   .refine h.st ?_;exact{
     phase:=by show(0:Int)<=1/\(1:Int)<=8;omega
     tries:=hx.tries
     live:=λ_=>{
      pc:=by show(0:Int)<=0/\(0:Int)<=_;omega
      spare:=by show(0:Int)<=0/\(0:Int)<=2;omega
      rv:=⟨gN.2.1,gN.2.2.1⟩
      regs:=⟨rfl,λv hv=>by simp at hv;omega⟩
      reads:=λr hr=>by cases hr
      rl:=by simp;omega
      writes:=λr hr=>by cases hr
      wl:=by simp
      ul:=by simp
      marks:=⟨by simp[stk],(λq hq=>by cases hq),List.Pairwise.nil⟩
      pb:=λh=>by cases h
      fork:=λh=>by(change (1:Int)=2 at h;omega)
      back:=λh=>by(change (1:Int)=3\/(1:Int)=4 at h;omega)
      newRv:=by show(0:Int)<=0/\(0:Int)<=1000000;omega
      pos:=λh=>by(change (1:Int)=4 at h;omega)
      unw:=λh=>by(change (1:Int)=4 at h;omega)}
     comm:=λh=>by(change (1:Int)=5 at h;omega)
     undos:=λu hu=>by cases hu
     ul:=by simp
     rg:=by simp
     ord:=by simp}
theorem WmF{codes:List (List Opn)}{f:Fm}(h:FOk codes n f):Wi1 (WgP f)/\(WgP f).length<=8:=by
 refine⟨λr hr=>?_,by unfold WgP;rw[Xaf];exact h.buf8⟩;obtain⟨e,he,rfl⟩:=Xv.1 hr;have:=h.bufE e he;exact⟨this.1,this.2.1⟩
theorem WjR{codes:List (List Opn)}{f:Fm}(h:FOk codes n f)(h3:codes.length<=3):Vals 4 (WiQ f):=by
 have hl:=h.len;have hr:=h.regs;unfold WiQ;rw[if_pos ⟨We8.2 hr,by omega⟩];refine⟨by simp[hr.len];omega,λv hv=>?_⟩;rcases Xm.1 hv with hv|hv
 .obtain⟨y,hy,rfl⟩:=Xv.1 hv;unfold WuS;split
  .rename_i hc;exact(We8.1 hc.2).get _
  .omega
 .exact hr.val v (List.mem_of_mem_drop hv)
theorem Wtg(hp:POk p)(hx:ROk p n x)(h2:x.phase=2):ROk p n (WbN x):=by
 have hl:=hx.live (by omega);have aG:=hp.code;obtain⟨f1,f2,f3⟩:=hl.fork h2;obtain⟨i,hi,aF,ho⟩:=Wfk (l:=p.1) hl.pc.1 f1;rw[ho]at f2;have hM:=hl.marks;have cZ:=hl.rl;have cG:=hl.ul;rw[aF,Xj]at hM cZ;unfold WbN;split
 .exact WeU hx
 .split
  .have hz:x.marks= []:=by
    have h1:=congrArg Xa hM.pcs;simp only[Xaf]at h1;have h3:=WbE aG.up i (by omega);have h4:=(aG.fk i hi f2).1;exact Xy (by omega)
   have ay:stk p.1 (i+1)=stk p.1 i:=Wga hi (by omega) (by omega);have yi:=WmF f3;have qr:=f3.len3 hp.k3;have zS:=f3.readsL;have ux:frk p.1 (i+1)=frk p.1 i+1:=by rw[Wd2 hi];simp[f2]
   exact{hx with
    phase:=by show(0:Int)<=1/\(1:Int)<=8;omega
    rg:=(WjR f3 hp.k3).le4
    ord:=qr
    live:=λ_=>{hl with
     pc:=by show 0<=x.pc+1/\x.pc+1<=_;omega
     regs:=WjR f3 hp.k3
     reads:=λr hr=>by
      rcases Xm.1 hr with hr|hr
      .exact hl.reads r hr
      .exact f3.readsE r hr
     rl:=by
      show((x.reads++x.fam.reads).length:Int)<=x.pc+1+72*(frk p.1 (x.pc+1).toNat:Int);rw[show(x.pc+1).toNat=i+1 by omega,ux,List.length_append];omega
     writes:=yi.1
     wl:=by have:=yi.2;show((WgP x.fam).length:Int)<=x.pc+1+8;omega
     ul:=by show(x.undos.length:Int)<=x.pc+1;omega
     marks:=by
      show RMk p.1 (x.pc+1).toNat x.marks _ _ _;rw[show(x.pc+1).toNat=i+1 by omega];rw[hz]at hM⊢;exact⟨by rw[ay];exact hM.pcs,(λq hq=>by cases hq),List.Pairwise.nil⟩
     fork:=λh=>by(change (1:Int)=2 at h;omega)
     back:=λh=>by(change (1:Int)=3\/(1:Int)=4 at h;omega)
     pos:=λh=>by(change (1:Int)=4 at h;omega)
     unw:=λh=>by(change (1:Int)=4 at h;omega)}
    comm:=λh=>by(change (1:Int)=5 at h;omega)}
  .exact hx
theorem WpR(hp:POk p)(h:GOk w)(hx:ROk p n x)(h3:x.phase=3):QOk p n w (WaR w x):=by
 have hl:=hx.live (by omega);have hz:=hl.back (.inl h3);obtain⟨m,q,e1,e2,⟨ii,lh⟩,e4,e5,e6,e7,e8,e9,eD,kj,kV,kW,jv⟩:=hl.mk24 hp.code hz;have gN:=Wt h.mem;unfold WaR;split
 .exact Wkt h hx (by omega) λ_=>⟨hp.code,λ_=>by omega⟩
 .refine h.st ?_;exact{hx with
   phase:=by show(0:Int)<=4/\(4:Int)<=8;omega
   live:=λ_=>{hl with
    fork:=λh=>by(change (4:Int)=2 at h;omega)
    back:=λ_=>hz
    newRv:=⟨gN.2.1,gN.2.2.1⟩
    pos:=λ_=>by(show(0:Int)<=0/\(0:Int)<=x.last.2.1;omega)
    unw:=λ_=>by(show(x.undos.length:Int)<=x.last.2.2.2.1;omega)}
   comm:=λh=>by(change (4:Int)=5 at h;omega)}
theorem WqH(hp:POk p)(h:GOk w)(hx:ROk p n x)(h4:x.phase=4):ROk p n (Waz w x):=by
 have hl:=hx.live (by omega);have hz:=hl.back (.inr h4);have bK:=hl.pos h4;obtain⟨m,q,e1,e2,⟨ii,lh⟩,e4,e5,e6,e7,e8,e9,eD,kj,kV,kW,jv⟩:=hl.mk24 hp.code hz;unfold Waz;split
 .simp only;split
  .exact WeU hx
  .exact{hx with live:=λ_=>{hl with pos:=λ_=>by(show 0<=x.pos+1/\x.pos+1<=x.last.2.1;omega)}}
 .rename_i fH;have ay:stk p.1 (m+1)=stk p.1 x.pc.toNat:=by
   have zT:=hl.pc;rw[Wi3 ii lh,e7];rcases Wcd (stk p.1 x.pc.toNat)with h0|⟨t,j,ht⟩
   .have h1:=congrArg Xa hl.marks.pcs;rw[h0]at h1;simp at h1;exact absurd h1 (by intro hh;rw[hh]at hz;simp at hz)
   .have h1:=hl.marks.pcs;rw[e1,ht]at h1;simp only[Xr,List.map_cons,List.map_nil]at h1;have h2:=(List.append_inj' h1 rfl).2;injection h2 with h2;rw[e2]at h2;rw[ht,List.dropLast_concat,show m=j by omega]
  have vq:=WhW p.1 (show m<=m+1 by omega);rw[e2,Xj]at eD;have bY:x.last.1+1=((m+1:Nat):Int):=by omega
  have t1:(Xas x.last.2.1.toNat x.reads).length=x.last.2.1.toNat:=by rw[Xap];omega
  have t2:(Xas x.last.2.2.1.toNat x.writes).length=x.last.2.2.1.toNat:=by rw[Xap];omega
  exact{hx with
   phase:=by show(0:Int)<=1/\(1:Int)<=8;omega
   rg:=e9.le4
   live:=λ_=>{hl with
    pc:=by show 0<=x.last.1+1/\x.last.1+1<=_;omega
    rv:=hl.newRv
    regs:=e9
    reads:=λr hr=>hl.reads r (Xco hr)
    rl:=by
     show((Xas x.last.2.1.toNat x.reads).length:Int)<=x.last.1+1+72*(frk p.1 (x.last.1+1).toNat:Int);rw[bY,Xj,t1];omega
    writes:=λr hr=>hl.writes r (Xco hr)
    wl:=by show((Xas x.last.2.2.1.toNat x.writes).length:Int)<=x.last.1+1+8;rw[t2];omega
    ul:=by
     show(x.undos.length:Int)<=x.last.1+1;have:=hl.unw h4;omega
    marks:=by
     show RMk p.1 (x.last.1+1).toNat x.marks (Xas x.last.2.1.toNat x.reads).length (Xas x.last.2.2.1.toNat x.writes).length x.undos.length;rw[bY,Xj,t1,t2];exact(hl.marks.cut e1 (by omega) (by omega) jv).mono ay (Xn _) (Xn _) (Xn _)
    fork:=λh=>by(change (1:Int)=2 at h;omega)
    back:=λh=>by(change (1:Int)=3\/(1:Int)=4 at h;omega)
    newRv:=by show(0:Int)<=0/\(0:Int)<=1000000;omega
    pos:=λh=>by(change (1:Int)=4 at h;omega)
    unw:=λh=>by(change (1:Int)=4 at h;omega)}
   comm:=λh=>by(change (1:Int)=5 at h;omega)}
end
end
section
section
variable{N:Nat}{w:Wo}{k:Nat}{x:Rt}{p:Pg}{n:Int}{ps:List Pg}
theorem WpO(h:GOk w)(hx:ROk p n x)(h5:x.phase=5)(hk:k<=8):QOk p n w (W4 w x k):=by
 have hc:=hx.comm h5;unfold W4;split
 .split
  .exact h.st (WeU hx)
  .refine h.st ?_;exact{hx with live:=λhh=>by(change 1<=x.phase/\x.phase<=4 at hh;omega),comm:=λ_=>WpW hc}
 .have ay:=WlZ hc h.mem;obtain⟨m',c',hq⟩:∃m' c',Wi w.mem x.cm=(m',c'):=⟨_,_,rfl⟩;simp only[hq]at ay⊢;refine⟨?_,ay.2,h.shelf,h.holds,?_,?_,rfl,rfl⟩
  .have hy:ROk p n {x with cm:=c'}:={hx with live:=λhh=>by(change 1<=x.phase/\x.phase<=4 at hh;omega),comm:=λ_=>ay.1};unfold Wab;simp only;split
   .exact WeU hy
   .split
    .have aR:(if x.fate=2 then(6:Int)else 7)=6\/(if x.fate=2 then(6:Int)else 7)=7:=by split<;>simp
     generalize (if x.fate=2 then(6:Int)else 7)=ph at*;exact{hx with
      phase:=by show 0<=ph/\ph<=8;omega
      live:=λhh=>by(change 1<=ph/\ph<=4 at hh;omega)
      comm:=λhh=>by(change ph=5 at hh;omega)}
    .exact hy
  .simp only;split<;>simp
  .simp only;intro h hh;split at hh
   .rcases Xm.1 hh with hh|hh
    .exact .inl hh
    .rw[Xz]at hh;subst hh;exact .inr ⟨ay.1.plen,ay.1.rows,by simp only;omega,by simp only;omega⟩
   .exact .inl hh
theorem WhM(hp:POk p)(h:GOk w)(hx:ROk p n x)(hk:k<=8)(hn:0<=n):QOk p (n+1) w (Wq w x k p):=by
 have eG:=hx.wk (show n<=n+1 by omega);unfold Wq;by_cases hd:x.doomed=true/\1<=x.phase/\x.phase<=4
 .rw[if_pos hd];exact h.st (WeU eG)
 rw[if_neg hd];by_cases h0:x.phase=0
 .rw[if_pos h0];exact WtE h eG h0 (by omega)
 rw[if_neg h0];by_cases h1:x.phase=1
 .rw[if_pos h1];exact Wvs hp h eG h1 hk (by omega)
 rw[if_neg h1];by_cases h2:x.phase=2
 .rw[if_pos h2];exact h.st (Wtg hp eG h2)
 rw[if_neg h2];by_cases h3:x.phase=3
 .rw[if_pos h3];exact WpR hp h eG h3
 rw[if_neg h3];by_cases h4:x.phase=4
 .rw[if_pos h4];exact h.st (WqH hp h eG h4)
 rw[if_neg h4];by_cases h5:x.phase=5
 .rw[if_pos h5];exact WpO h eG h5 hk
 rw[if_neg h5];by_cases h6:x.phase=6
 .rw[if_pos h6];by_cases hz:x.undos.length>0
  .rw[if_pos hz];exact Wkt h eG (by omega) λhh=>by omega
  .rw[if_neg hz];refine h.st ?_;exact{eG with
    phase:=by show(0:Int)<=7/\(7:Int)<=8;omega
    live:=λhh=>by(change (1:Int)<=7/\(7:Int)<=4 at hh;omega)
    comm:=λhh=>by(change (7:Int)=5 at hh;omega)}
 rw[if_neg h6];by_cases h7:x.phase=7
 .rw[if_pos h7];have hg:GOk {w with holds:=W2 w.holds ((k:Int)+1)}:=⟨h.mem,h.shelf,WiN h.holds⟩;by_cases hf:x.fate=0
  .rw[if_pos hf];refine⟨?_,h.mem,h.shelf,WiN h.holds,by simp,λ_ hh=>.inl hh,rfl,rfl⟩;exact{
    phase:=by show(0:Int)<=0/\(0:Int)<=8;omega
    tries:=by have:=hx.tries;show 0<=x.tries+1/\x.tries+1<=n+1;omega
    live:=λhh=>by(change (1:Int)<=0/\(0:Int)<=4 at hh;omega)
    comm:=λhh=>by(change (0:Int)=5 at hh;omega)
    undos:=λu hu=>by cases hu
    ul:=by simp
    rg:=by simp
    ord:=by simp}
  .rw[if_neg hf];have:=Wsv (k:=k) hg eG;exact⟨this.root,this.mem,this.shelf,this.holds,this.hist,this.histE,this.roots,this.now⟩
 .rw[if_neg h7];exact h.st eG
theorem Wtj(hk:k<w.roots.length)(aD:w.roots[k]=x)(kp:w.roots.length<=8)(hp:POk p)(h:GOk w)(hx:ROk p n x)(hn:n<=200000)(hh:w.hist.length<=500000)(hN:1048576<N):
  Zgn N w.e (k:Int) p=some (((Wo.put (Wq w x k p) k).e,()),()):=by
 obtain⟨g1,g2,g3,g4,g5⟩:=woG hk aD;obtain⟨r0,r1,r2,r3,r4,r5,r6,r7,r8,km,jy,iF,iG,iX,iY,kZ,la,kn,ko,lb,ld,lg⟩:=rtP x;have li:k<=8:=by omega
 have eE:=Wo9 hk aD;have lK:=hx.tries;have zU:=hx.ul;have tS:=WkQ h.holds;unfold Zgn Wq;simp only[Wz];rw[show P5 w.e=w.roots.map Rt.e from rfl,g4,g2,WcG (by omega),WcG (show 0<=x.e.2.1/\x.e.2.1<=1000000 by show 0<=x.tries/\x.tries<=_;omega)];simp(maxSteps:=4000000) only[g3,r0,r7,km,iY,cond_true,Wn,ret,Xd,We1,Wu,War,show w.e.2.2.1.1=w.mem.1 from rfl,Wb,show P4 w.e=w.holds from rfl];rw[WhF h.holds (by omega) hN];simp only[ret,Xd];have hS4:S4 (W2 w.holds ((k:Int)+1)) w.e=Wo.e {w with holds:=W2 w.holds ((k:Int)+1)}:=rfl;have zV:S5 (Xl (w.roots.map Rt.e) (Xb (k:Int)) x.e) (S4 (W2 w.holds ((k:Int)+1)) w.e)=Wo.e {w with holds:=W2 w.holds ((k:Int)+1)}:=(woG (w:={w with holds:=W2 w.holds ((k:Int)+1)}) hk aD).2.2.1;rw[zV,Wrg (w:={w with holds:=W2 w.holds ((k:Int)+1)}) hk aD (by omega),Wud hk aD kp hN];have dL:∀(A:Option ((Y_World×Unit)×Unit)),A=some (((Wo.put (
   if x.phase=0 then Wc9 w x k else
   if x.phase=1 then Wdx w x k p else
   if x.phase=2 then(w,WbN x)else
   if x.phase=3 then WaR w x else
   if x.phase=4 then(w,Waz w x)else
   if x.phase=5 then W4 w x k else
   if x.phase=6 then(if x.undos.length>0 then Wd1 w x else(w,{x with phase:=7}))else
   if x.phase=7 then
    (if x.fate=0 then({w with holds:=W2 w.holds ((k:Int)+1)},{tries:=x.tries+1})
     else Wjh {w with holds:=W2 w.holds ((k:Int)+1)} x k)
   else(w,x)) k).e,()),())->¬(x.doomed=true/\1<=x.phase/\x.phase<=4)->A=some (((Wo.put (
   if x.doomed=true/\1<=x.phase/\x.phase<=4 then(w,WbZ x)else
   if x.phase=0 then Wc9 w x k else
   if x.phase=1 then Wdx w x k p else
   if x.phase=2 then(w,WbN x)else
   if x.phase=3 then WaR w x else
   if x.phase=4 then(w,Waz w x)else
   if x.phase=5 then W4 w x k else
   if x.phase=6 then(if x.undos.length>0 then Wd1 w x else(w,{x with phase:=7}))else
   if x.phase=7 then
    (if x.fate=0 then({w with holds:=W2 w.holds ((k:Int)+1)},{tries:=x.tries+1})
     else Wjh {w with holds:=W2 w.holds ((k:Int)+1)} x k)
   else(w,x)) k).e,()),()):=λA hA hn=>by rw[if_neg hn];exact hA
 have nH:(if x.phase=0 then(some (((Wo.put (Wc9 w x k) k).e,()),()):Option ((Y_World×Unit)×Unit)).bind (λo6=>some ((o6.1.1,()),()))
   else if x.phase=1 then(Zg8 N w.e (k:Int) p).bind (λo7=>some ((o7.1.1,()),()))
   else if x.phase=2 then(Zg9 N x.e).bind (λo8=>some ((S5 (Xl (w.roots.map Rt.e) (Xb (k:Int)) o8.1.1) w.e,()),()))
   else if x.phase=3 then(Zdg N x.e).bind (λo9=>if(x.undos.length:Int)>o9.2.1.2.2.2 then(Zcc N w.e (Xb (k:Int))).bind (λbT=>some ((bT.1.1,()),()))else some ((S5 (Xl (w.roots.map Rt.e) (Xb (k:Int)) (S6 0 (S5 w.mem.1 (S0 4 x.e)))) w.e,()),()))
   else if x.phase=4 then(Zfk N w.e (Xb (k:Int))).bind (λgS=>some ((gS.1.1,()),()))
   else if x.phase=5 then(Zfl N w.e (k:Int)).bind (λdO=>some ((dO.1.1,()),()))
   else if x.phase=6 then(if(x.undos.length:Int)>0 then(Zcc N w.e (Xb (k:Int))).bind (λcw=>some ((cw.1.1,()),()))else some ((S5 (Xl (w.roots.map Rt.e) (Xb (k:Int)) (7,x.e.2)) w.e,()),()))
   else if x.phase=7 then(if x.fate=0 then some ((S5 (Xl (w.roots.map Rt.e) (Xb (k:Int)) ((0:Int),(x.e.2.1+1,((0:Int),((0:Int),((0:Int),((0:Int),((0:Int),((0:Int),((0:Int),((0:Int),((0:Int),(false,(([]:List Int),(([]:List Kc),(([]:List Kc),(([]:List Ki),(([]:List Kb),(([]:List Int),(false,(((0:Int),((0:Int),((0:Int),(0:Int)))),(((0:Int),((0:Int),((0:Int),((0:Int),((0:Int),(([]:List Kc),([]:List Int))))))),d_Family)))))))))))))))))))))) (S4 (W2 w.holds ((k:Int)+1)) w.e),()),())else(some (((Wo.put (Wjh {w with holds:=W2 w.holds ((k:Int)+1)} x k) k).e,()),()):Option ((Y_World×Unit)×Unit)).bind (λlE=>some ((lE.1.1,()),())))
   else some ((w.e,()),()))=some (((Wo.put (
   if x.phase=0 then Wc9 w x k else
   if x.phase=1 then Wdx w x k p else
   if x.phase=2 then(w,WbN x)else
   if x.phase=3 then WaR w x else
   if x.phase=4 then(w,Waz w x)else
   if x.phase=5 then W4 w x k else
   if x.phase=6 then(if x.undos.length>0 then Wd1 w x else(w,{x with phase:=7}))else
   if x.phase=7 then
    (if x.fate=0 then({w with holds:=W2 w.holds ((k:Int)+1)},{tries:=x.tries+1})
     else Wjh {w with holds:=W2 w.holds ((k:Int)+1)} x k)
   else(w,x)) k).e,()),()):=by
  rw[Xj];by_cases h0:x.phase=0
  .rw[if_pos h0,if_pos h0];rfl
  .rw[if_neg h0,if_neg h0];by_cases h1:x.phase=1
   .rw[if_pos h1,if_pos h1,Wv3 hk aD li hp (hx.live (by omega)) hx.undos h.mem h.shelf h.holds hN];rfl
   .rw[if_neg h1,if_neg h1];by_cases h2:x.phase=2
    .rw[if_pos h2,if_pos h2,WuA hp (hx.live (by omega)) h2 hN];exact Wc8 rfl rfl rfl
    .rw[if_neg h2,if_neg h2];by_cases h3:x.phase=3
     .have hl:=hx.live (by omega);obtain⟨z1,z2,z3,z4,z5,z6⟩:=hl.sz hp.code;rw[if_pos h3,if_pos h3,WlW (hl.back (.inl h3)) (by omega)];simp only[Xd];have cg:=(hl.mk24 hp.code (hl.back (.inl h3)));obtain⟨m,q,e1,e2,_,_,_,_,_,_,_,_,_,jv⟩:=cg;unfold WaR;by_cases hgt:(x.undos.length:Int)>x.last.2.2.2.1
      .rw[if_pos hgt,if_pos hgt,Wlf hk aD (by omega) (by omega) hx.undos h.shelf hN];rfl
      .rw[if_neg hgt,if_neg hgt];exact Wc8 rfl rfl rfl
     .rw[if_neg h3,if_neg h3];by_cases h4:x.phase=4
      .rw[if_pos h4,if_pos h4,Wp9 hk aD hp (hx.live (by omega)) h4 h.mem];rfl
      .rw[if_neg h4,if_neg h4];by_cases h5:x.phase=5
       .rw[if_pos h5,if_pos h5,Wql hk aD li (hx.comm h5) h.mem hh hN];rfl
       .rw[if_neg h5,if_neg h5];by_cases h6:x.phase=6
        .rw[if_pos h6,if_pos h6];by_cases hz:x.undos.length>0
         .rw[if_pos (by omega),if_pos hz,Wlf hk aD (by omega) (by omega) hx.undos h.shelf hN];rfl
         .rw[if_neg (by omega),if_neg hz];exact Wc8 rfl rfl rfl
        .rw[if_neg h6,if_neg h6];by_cases h7:x.phase=7
         .rw[if_pos h7,if_pos h7];by_cases hf:x.fate=0
          .rw[if_pos hf,if_pos hf,hS4];exact Wc8 (w:=w) (w':={w with holds:=W2 w.holds ((k:Int)+1)}) (x':={tries:=x.tries+1}) rfl rfl rfl
          .rw[if_neg hf,if_neg hf];rfl
         .rw[if_neg h7,if_neg h7,eE]
 rw[WhP];by_cases hd:x.doomed=true
 .rw[if_pos hd];by_cases aR:1<=x.phase/\x.phase<=4
  .rw[decide_eq_true aR.1,decide_eq_true aR.2,if_pos (show x.doomed=true/\1<=x.phase/\x.phase<=4 from⟨hd,aR⟩),Xj];exact Wc8 rfl rfl rfl
  .have hb:(decide (1<=x.phase)&&decide (x.phase<=4))=false:=by
    rw[Xcm,decide_eq_false_iff_not,decide_eq_false_iff_not];omega
   rw[hb];exact dL _ nH (λhc=>aR hc.2)
 .rw[if_neg hd];exact dL _ nH (λhc=>hd hc.1)
end
end
section
noncomputable def WlF(p:Pg):Bool:=p.2.all WgX&&(WnX p.1&&(decide (p.2.length<=3)&&beq (p.1.any λo=>o.1==11) (decide (p.2.length>0))))
noncomputable def WjV(s:Sc):Bool:=Wtx s.1&&(decide (s.2.1.length<=4)&&(decide (s.2.2.length<=400)&&s.2.1.all WlF))
structure PB(p:Pg):Prop where
 code:p.1.length<=1000
 kids:p.2.length<=1000
 each:∀c∈p.2,c.length<=1000
structure SB(s:Sc):Prop where
 cells:s.1.1.length<=100
 map:s.1.2.1.length<=100
 progs:s.2.1.length<=100
 each:∀p∈s.2.1,PB p
 acts:s.2.2.length<=1000
variable{N:Nat}{s:Sc}{p:Pg}{w:Wo}{n:Int}{a:Ac}
theorem WvW(h:WlF p=true):POk p:=by
 unfold WlF at h;simp only[Xh,Xae,decide_eq_true_eq]at h;exact⟨WwK h.2.1,λc hc=>Wxa (h.1 c hc),h.2.2.1⟩
theorem WeH(h:WjV s=true):ThOk s.1/\s.2.1.length<=4/\s.2.2.length<=400/\∀p∈s.2.1,POk p:=by
 unfold WjV at h;simp only[Xh,Xae,decide_eq_true_eq]at h;exact⟨Wpt.1 h.1,h.2.1,h.2.2.1,λp hp=>WvW (h.2.2.2 p hp)⟩
theorem Woa{α:Type}(l:List α)(k:Nat):decide ((Wb l)<=(k:Int))=decide (l.length<=k):=by
 unfold Wb;by_cases h:l.length<=k
 .rw[decide_eq_true h,decide_eq_true (by omega)]
 .rw[decide_eq_false h,decide_eq_false (by omega)]
theorem Wih{α:Type}(l:List α)(k:Nat):decide ((Wb l)>(k:Int))=decide (l.length>k):=by
 unfold Wb;by_cases h:l.length>k
 .rw[decide_eq_true h,decide_eq_true (by omega)]
 .rw[decide_eq_false h,decide_eq_false (by omega)]
theorem WiU(l k:Nat):decide (l>k)= !decide (l<=k):=by
 by_cases h:l<=k
 .rw[decide_eq_true h,decide_eq_false (by omega)];rfl
 .rw[decide_eq_false h,decide_eq_true (by omega)];rfl
theorem WmY{l:List Opn}(hl:l.length<=1048576)(hN:1048576<N):Zgt N l=ret (l.any λo=>o.1==11):=by
 unfold Zgt Za0 Z2;have h1:=WlG (l:=l) (p:=λo=>o.1==11) (N:=N) (lp:=λn j=>Zl N l (λaL=>(some ((),(aL,())))) (λaM be=>(some ((),((-1:Int),())))) n j) (K0:=λj=>some ((),(j,()))) (K1:=some ((),((-1:Int),()))) (by omega) (by omega)
  (λn j hj=>by
   simp only[Zl,Wao hj,Wv hj,WB hj,Wk (show j<4611686018427387904 by omega),cond_true,Zma,Xd])
  (λn=>by simp only[Zl,WaH (Xn _),cond_false])
 rw[h1];have h2:=Wkw (p:=λo:Opn=>o.1==11) l 0;cases hf:fnd (λo:Opn=>o.1==11) l 0 with
 |some r=>
  rw[hf]at h2;simp only[Xd,decide_eq_true (show((r.1:Int)>=0) by omega),ret];rw[←h2];rfl
 |none=>
  rw[hf]at h2;rw[←h2];rfl
theorem Wma(h:PB p)(hN:1048576<N):Zhq N p=ret (WlF p):=by
 have hc:=h.code;have hk:=h.kids;unfold Zhq WlF;have h1:=WO (l:=p.2) (V:=Unit) (R:=Unit×Ko) (lp:=λn j v=>Zc5 N p.2 p (some ((),(false,()))) (λaL aM=>
  ((Zcr N p.1).bind λcw=>
 (bif cw.2.1 then
 (bif decide ((Wb p.2)<=(3:Int))then
 ((Zgt N p.1).bind λdz=>
 (some ((),(beq dz.2.1 (decide ((Wb p.2)>(0:Int))),()))))
 else
 (some ((),(false,()))))
 else
 (some ((),(false,())))))) n j) (n:=N) (by omega)
  (body:=λj x v k=>(Zg2 N x).bind λo=>bif !o.2.1 then some ((),(false,()))else k v) (K:=λ_ v=>((Zcr N p.1).bind λcw=>
 (bif cw.2.1 then
 (bif decide ((Wb p.2)<=(3:Int))then
 ((Zgt N p.1).bind λdz=>
 (some ((),(beq dz.2.1 (decide ((Wb p.2)>(0:Int))),()))))
 else
 (some ((),(false,()))))
 else
 (some ((),(false,()))))))
  (λn i v hi=>by simp only[Zc5,Wao hi,Wv hi,WB hi,Wk (show i<4611686018427387904 by omega),cond_true])
  (λn v=>by simp only[Zc5,WaH (Xn p.2.length),cond_false]) ()
 refine h1.trans ?_;rw[WaK (p:=λx=>!WgX x) (E:=λ_=>some ((),(false,()))) p.2 0 () (λj x v k hx=>by rw[WnF (by have:=h.each x hx;omega) hN];rfl),WcC,Whh (by omega) hN,WmY (by omega) hN];simp only[ret,Xd];rw[show(3:Int)=((3:Nat):Int)from rfl,Woa,show(0:Int)=((0:Nat):Int)from rfl,Wih];cases p.2.all WgX<;>cases WnX p.1<;>cases decide (p.2.length<=3)<;>rfl
theorem Wl0(h:PB p)(hN:1048576<N):Zgk N p=ret (WlF p):=by
 have hc:=h.code;have hk:=h.kids;unfold Zgk WlF;have h1:=WO (l:=p.2) (V:=Unit) (R:=Unit×Ko) (lp:=λn j v=>Zcb N p (some ((),(false,()))) (λlC aL=>(some ((),(true,())))) n j) (n:=N) (by omega)
  (body:=λj x v k=>(Zg1 N x).bind λo=>bif !o.2.1 then some ((),(false,()))else k v) (K:=λ_ v=>some ((),(true,())))
  (λn i v hi=>by simp only[Zcb,Wao hi,Wv hi,WB hi,Wk (show i<4611686018427387904 by omega),cond_true])
  (λn v=>by simp only[Zcb,WaH (Xn p.2.length),cond_false]) ()
 have h2:Zcb N p (some ((),(false,()))) (λlC aL=>(some ((),(true,())))) N 0=ret (p.2.all WgX):=by
  refine h1.trans ?_;rw[WaK (p:=λx=>!WgX x) (E:=λ_=>some ((),(false,()))) p.2 0 () (λj x v k hx=>by rw[Wn0 (by have:=h.each x hx;omega) hN];rfl),WcC];cases p.2.all WgX<;>rfl
 rw[h2,Whc (by omega) hN,Whi (by omega) hN];simp only[ret,Xd];rw[show(3:Int)=((3:Nat):Int)from rfl,Wih,WiU,show(0:Int)=((0:Nat):Int)from rfl,Wih];generalize beq (p.1.any λo=>o.1==11) (decide (p.2.length>0))=b;cases p.2.all WgX<;>cases WnX p.1<;>cases decide (p.2.length<=3)<;>cases b<;>rfl
theorem Wjl{t:List Int×List Int×Int}(h1:t.1.length<=1048576)(h2:t.2.1.length<=1048576)(hN:1048576<N):Zgb N t=ret (Wtx t):=by
 unfold Zgb Wtx Wmw;have e:((Wb t.2.1) !=(8:Int))= !decide (t.2.1.length=8):=by
  by_cases h:t.2.1.length=8
  .simp[Wb,h]
  .simp[Wb,h];omega
 have h3:=WO (l:=t.2.1) (V:=Unit) (R:=Unit×Ko) (lp:=λn j v=>Zbs N t (some ((),(false,()))) (λlC aL=>(some ((),(true,())))) n j) (n:=N) (by omega)
  (body:=λj x v k=>bif !(decide (0<=x)&&decide (x<=65536))then some ((),(false,()))else k v) (K:=λ_ v=>some ((),(true,())))
  (λn i v hi=>by simp only[Zbs,Wao hi,Wv hi,WB hi,Wk (show i<4611686018427387904 by omega),cond_true,Wdz,ret,Xd])
  (λn v=>by simp only[Zbs,WaH (Xn t.2.1.length),cond_false]) ()
 have h4:Zbs N t (some ((),(false,()))) (λlC aL=>(some ((),(true,())))) N 0=ret (t.2.1.all λx=>decide (0<=x)&&decide (x<=65536)):=by
  refine h3.trans ?_;rw[WaK (p:=λx=>!(decide (0<=x)&&decide (x<=65536))) (E:=λ_=>some ((),(false,()))) t.2.1 0 () (λj x v k _=>rfl),WcC];cases t.2.1.all _<;>rfl
 rw[Wmk h1 hN,e,WQ,h4];cases Weo t.1<;>cases decide (t.2.1.length=8)<;>cases Wbg t.2.2<;>cases t.2.1.all _<;>rfl
theorem Wjk(h:SB s)(hN:1048576<N):Zgc N s=ret (WjV s):=by
 have h1:=h.cells;have h2:=h.map;have h3:=h.progs;unfold Zgc WjV;have h4:=WO (l:=s.2.1) (V:=Unit) (R:=Unit×Ko) (lp:=λn j v=>Zbt N s (some ((),(false,()))) (λi9 aB=>(some ((),(true,())))) n j) (n:=N) (by omega)
  (body:=λj x v k=>(Zgk N x).bind λo=>bif !o.2.1 then some ((),(false,()))else k v) (K:=λ_ v=>some ((),(true,())))
  (λn i v hi=>by simp only[Zbt,Wao hi,Wv hi,WB hi,Wk (show i<4611686018427387904 by omega),cond_true])
  (λn v=>by simp only[Zbt,WaH (Xn s.2.1.length),cond_false]) ()
 have h5:Zbt N s (some ((),(false,()))) (λi9 aB=>(some ((),(true,())))) N 0=ret (s.2.1.all WlF):=by
  refine h4.trans ?_;rw[WaK (p:=λx=>!WlF x) (E:=λ_=>some ((),(false,()))) s.2.1 0 () (λj x v k hx=>by rw[Wl0 (h.each x hx) hN];rfl),WcC];cases s.2.1.all WlF<;>rfl
 rw[h5,Wjl (by omega) (by omega) hN];simp only[ret,Xd];rw[show(4:Int)=((4:Nat):Int)from rfl,Wih,WiU,show(400:Int)=((400:Nat):Int)from rfl,Wih,WiU];cases Wtx s.1<;>cases decide (s.2.1.length<=4)<;>cases decide (s.2.2.length<=400)<;>rfl
theorem Wfp(h:SB s)(hN:1048576<N):Zhy N s=ret (WjV s):=by
 have h1:=h.cells;have h2:=h.map;have h3:=h.progs;unfold Zhy WjV Zao Zx;have h4:=WO (l:=s.2.1) (V:=Unit) (R:=Unit×Kh) (lp:=λn j v=>Ze N s.2.1 (λaL=>(some ((),(aL,())))) (λaM be=>(some ((),((-1:Int),())))) n j) (n:=N) (by omega)
  (body:=λj x v k=>(Zie N x).bind λo=>bif o.2.1 then some ((),(j,()))else k v) (K:=λ_ v=>some ((),((-1:Int),())))
  (λn i v hi=>by simp only[Ze,Wao hi,Wv hi,WB hi,Wk (show i<4611686018427387904 by omega),cond_true])
  (λn v=>by simp only[Ze,WaH (Xn s.2.1.length),cond_false]) ()
 have h5:((Ze N s.2.1 (λaL=>(some ((),(aL,())))) (λaM be=>(some ((),((-1:Int),())))) N 0).bind λo2=>some ((),(decide (o2.2.1>=(0:Int)),())))=ret (!s.2.1.all WlF):=by
  have h6:=h4;rw[h6,Wgb (p:=λx=>!WlF x) (E:=λj _=>some ((),(j,()))) s.2.1 0 () (λj x v k hx=>by unfold Zie;rw[Wma (h.each x hx) hN];rfl)];have h7:=Wkw (p:=λx=>!WlF x) s.2.1 0;rw[WcC]at h7;rw[←h7];cases hf:fnd (λx=>!WlF x) s.2.1 0 with
  |some r=>simp only[Xd,decide_eq_true (show((r.1:Int)>=0) by omega)];rfl
  |none=>rfl
 rw[Wi4 (by omega) (by omega) hN];simp only[ret,Xd];rw[h5,show(4:Int)=((4:Nat):Int)from rfl,Woa,show(400:Int)=((400:Nat):Int)from rfl,Woa];cases Wtx s.1<;>cases decide (s.2.1.length<=4)<;>cases decide (s.2.2.length<=400)<;>cases s.2.1.all WlF<;>rfl
end
section
variable{N:Nat}{s:Sc}{p:Pg}{w:Wo}{n:Int}{a:Ac}{k:Nat}
theorem Wf2{ps:List Pg}(h:∀p∈ps,POk p)(hk:k<ps.length):POk (ps.getD k pg0):=by
 rw[Wf hk];exact h _ (Xq hk)
theorem WOk.tick(h:WOk s.2.1 n w):WOk s.2.1 (n+1) {w with now:=w.now+1}:=
 {h with now:=by(have:=h.now;show w.now+1=n+1;omega),n0:=by have:=h.n0;omega,hist:=by(have:=h.hist;show(w.hist.length:Int)<=n+1;omega),root:=λk hk=>(h.root k hk).wk (by omega)}
theorem WOk.putQ{q:Wo×Rt}{w0:Wo}(h:WOk s.2.1 (n+1) {w0 with now:=w0.now+1})(hh:(w0.hist.length:Int)<=n)(hk:k<w0.roots.length)(hq:QOk (s.2.1.getD k pg0) (n+1) {w0 with now:=w0.now+1} q):WOk s.2.1 (n+1) (Wo.put q k):=by
 have hr:q.1.roots=w0.roots:=hq.roots;exact{
  len:=by show(q.1.roots.set k q.2).length=_;rw[Xad,hr];exact h.len
  l4:=h.l4
  progs:=h.progs
  now:=hq.now.trans h.now
  n0:=h.n0
  mem:=hq.mem
  shelf:=hq.shelf
  holds:=hq.holds
  histE:=λe he=>(hq.histE e he).elim (h.histE e) id
  hist:=by have:=hq.hist;show(q.1.hist.length:Int)<=n+1;(change q.1.hist.length<=w0.hist.length+1 at this);omega
  root:=λi hi=>by
   change i<(q.1.roots.set k q.2).length at hi;rw[Xad,hr]at hi;show ROk _ _ ((q.1.roots.set k q.2)[i]);rw[Xao];by_cases he:k=i
   .subst he;rw[if_pos rfl];exact hq.root
   .rw[if_neg he];have:=h.root i hi;simp only[hr];exact this}
theorem Wcy(h:WOk s.2.1 n w):WOk s.2.1 (n+1) (Wc4 s w a):=by
 have ht:=h.tick;unfold Wc4;simp only;split
 .rename_i hb;have hk:a.2.1.toNat<w.roots.length:=by omega
  have hx:=ht.root a.2.1.toNat hk;have uy:=h.root a.2.1.toNat hk;have hg:GOk {w with now:=w.now+1}:=⟨h.mem,h.shelf,h.holds⟩;have hp:=Wf2 h.progs (show a.2.1.toNat<s.2.1.length by rw[←h.len];exact hk);have kp:w.roots.length<=4:=by rw[h.len];exact h.l4
  rw[Wf hk];split
  .unfold Wh6;rw[Wf (show a.2.1.toNat<({w with now:=w.now+1}:Wo).roots.length from hk)];exact ht.putQ h.hist hk (WhM hp hg uy (by omega) h.n0)
  .split
   .split
    .rename_i hf;refine ht.putQ h.hist hk (hg.st ?_);have hl:=uy.live (by omega);obtain⟨f1,f2,f3⟩:=hl.fork hf.1;have hj:a.2.2.toNat<(s.2.1.getD a.2.1.toNat pg0).2.length:=by omega
     have ee:a.2.2.toNat<w.roots[a.2.1.toNat].fam.kids.length:=by rw[f3.len];exact hj
     have bb:KC ((s.2.1.getD a.2.1.toNat pg0).2.getD a.2.2.toNat []):=by rw[Wf hj];exact hp.kids _ (Xq hj)
     exact{hx with live:=λ_=>{hl.wk (show n<=n+1 by omega)with fork:=λ_=>⟨f1,f2,Wlx ee h.mem bb f3 rfl⟩}}
    .exact ht
   .split
    .split
     .refine ht.putQ h.hist hk (hg.st ?_);exact{hx with live:=λhh=>{hx.live hh with}}
     .exact ht
    .exact ht
 .exact ht
theorem Woj(h:WOk s.2.1 n w)(hn:n<=99999)(hN:1048576<N):Zfs N w.e s a=some (((Wc4 s w a).e,()),()):=by
 have ht:=h.tick;have qv:=h.now;have qH:=h.n0;have kp:w.roots.length<=4:=by rw[h.len];exact h.l4
 unfold Zfs Wc4;simp only[Wz];rw[show P5 w.e=w.roots.map Rt.e from rfl,show w.e.1=w.now from rfl,WcG (by omega)];have hlen:Wb (w.roots.map Rt.e)=(w.roots.length:Int):=by unfold Wb;simp
 rw[hlen,Waq (by unfold I64;omega)];simp only[Wn,ret,Xd];by_cases hb:0<=a.2.1/\a.2.1<w.roots.length
 .rw[if_pos hb,decide_eq_true hb.1,decide_eq_true (show a.2.1<=(w.roots.length:Int) -1 by omega)];obtain⟨k,zW⟩:∃k:Nat,a.2.1=k:=⟨a.2.1.toNat,by omega⟩;have hk:k<w.roots.length:=by omega
  obtain⟨x,aD⟩:∃x,w.roots[k]=x:=⟨_,rfl⟩;have hx:=h.root k hk;rw[aD]at hx;have ly:k<s.2.1.length:=by rw[←h.len];exact hk
  have hp:=Wf2 h.progs ly;obtain⟨g1,g2,g3,g4,g5⟩:=woG hk aD;obtain⟨r0,r1,r2,r3,r4,r5,r6,r7,r8,km,jy,iF,iG,iX,iY,kZ,la,kn,ko,lb,ld,lg⟩:=rtP x;have eE:∀y:Rt,(w.now+1,S4 (Xl (w.roots.map Rt.e) k y.e) w.e.2)=Wo.e (Wo.put ({w with now:=w.now+1},y) k):=λy=>by
   unfold Wo.put Wo.e;simp only[List.map_set];rfl
  have bj:Wo.put ({w with now:=w.now+1},x) k={w with now:=w.now+1}:=by unfold Wo.put;simp only;rw[←aD,Xbf]
  simp only[zW,Xj,Xbr,Xab,cond_false];rw[g1,g4,Wf hk,aD];simp only[cond_true,r0,kn,ko,eE,bj,show w.e.2.2.1=w.mem from rfl];rw[Wac,decide_eq_true ly];have zX:Xc s.2.1 k (([]:List Ka),([]:List Kx))=s.2.1.getD k pg0:=rfl;rw[zX];generalize ge:s.2.1.getD k pg0=p at*;have hg:GOk {w with now:=w.now+1}:=⟨h.mem,h.shelf,h.holds⟩;simp only[cond_true,Wu];have ay:Zgn N (Wo.e {w with now:=w.now+1}) (k:Int) p=some (((Wo.put (Wq {w with now:=w.now+1} x k p) k).e,()),()):=
   Wtj (w:={w with now:=w.now+1}) hk aD (by show w.roots.length<=8;omega) hp hg hx (by omega) (by have:=h.hist;show w.hist.length<=500000;omega) hN
  rw[ay];by_cases h1:a.1=1
  .rw[if_pos h1,if_pos h1];unfold Wh6;rw[Wf (show k<({w with now:=w.now+1}:Wo).roots.length from hk)];simp only[aD,Xd]
  .rw[if_neg h1,if_neg h1];by_cases h2:a.1=2
   .rw[if_pos h2,if_pos h2];by_cases hf:x.phase=2
    .rw[if_pos hf,Waq (by have:=hp.k3;unfold I64 Wb;omega),show Wb p.2=(p.2.length:Int)from rfl];by_cases hj:0<=a.2.2/\a.2.2<p.2.length
     .rw[decide_eq_true hj.1,decide_eq_true (show a.2.2<=(p.2.length:Int) -1 by omega),if_pos (show x.phase=2/\0<=a.2.2/\a.2.2<p.2.length from⟨hf,hj⟩)];obtain⟨j,nY⟩:∃j:Nat,a.2.2=j:=⟨a.2.2.toNat,by omega⟩;have hj':j<p.2.length:=by omega
      simp only[nY,Xj,Xbr,cond_true];rw[Wac,decide_eq_true hj'];obtain⟨f1,f2,f3⟩:=(hx.live (by omega)).fork hf;have bb:KC (p.2.getD j []):=by rw[Wf hj'];exact hp.kids _ (Xq hj')
      rw[Wkk (code:=p.2.getD j []) (by rw[f3.len];exact hj') (by rw[f3.len];exact hp.k3) h.mem bb f3 rfl (by omega) hN];simp only[Xd,cond_true];have:U21 (WcD w.mem x.fam j (p.2.getD j [])).e x.e=Rt.e {x with fam:=WcD w.mem x.fam j (p.2.getD j [])}:=rfl;rw[this,eE];unfold Wxn;rfl
     .rw[if_neg (show¬(x.phase=2/\0<=a.2.2/\a.2.2<p.2.length)fromλhc=>hj hc.2)];have mS:(decide (0<=a.2.2)&&decide (a.2.2<=(p.2.length:Int) -1))=false:=by
       rw[Xcm,decide_eq_false_iff_not,decide_eq_false_iff_not];omega
      rw[mS];rfl
    .rw[if_neg hf,if_neg (show¬(x.phase=2/\0<=a.2.2/\a.2.2<p.2.length)fromλhc=>hf hc.1)]
   .rw[if_neg h2,if_neg h2];by_cases h3:a.1=3
    .rw[if_pos h3,if_pos h3];have hd:S11 true x.e=Rt.e {x with doomed:=true}:=rfl;simp only[hd,eE,show(Cm.e x.cm).2.2.1=x.cm.phase from rfl,War];by_cases aR:1<=x.phase/\x.phase<=4
     .rw[decide_eq_true aR.1,decide_eq_true aR.2,if_pos (show(1<=x.phase/\x.phase<=4)\/(x.phase=5/\x.cm.phase<=3)from .inl aR)];rfl
     .have mS:(decide (1<=x.phase)&&decide (x.phase<=4))=false:=by
       rw[Xcm,decide_eq_false_iff_not,decide_eq_false_iff_not];omega
      rw[mS];simp only[cond_false];by_cases h5:x.phase=5
      .rw[if_pos h5];by_cases hc:x.cm.phase<=3
       .rw[if_pos hc,if_pos (show(1<=x.phase/\x.phase<=4)\/(x.phase=5/\x.cm.phase<=3)from .inr ⟨h5,hc⟩)]
       .rw[if_neg hc,if_neg (show¬((1<=x.phase/\x.phase<=4)\/(x.phase=5/\x.cm.phase<=3)) by omega)]
      .rw[if_neg h5,if_neg (show¬((1<=x.phase/\x.phase<=4)\/(x.phase=5/\x.cm.phase<=3)) by omega)]
    .rw[if_neg h3,if_neg h3]
 .rw[if_neg hb];have mS:(decide (0<=a.2.1)&&decide (a.2.1<=(w.roots.length:Int) -1))=false:=by
   rw[Xcm,decide_eq_false_iff_not,decide_eq_false_iff_not];omega
  rw[mS];rfl
theorem WiP(h:WjV s=true):WOk s.2.1 0 (Wee s):=by
 obtain⟨h1,h2,h3,h4⟩:=WeH h;exact{
  len:=by simp[Wee]
  l4:=h2
  progs:=h4
  now:=rfl
  n0:=Xp _
  mem:=by
   show WY (Wj4 s.1.1)=true;have:=h1.cells.len;unfold WY Wj4;simp only[Xaf,this,decide_true,Xbq,Xh,decide_eq_true_eq,Xae];refine⟨by omega,λw hw=>?_⟩;obtain⟨v,hv,rfl⟩:=Xv.1 hw;have:=h1.cells.val v hv;rw[Wde];unfold wd0;simp only;omega
  shelf:=⟨Wsl h1.map.1 h1.map.2,h1.cnt⟩
  holds:=⟨(λh hh=>by cases hh),List.Pairwise.nil⟩
  hist:=by simp[Wee]
  histE:=λh hh=>by cases hh
  root:=λk hk=>by
   simp only[Wee,Xbj];exact{
    phase:=by simp
    tries:=by simp
    live:=λhh=>by simp at hh
    comm:=λhh=>by simp at hh
    undos:=λu hu=>by cases hu
    ul:=by simp
    rg:=by simp
    ord:=by simp}}
theorem WsN:∀(l:List Ac) (n:Int) (w:Wo),WOk s.2.1 n w->WOk s.2.1 (n+l.length) (l.foldl (Wc4 s) w)
 | [],n,w,h=>by simpa using h
 |a::l,n,w,h=>by
  have:=WsN l (n+1) _ (Wcy (a:=a) h);rw[Xce,List.length_cons];rw[show n+((l.length+1:Nat):Int)=n+1+l.length by omega];exact this
theorem Wli(h:WjV s=true):WOk s.2.1 s.2.2.length (Wek s):=by
 have:=WsN s.2.2 0 _ (WiP h);rw[Int.zero_add]at this;exact this
end
section
section
variable{N:Nat}{c:Cur}
theorem Wg6{b7:Int}{l8:List Int}(h8:l8.length=8):∀(n i:Nat) (c:Cur) (l:List Int),8-i<n->i<=8->WaL c->l.length=i->
  Drw (λv:Kg×Unit=>v.1.1.length=8/\v.1.2.1.length=8) (Zcg N b7 l8 (λzn gU vL cJ=>(some ((vL,()),((l8,(cJ,b7)),())))) n (i:Int) c l)
 |0,i,c,l,h,_,_,_=>by omega
 |n+1,i,c,l,h,hi,hc,hl=>by
  unfold Zcg;refine .bif (λh0=>?_) λh0=>.ok hc ⟨h8,?_⟩
  .have h0:(i:Int)<8:=of_decide_eq_true h0;have e:We .i64 (i:Int) 1=((i+1:Nat):Int):=Wk (by omega);simp only[e];refine(WdJ 2 hc).bind λc b hc _=>.bif (λ_=>?_) λ_=>?_
   .exact(WwY hc).bind λc v hc hv=>.bifT (WC (by simp;omega)) (Wg6 h8 n (i+1) c _ (by omega) (by omega) hc (by simp[Xah];omega))
   .exact .bifT (WC (by simp;omega)) (Wg6 h8 n (i+1) c _ (by omega) (by omega) hc (by simp[Xah];omega))
  .have h0:¬(i:Int)<8:=of_decide_eq_false h0;simp only;omega
theorem Wr8(hN:1048576<N)(hc:WaL c):Drw (λv:Kg×Unit=>v.1.1.length=8/\v.1.2.1.length=8) (Zer N c):=by
 unfold Zer;exact(Ww9 hN hc).bind λc v hc hv=>(WwY hc).bind λc w hc hw=>Wg6 hv N 0 c [] (by omega) (by omega) hc rfl
theorem WpX(hN:1048576<N)(hc:WaL c):Drw (λv:Kg×Unit=>v.1.1.length<=100/\v.1.2.1.length<=100) (Zhx N c):=by
 unfold Zhx;refine(Wr8 hN hc).bind λc t hc ht=>(Wau 16 hc).bind λc v hc hv=>.bif (λ_=>?_) λ_=>.bif (λ_=>?_) λ_=>.bif (λ_=>.ok hc (by simp only;omega)) λ_=>.bif (λ_=>?_) λ_=>.bif (λ_=>?_) λ_=>.ok hc (by simp only;omega)
 .refine .bifT (by rw[ht.1];rfl) (.ok hc ?_);simp only[Xap];omega
 .refine(Wau 8 hc).bind λc k hc hk=>?_;have hk:=hk.2 (by decide);refine .bifT (by unfold inb;rw[ht.2];simp;omega) (.ok hc ?_);simp only[Xad];omega
 .refine .bifT (by rw[ht.2];rfl) (.ok hc ?_);simp only[Xap];omega
 .refine(Wau 8 hc).bind λc k hc hk=>?_;have hk:=hk.2 (by decide);refine .bifT (by unfold inb;rw[ht.1];simp;omega) (.ok hc ?_);simp only[Xad];omega
theorem WvC{p:Pg}(h:p.1.length<=300/\p.2.length<=100/\∀x∈p.2,x.length<=200):PB p:=⟨by omega,by omega,λx hx=>by have:=h.2.2 x hx;omega⟩
theorem Wuq(hN:1048576<N)(hc:WaL c):Drw (λv:Pg×Unit=>PB v.1) (Zi4 N c):=by
 unfold Zi4;refine(WdJ 2 hc).bind λc b hc _=>(Wwu hN hc).bind λc p hc hp=>(Wau 10 hc).bind λc v hc hv=>.bif (λ_=>?_) λ_=>.bif (λ_=>.bif (λh0=>?_) λ_=>.ok hc (WvC hp)) λ_=>.bif (λ_=>?_) λ_=>.bif (λ_=>.ok hc ⟨by have:=hp.1;simp only;omega,by simp,by simp⟩) λ_=>.ok hc (WvC hp)
 .exact(WwE hN hc (by have:=hp.1;simp only;omega)).bind λc w hc hw=>.ok hc ⟨by simp only;omega,by have:=hp.2.1;simp only;omega,λx hx=>by have:=hp.2.2 x hx;omega⟩
 .have h0:Wb p.1.2>0:=of_decide_eq_true h0;refine(Wau (Wb p.1.2) hc).bind λc k hc hk=>?_;have hk:=hk.2 h0;unfold Wb at hk;have jz:inb k.1 p.1.2.length=true:=by unfold inb;simp;omega
  refine .bifT jz ((WwE hN hc ?_).bind λc w hc hw=>.bifT jz (.ok hc ⟨by have:=hp.1;simp only;omega,by have:=hp.2.1;simp only[Xad];omega,λx hx=>?_⟩))
  .rw[Wf (show k.1.toNat<p.1.2.length by omega)];have:=hp.2.2 _ (Xq (show k.1.toNat<p.1.2.length by omega));omega
  .rcases Xcw hx with hx|hx
   .have:=hp.2.2 x hx;omega
   .subst hx;show w.1.length<=1000;omega
 .refine .bifT (WC (by have:=hp.2.1;simp;omega)) (.ok hc ⟨by have:=hp.1;simp only;omega,by have:=hp.2.1;simp[Xah];omega,λx hx=>?_⟩);simp[Xah]at hx;rcases hx with hx|hx
  .have:=hp.2.2 x hx;omega
  .subst hx;simp
theorem Wow{n4 aC:Int}(hm:aC<=600):∀(n i:Nat) (who:Int) (c:Cur) (l:List Ac),1000-i<n->i<=700->WaL c->l.length=i->
  Drw (λv:List Ac×Unit=>v.1.length<=700) (Zz N n4 aC (λnl x8 t45 cE mt=>(some ((cE,()),(mt,())))) n who (i:Int) c l)
 |0,i,who,c,l,h,_,_,_=>by omega
 |n+1,i,who,c,l,h,hi,hc,hl=>by
  unfold Zz;refine .bif (λh0=>?_) λh0=>.ok hc (by simp only;omega);have h0:(i:Int)<aC:=of_decide_eq_true h0;have e:We .i64 (i:Int) 1=((i+1:Nat):Int):=Wk (by omega);simp only[e];have hr:∀(a:Ac),WG (l.length+ [a].length)=true:=λa=>WC (by simp;omega);have bd:∀(who:Int) (c:Cur) (a:Ac),WaL c->Drw (λv:List Ac×Unit=>v.1.length<=700) (Zz N n4 aC (λnl x8 t45 cE mt=>(some ((cE,()),(mt,())))) n who ((i+1:Nat):Int) c (List.append l [a])):=λwho c a hc=>Wow hm n (i+1) who c _ (by omega) (by omega) hc (by simp[Xah];omega);refine(WdJ 3 hc).bind λc b hc _=>.bif (λ_=>?_) λ_=>?_
  .refine(Wau n4 hc).bind λc k hc _=>(WdJ 2 hc).bind λc b hc _=>.bif (λ_=>?_) λ_=>?_
   .refine(Wau 3 hc).bind λc j hc _=>(WdJ 2 hc).bind λc b hc _=>.bif (λ_=>?_) λ_=>?_
    .exact(WdJ 40 hc).bind λc b hc _=>.bif (λ_=>.bifT (hr _) (bd _ _ _ hc)) λ_=>.bifT (hr _) (bd _ _ _ hc)
    .exact(WdJ 40 hc).bind λc b hc _=>.bif (λ_=>.bifT (hr _) (bd _ _ _ hc)) λ_=>.bifT (hr _) (bd _ _ _ hc)
   .exact(WdJ 40 hc).bind λc b hc _=>.bif (λ_=>.bifT (hr _) (bd _ _ _ hc)) λ_=>.bifT (hr _) (bd _ _ _ hc)
  .refine(WdJ 2 hc).bind λc b hc _=>.bif (λ_=>?_) λ_=>?_
   .refine(Wau 3 hc).bind λc j hc _=>(WdJ 2 hc).bind λc b hc _=>.bif (λ_=>?_) λ_=>?_
    .exact(WdJ 40 hc).bind λc b hc _=>.bif (λ_=>.bifT (hr _) (bd _ _ _ hc)) λ_=>.bifT (hr _) (bd _ _ _ hc)
    .exact(WdJ 40 hc).bind λc b hc _=>.bif (λ_=>.bifT (hr _) (bd _ _ _ hc)) λ_=>.bifT (hr _) (bd _ _ _ hc)
   .exact(WdJ 40 hc).bind λc b hc _=>.bif (λ_=>.bifT (hr _) (bd _ _ _ hc)) λ_=>.bifT (hr _) (bd _ _ _ hc)
theorem Wxl(hN:1048576<N){n4 aC:Int}(hm:aC<=600)(hc:WaL c):Drw (λv:List Ac×Unit=>v.1.length<=700) (Zfo N c n4 aC):=by
 unfold Zfo;exact Wow hm N 0 0 c [] (by omega) (by omega) hc rfl
structure SD(s:Sc):Prop where
 cells:s.1.1.length=8
 map:s.1.2.1.length=8
 progs:1<=s.2.1.length/\s.2.1.length<=10
 each:∀p∈s.2.1,PB p
 acts:s.2.2.length<=700
theorem Wkb(hN:1048576<N){n8 cp bt:Int}{aX aW:List Int}(hm:0<=bt/\bt<=500)(jF:aX.length=8)(nD:aW.length=8)(h8:1<=n8/\n8<=4):∀(n i:Nat) (c:Cur) (l:List Pg),10-i<n->i<=4->WaL c->l.length=i->(∀p∈l,PB p)->
  Drw (λv:Sc×Unit=>SD v.1) (Zbk N 0 bt n8 cp aX aW (λzp zq vM kb=>
  ((Zb N vM (We .i64 bt (1:Int))).bind λiU=>
 ((Zfo N iU.1.1 n8 iU.2.1).bind λiV=>
 (some ((iV.1.1,()),(((aX,(aW,cp)),(kb,iV.2.1)),())))))) n (i:Int) c l)
 |0,i,c,l,h,_,_,_,_=>by omega
 |n+1,i,c,l,h,hi,hc,hl,hx=>by
  unfold Zbk;refine .bif (λh0=>?_) λh0=>?_
  .have h0:(i:Int)<n8:=of_decide_eq_true h0;have e:We .i64 (i:Int) 1=((i+1:Nat):Int):=Wk (by omega);simp only[e,show((0:Int)==2)=false from rfl,show((0:Int)==0)=true from rfl,cond_false,cond_true];refine(WdJ 3 hc).bind λc b hc _=>(Wwu hN hc).bind λc p hc hp=>.bifT (WC (by simp;omega)) (Wkb hN hm jF nD h8 n (i+1) c _ (by omega) (by omega) hc (by simp[Xah];omega) λq hq=>?_);simp[Xah]at hq;rcases hq with hq|hq
   .exact hx q hq
   .subst hq;exact WvC hp
  .have h0:¬(i:Int)<n8:=of_decide_eq_false h0;have e:We .i64 bt 1=bt+1:=Ww (by unfold I64;omega);simp only[e];refine(Wau (bt+1) hc).bind λc k hc hk=>?_;have hk:=hk.2 (by omega);refine(Wxl (aC:=k.1) hN (by omega) hc).bind λc a hc ha=>.ok hc ⟨jF,nD,by simp only;omega,hx,ha⟩
theorem Wvu(hN:1048576<N){most:Int}(hm:0<=most/\most<=500)(hc:WaL c):Drw (λv:Sc×Unit=>SD v.1) (Zfp N c 0 most):=by
 unfold Zfp;refine(Wr8 hN hc).bind λc t hc ht=>(Wau 4 hc).bind λc k hc hk=>?_;have hk:=hk.2 (by decide);have e:We .i64 1 k.1=1+k.1:=Ww (by unfold I64;omega);simp only[e];exact Wkb hN hm ht.1 ht.2 (by omega) N 0 c [] (by omega) (by omega) hc rfl (by simp)
theorem SD.sb{s:Sc}(h:SD s):SB s:=⟨by have:=h.cells;omega,by have:=h.map;omega,by have:=h.progs;omega,h.each,by have:=h.acts;omega⟩
theorem WoY{b7:Cur}{b9:Int}{ju am:List Int}{aX:List Ac}(hb:WaL b7)(ci:ju.length=8)(dg:am.length=8)(jF:aX.length<=700):∀(n:Nat) (l:List Pg),20-l.length<n->l.length<=11->(∀p∈l,PB p)->
  Drw (λv:Sc×Unit=>SB v.1) (Ze5 N b7 b9 ju am aX (λiq de=>(some ((b7,()),(((ju,(am,b9)),(de,aX)),())))) n l)
 |0,l,h,_,_=>by omega
 |n+1,l,h,hl,hx=>by
  unfold Ze5;refine .bif (λh0=>?_) λh0=>.ok hb ⟨by simp only;omega,by simp only;omega,by simp only;omega,hx,by simp only;omega⟩;have h0:Wb l<5:=of_decide_eq_true h0;unfold Wb at h0;refine .bifT (WC (by simp;omega)) (WoY hb ci dg jF n _ (by simp[Xah];omega) (by simp[Xah];omega) λq hq=>?_);simp[Xah]at hq;rcases hq with hq|hq
  .exact hx q hq
  .subst hq;exact⟨by simp,by simp,by simp⟩
theorem WpA{dB:Int}{cV bV:List Int}{cJ:List Pg}(zY:cV.length=8)(wD:bV.length=8)(wH:cJ.length<=11)(hx:∀p∈cJ,PB p):∀(n:Nat) (c:Cur) (l:List Ac),1000-l.length<n->WaL c->l.length<=800->
  Drw (λv:Sc×Unit=>SB v.1) (Ze6 N dB cV bV cJ (λzr kc cW=>(some ((kc,()),(((cV,(bV,dB)),(cJ,cW)),())))) n c l)
 |0,c,l,h,_,_=>by omega
 |n+1,c,l,h,hc,hl=>by
  unfold Ze6;refine(Wau 2 hc).bind λc v hc hv=>?_;have hv:=hv.2 (by decide);have e:We .i64 400 v.1=400+v.1:=Ww (by unfold I64;omega);simp only[e];refine .bif (λh0=>?_) λh0=>.ok hc ⟨by simp only;omega,by simp only;omega,by simp only;omega,hx,by simp only;omega⟩;have h0:Wb l<400+v.1:=of_decide_eq_true h0;unfold Wb at h0;exact .bifT (WC (by simp;omega)) (WpA zY wD wH hx n c _ (by simp[Xah];omega) hc (by simp[Xah];omega))
theorem WwT(hN:1048576<N){most:Int}(hm:0<=most/\most<=500)(hc:WaL c):Drw (λv:Sc×Unit=>SB v.1) (Zhp N c most):=by
 unfold Zhp;refine(Wvu hN hm hc).bind λc s hc hs=>(Wau 30 hc).bind λc v hc hv=>.bif (λ_=>?_) λ_=>.bif (λ_=>?_) λ_=>.bif (λ_=>?_) λ_=>.bif (λ_=>?_) λ_=>.bif (λ_=>?_) λ_=>.ok hc hs.sb
 .exact(WpX hN hc).bind λc t hc ht=>.ok hc ⟨ht.1,ht.2,by have:=hs.progs;simp only;omega,hs.each,by have:=hs.acts;simp only;omega⟩
 .refine(Wuq hN hc).bind λc p hc hp=>.bifT (by unfold inb;have:=hs.progs;simp;omega) (.ok hc ⟨by have:=hs.cells;simp only;omega,by have:=hs.map;simp only;omega,by have:=hs.progs;simp only[Xad];omega,λq hq=>?_,by have:=hs.acts;simp only;omega⟩);rcases Xcw hq with hq|hq
  .exact hs.each q hq
  .subst hq;exact hp
 .exact WoY hc hs.cells hs.map hs.acts N s.1.2.1 (by omega) (by have:=hs.progs;omega) hs.each
 .exact .bifT (WC (by have:=hs.acts;simp;omega)) (.ok hc ⟨by have:=hs.cells;simp only;omega,by have:=hs.map;simp only;omega,by have:=hs.progs;simp only;omega,hs.each,by have:=hs.acts;simp[Xah];omega⟩)
 .exact WpA hs.cells hs.map (cJ:=s.1.2.1) (by have:=hs.progs;omega) hs.each N c s.1.2.2 (by omega) hc (by have:=hs.acts;omega)
theorem WtU{code:List Int}(h:code.length<=1048576):∃v,Zl1 N code 200=ret v/\0<=v/\v<=200:=by
 unfold Zl1;have e:WqM .i64 (Wb code) 20=((code.length/20:Nat):Int):=by
  unfold WqM Wb;rw[Int.tdiv_eq_ediv_of_nonneg (by omega),Wve (by unfold I64;omega)];omega
 rw[e,Ww (by unfold I64;omega),show inz (20:Int)=true from rfl];simp only[cond_true,War];by_cases h:2+((code.length/20:Nat):Int)>200
 .rw[if_pos h];exact⟨_,rfl,by omega,by omega⟩
 .rw[if_neg h];exact⟨_,rfl,by omega,by omega⟩
theorem Wmv(hN:1048576<N){code:List Int}(h:code.length<=1048576):∃s:Sc,Zka N code=ret s/\SB s:=by
 unfold Zka;obtain⟨c,hc,e0⟩:=Wuw h hN;obtain⟨v,e1,hv⟩:=WtU (N:=N) h;have e2:We .i64 60 v=60+v:=Ww (by unfold I64;omega);obtain⟨c1,s,e3,mP,hs⟩:=WwT (most:=60+v) hN (by omega) hc;simp only[e0,e1,ret,Xd,e2,e3];exact⟨_,rfl,hs⟩
end
end
section
theorem Wu0{N:Nat}{code:List Int}(hw:∀x∈code,0<=x/\x<=255)(hl:code.length<=1048576){i:Nat}(hi:i<=1000):∃v,Zag N code (i:Int)=ret v/\0<=v/\v<=255:=by
 unfold Zag;by_cases h:i<code.length
 .have hx:=hw _ (Xq h);refine⟨code[i],?_,hx⟩;simp only[Wao h,Wv h,WB h,cond_true];rw[wrap_i64 (by unfold I64;omega)]
 .have e:decide ((i:Int)<Wb code)=false:=by simp[Wb];omega
  have m1:WdQ .i64 (i:Int) 37=(i:Int)*37:=WdN (by unfold I64;omega);have m2:WdQ .i64 (Wb code) 11=(code.length:Int)*11:=WdN (by unfold I64 Wb;omega);have m3:We .i64 ((i:Int)*37) ((code.length:Int)*11)=(i:Int)*37+(code.length:Int)*11:=Ww (by unfold I64;omega);rw[e,m1,m2,m3];refine⟨_,rfl,?_⟩;have:Wb7 ((i:Int)*37+(code.length:Int)*11) 256=((i:Int)*37+(code.length:Int)*11)%256:=by unfold Wb7;exact Int.tmod_eq_emod_of_nonneg (by omega)
  rw[this];omega
end
section
def stl(x:Rt):Bool:=decide (x.phase=8)||((decide (x.phase=5)&&(decide (x.cm.phase=4)||decide (x.cm.phase=5)))||((decide (x.phase=6)||decide (x.phase=7))&&decide (x.fate≠0)))
def Wf3(x:Rt):Int:=if stl x=true then(if x.phase=5 then x.cm.wv else x.stamp)else 0
theorem Wb9{x:Rt}:stl x=true↔x.phase=8\/(x.phase=5/\(x.cm.phase=4\/x.cm.phase=5))\/((x.phase=6\/x.phase=7)/\x.fate≠0):=by
 unfold stl;simp only[Bool.or_eq_true,Xh,decide_eq_true_eq]
structure RX(x:Rt):Prop where
 doom:x.doomed=true->(1<=x.phase/\x.phase<=4)\/(x.phase=5/\x.cm.phase<=3)
 fate:x.phase=5->x.fate≠0
structure Stay(x y:Rt):Prop where
 tries:x.tries<=y.tries
 st:stl x=true->stl y=true/\Wf3 y=Wf3 x/\y.fate=x.fate/\y.regs=x.regs/\y.order=x.order
structure RG(w:Wo)(x:Rt)(q:Wo×Rt):Prop where
 doom:q.2.doomed=false
 fate:q.2.phase=5->q.2.fate≠0
 tries:q.2.tries=x.tries
 mem:q.1.mem=w.mem
 hist:q.1.hist=w.hist
section
variable{w:Wo}{x y z:Rt}{k:Nat}{p:Pg}{n:Int}{o:Opn}
theorem Stay.refl(x:Rt):Stay x x:=⟨Xp _,λh=>⟨h,rfl,rfl,rfl,rfl⟩⟩
theorem Stay.trans(h:Stay x y)(h':Stay y z):Stay x z:=
 ⟨Xey h.tries h'.tries,λhs=>by
  obtain⟨a,b,c,d,e⟩:=h.st hs;obtain⟨a',b',c',d',e'⟩:=h'.st a;exact⟨a',b'.trans b,c'.trans c,d'.trans d,e'.trans e⟩⟩
theorem Stay.un(h:stl x=false)(ht:x.tries<=y.tries):Stay x y:=⟨ht,λhs=>by rw[h]at hs;cases hs⟩
theorem RG.same(hd:x.doomed=false){z:Rt}(h1:z.doomed=false)(h2:z.phase≠5)(h3:z.tries=x.tries):RG w x (w,z):=⟨h1,λh=>absurd h h2,h3,rfl,rfl⟩
theorem WfL(hd:x.doomed=false):(Wy x).doomed=false/\(Wy x).phase≠5/\(Wy x).tries=x.tries:=by
 unfold Wy WbZ;split
 .exact⟨rfl,by simp,rfl⟩
 .exact⟨hd,by simp,rfl⟩
theorem Wpg(hd:x.doomed=false){out:Int}(ho:out≠0):RG w x (W6 w x k out):=by
 unfold W6 Wjh;simp only;generalize (if out=2 then []else x.writes)=rows;split
 .exact⟨rfl,by simp,rfl,rfl,rfl⟩
 .exact⟨hd,λ_=>ho,rfl,rfl,rfl⟩
theorem Wq2(hd:x.doomed=false)(h5:x.phase≠5):RG w x (Wd1 w x):=⟨hd,λh=>absurd h h5,rfl,rfl,rfl⟩
theorem WqY(hd:x.doomed=false)(h5:x.phase≠5):(Wci w x o).doomed=false/\(Wci w x o).phase≠5/\(Wci w x o).tries=x.tries:=by
 unfold Wci;cases Wbc x.writes o.2.2.1 with
 |some v=>exact⟨hd,h5,rfl⟩
 |none=>
  simp only;generalize WV w.mem x.rv _=b;split
  .exact WfL (x:={x with busy:=true,pb:=b}) hd
  .split
   .exact⟨hd,h5,rfl⟩
   .exact⟨hd,h5,rfl⟩
theorem Wt6(hd:x.doomed=false)(h5:x.phase≠5){code:List Opn}:RG w x (WbL w x k code):=by
 unfold WbL;split
 .exact Wpg hd (by omega)
 .split
  .exact Wq2 hd h5
  .exact⟨hd,λh=>absurd h h5,rfl,rfl,rfl⟩
theorem Wux(hd:x.doomed=false)(h5:x.phase≠5):RG w x (Wbs w x k o):=by
 unfold Wbs;cases WaT w.holds ((k:Int)+1) (WaC o).1 (WaC o).2 with
 |none=>
  obtain⟨a,b,c⟩:=WfL hd;exact⟨a,λh=>absurd h b,c,rfl,rfl⟩
 |some hs=>exact⟨hd,λh=>absurd h h5,rfl,rfl,rfl⟩
theorem WwB(hd:x.doomed=false)(h5:x.phase≠5):RG w x (Wdx w x k p):=by
 unfold Wdx;split
 .exact Wpg hd (by omega)
 .simp only;generalize opN p.1 x.pc=o;split
  .obtain⟨a,b,c⟩:=WqY (w:=w) (o:=o) hd h5;exact⟨a,λh=>absurd h b,c,rfl,rfl⟩
  .split
   .exact Wt6 hd h5
   .split
    .exact⟨hd,λh=>by(change (2:Int)=5 at h;omega),rfl,rfl,rfl⟩
    .split
     .exact Wux hd h5
     .repeat' split
      all_goals exact⟨hd,λh=>absurd h h5,rfl,rfl,rfl⟩
theorem Wvm(hd:x.doomed=false)(h5:x.phase≠5):RG w x (Wc9 w x k):=by
 unfold Wc9
 repeat' split
 all_goals first|exact⟨hd,λh=>absurd h h5,rfl,rfl,rfl⟩|exact⟨rfl,λh=>by(change (1:Int)=5 at h;omega),rfl,rfl,rfl⟩
theorem WqQ(hd:x.doomed=false)(h5:x.phase≠5):RG w x (w,WbN x):=by
 unfold WbN;split
 .exact⟨rfl,λh=>by(change (6:Int)=5 at h;omega),rfl,rfl,rfl⟩
 .split
  .exact⟨hd,λh=>by(change (1:Int)=5 at h;omega),rfl,rfl,rfl⟩
  .exact⟨hd,λh=>absurd h h5,rfl,rfl,rfl⟩
theorem WiR(hd:x.doomed=false)(h5:x.phase≠5):RG w x (WaR w x):=by
 unfold WaR;split
 .exact Wq2 hd h5
 .exact⟨hd,λh=>by(change (4:Int)=5 at h;omega),rfl,rfl,rfl⟩
theorem Wl3(hd:x.doomed=false)(h5:x.phase≠5):RG w x (w,Waz w x):=by
 unfold Waz;split
 .simp only;split
  .exact⟨rfl,λh=>by(change (6:Int)=5 at h;omega),rfl,rfl,rfl⟩
  .exact⟨hd,λh=>absurd h h5,rfl,rfl,rfl⟩
 .exact⟨hd,λh=>by(change (1:Int)=5 at h;omega),rfl,rfl,rfl⟩
theorem Whn(m:Mm)(c:Cm):m.1<=(Wi m c).1.1:=by
 have hs:∀i w,(Wnr m i w).1=m.1:=λ_ _=>rfl;unfold Wi Wb1 Way Wiu tick;simp only
 repeat' split
 all_goals first|exact Xp _|(simp only[hs];omega)|(simp only;omega)
structure RS(w:Wo)(x:Rt)(q:Wo×Rt):Prop where
 rx:RX q.2
 stay:Stay x q.2
 clock:w.mem.1<=q.1.mem.1
 hist:∃l,q.1.hist=w.hist++l
theorem RG.rs{q:Wo×Rt}(h:RG w x q)(hs:stl x=false):RS w x q:=⟨⟨(λhd=>by rw[h.doom]at hd;cases hd),h.fate⟩,Stay.un hs (by rw[h.tries];omega),by rw[h.mem];omega,[],by rw[h.hist];simp⟩
theorem Wo8(c:Cm):Wal c 6=6:=by unfold Wal;rw[if_neg (by omega),if_neg (by omega)]
theorem WoC(c:Cm):Wal c 5=5:=by unfold Wal;rw[if_neg (by omega),if_neg (by omega)]
theorem Wpi{c:Cm}{ph:Int}(h:ph=5\/ph=6):(Wh c ph).wv=c.wv/\((Wh c ph).phase=c.phase\/(Wh c ph).phase=ph):=by
 unfold Wh;split
 .refine⟨rfl,.inr ?_⟩;show Wal c ph=ph;rcases h with rfl|rfl
  .exact WoC c
  .exact Wo8 c
 .exact⟨rfl,.inl rfl⟩
theorem WsP(hx:RX x)(h5:x.phase=5):RS w x (W4 w x k):=by
 unfold W4;split
 .rename_i hd;have h3:x.cm.phase<=3:=by rcases hx.doom hd with h|h<;>omega
  have kq:stl x=false:=by rw[Xbz,Ne,Wb9];omega
  split
  .exact⟨⟨(λhd=>by cases hd),λh=>by(change (6:Int)=5 at h;omega)⟩,Stay.un kq (Xp _),Xp _,[],by simp⟩
  .exact⟨⟨(λhd=>by cases hd),hx.fate⟩,Stay.un kq (Xp _),Xp _,[],by simp⟩
 .rename_i hd;have cO:x.doomed=false:=by simpa using hd
  have mI:=Whn w.mem x.cm;have hf:=hx.fate h5;simp only;refine⟨?_,?_,mI,?_⟩
  .unfold Wab WbZ;simp only;split
   .exact⟨(λhd=>by cases hd),λh=>by(change (6:Int)=5 at h;omega)⟩
   .split
    .have aR:(if x.fate=2 then(6:Int)else 7)≠5:=by split<;>omega
     exact⟨(λhd=>by(change x.doomed=true at hd;rw[cO]at hd;cases hd)),λh=>absurd h aR⟩
    .exact⟨(λhd=>by(change x.doomed=true at hd;rw[cO]at hd;cases hd)),λ_=>hf⟩
  .have lK:(Wab {x with cm:=(Wi w.mem x.cm).2}).tries=x.tries:=by
    unfold Wab WbZ;simp only;split
    .rfl
    .split<;>rfl
   refine⟨by rw[lK];omega,λhs=>?_⟩;have zZ:=Wb9.1 hs;have ay:Wf3 x=x.cm.wv:=by unfold Wf3;rw[if_pos hs,if_pos h5]
   have key:(Wi w.mem x.cm).2.wv=x.cm.wv/\((Wi w.mem x.cm).2.phase=4\/(Wi w.mem x.cm).2.phase=5\/(Wi w.mem x.cm).2.phase=6):=by
    unfold Wi;simp only;have e45:=zZ;rcases(show x.cm.phase=4\/x.cm.phase=5 by omega)with h4|h4
    .rw[if_neg (by omega),if_neg (by omega),if_neg (by omega),if_pos h4];have:=Wpi (c:=x.cm) (ph:=5) (.inl rfl);exact⟨this.1,by show(Wh x.cm 5).phase=4\/(Wh x.cm 5).phase=5\/(Wh x.cm 5).phase=6;omega⟩
    .rw[if_neg (by omega),if_neg (by omega),if_neg (by omega),if_neg (by omega),if_pos h4];have:=Wpi (c:=x.cm) (ph:=6) (.inr rfl);exact⟨this.1,by show(Wh x.cm 6).phase=4\/(Wh x.cm 6).phase=5\/(Wh x.cm 6).phase=6;omega⟩
   obtain⟨k1,k2⟩:=key;rw[ay];generalize (Wi w.mem x.cm).2=c at*;unfold Wab;simp only;rw[if_neg (by omega)];by_cases h6:c.phase=6
   .rw[if_pos h6];have aR:(if x.fate=2 then(6:Int)else 7)=6\/(if x.fate=2 then(6:Int)else 7)=7:=by split<;>simp
    generalize (if x.fate=2 then(6:Int)else 7)=ph at*;have iZ:stl {x with stamp:=c.wv,cm:={},phase:=ph}=true:=Wb9.2 (.inr (.inr ⟨aR,hf⟩));refine⟨iZ,?_,rfl,rfl,rfl⟩;unfold Wf3;rw[if_pos iZ,if_neg (by show¬ph=5;omega)];exact k1
   .rw[if_neg h6];have iZ:stl {x with cm:=c}=true:=Wb9.2 (.inr (.inl ⟨h5,by show c.phase=4\/c.phase=5;omega⟩));refine⟨iZ,?_,rfl,rfl,rfl⟩;unfold Wf3;rw[if_pos iZ,if_pos h5];exact k1
  .split
   .exact⟨_,rfl⟩
   .exact⟨[],by simp⟩
theorem WvX(hx:RX x)(aR:0<=x.phase/\x.phase<=8):RS w x (Wq w x k p):=by
 have kq:x.phase<=4->stl x=false:=λh=>by rw[Xbz,Ne,Wb9];omega
 unfold Wq;by_cases hd:x.doomed=true/\1<=x.phase/\x.phase<=4
 .rw[if_pos hd];exact⟨⟨(λhd=>by cases hd),λh=>by(change (6:Int)=5 at h;omega)⟩,Stay.un (kq (by omega)) (Xp _),Xp _,[],by simp⟩
 rw[if_neg hd];have cO:x.phase≠5->x.doomed=false:=λh5=>by
  rw[Xbz];intro h;rcases hx.doom h with h1|h1
  .exact hd ⟨h,h1⟩
  .exact h5 h1.1
 by_cases h0:x.phase=0
 .rw[if_pos h0];exact(Wvm (cO (by omega)) (by omega)).rs (kq (by omega))
 rw[if_neg h0];by_cases h1:x.phase=1
 .rw[if_pos h1];exact(WwB (cO (by omega)) (by omega)).rs (kq (by omega))
 rw[if_neg h1];by_cases h2:x.phase=2
 .rw[if_pos h2];exact(WqQ (cO (by omega)) (by omega)).rs (kq (by omega))
 rw[if_neg h2];by_cases h3:x.phase=3
 .rw[if_pos h3];exact(WiR (cO (by omega)) (by omega)).rs (kq (by omega))
 rw[if_neg h3];by_cases h4:x.phase=4
 .rw[if_pos h4];exact(Wl3 (cO (by omega)) (by omega)).rs (kq (by omega))
 rw[if_neg h4];by_cases h5:x.phase=5
 .rw[if_pos h5];exact WsP hx h5
 rw[if_neg h5];have ig:=cO h5;by_cases h6:x.phase=6
 .rw[if_pos h6];have z7:∀ph,ph≠5->RX {x with phase:=ph}:=λph hp=>⟨(λhd=>by(change x.doomed=true at hd;rw[ig]at hd;cases hd)),λh=>absurd h hp⟩;by_cases hz:x.undos.length>0
  .rw[if_pos hz];refine⟨⟨(λhd=>by(change x.doomed=true at hd;rw[ig]at hd;cases hd)),λh=>absurd h h5⟩,⟨Xp _,λhs=>?_⟩,Xp _,[],by simp[Wd1]⟩;have iZ:stl (Wd1 w x).2=true:=by
    have:=Wb9.1 hs;rw[Wb9];show x.phase=8\/(x.phase=5/\_)\/((x.phase=6\/x.phase=7)/\x.fate≠0);omega
   refine⟨iZ,?_,rfl,rfl,rfl⟩;unfold Wf3;rw[if_pos iZ,if_pos hs];rfl
  .rw[if_neg hz];refine⟨z7 7 (by omega),⟨Xp _,λhs=>?_⟩,Xp _,[],by simp⟩;have iZ:stl {x with phase:=7}=true:=by
    have:=Wb9.1 hs;exact Wb9.2 (.inr (.inr ⟨.inr rfl,by show x.fate≠0;omega⟩))
   refine⟨iZ,?_,rfl,rfl,rfl⟩;unfold Wf3;rw[if_pos iZ,if_pos hs,if_neg h5,if_neg (by show¬(7:Int)=5;omega)]
 rw[if_neg h6];by_cases h7:x.phase=7
 .rw[if_pos h7];by_cases hf:x.fate=0
  .rw[if_pos hf];have nW:stl x=false:=by rw[Xbz,Ne,Wb9];omega
   exact⟨⟨(λhd=>by cases hd),λh=>by(change (0:Int)=5 at h;omega)⟩,Stay.un nW (by show x.tries<=x.tries+1;omega),Xp _,[],by simp⟩
  .rw[if_neg hf];refine⟨⟨(λhd=>by cases hd),λh=>by(change (8:Int)=5 at h;omega)⟩,⟨Xp _,λhs=>?_⟩,Xp _,[],by simp[Wjh]⟩;have iZ:stl (Wjh {w with holds:=W2 w.holds ((k:Int)+1)} x k).2=true:=Wb9.2 (.inl rfl);refine⟨iZ,?_,rfl,rfl,rfl⟩;unfold Wf3;rw[if_pos iZ,if_pos hs,if_neg h5];rfl
 .rw[if_neg h7];exact⟨hx,Stay.refl x,Xp _,[],by simp⟩
end
def WX(w:Wo):Prop:=∀(i:Nat) (h:i<w.roots.length),RX w.roots[i]
structure WStay(w v:Wo):Prop where
 len:w.roots.length=v.roots.length
 root:∀(i:Nat) (h:i<w.roots.length) (h':i<v.roots.length),Stay w.roots[i] v.roots[i]
 hist:∃l,v.hist=w.hist++l
 clock:w.mem.1<=v.mem.1
section
variable{s:Sc}{w v u:Wo}{n:Int}{a:Ac}{k:Nat}
theorem WStay.refl(w:Wo):WStay w w:=⟨rfl,λi h h'=>Stay.refl _,⟨[],by simp⟩,Xp _⟩
theorem WStay.trans(h:WStay w v)(h':WStay v u):WStay w u:=by
 obtain⟨l,hl⟩:=h.hist;obtain⟨l',bH⟩:=h'.hist;exact⟨h.len.trans h'.len,λi a b=>(h.root i a (by rw[←h.len];exact a)).trans (h'.root i (by rw[←h.len];exact a) b),⟨l++l',by rw[bH,hl,List.append_assoc]⟩,Xey h.clock h'.clock⟩
theorem WkL{q:Wo×Rt}{w0:Wo}(hx:WX w0)(hk:k<w0.roots.length)(hr:q.1.roots=w0.roots)(hq:RS w0 w0.roots[k] q):WX (Wo.put q k)/\WStay w0 (Wo.put q k):=by
 have hlen:(q.1.roots.set k q.2).length=w0.roots.length:=by rw[Xad,hr]
 refine⟨λi hi=>?_,hlen.symm,λi hi jL=>?_,hq.hist,hq.clock⟩
 .change i<(q.1.roots.set k q.2).length at hi;show RX (q.1.roots.set k q.2)[i];rw[Xao];by_cases he:k=i
  .rw[if_pos he];exact hq.rx
  .rw[if_neg he];simp only[hr];exact hx i (by rw[←hlen];exact hi)
 .have z8:i<(q.1.roots.set k q.2).length:=jL;show Stay _ ((q.1.roots.set k q.2)[i]'z8);rw[Xao];by_cases he:k=i
  .subst he;rw[if_pos rfl];exact hq.stay
  .rw[if_neg he];simp only[hr];exact Stay.refl _
theorem Whg(h:WOk s.2.1 n w)(hk:k<w.roots.length):(Wq {w with now:=w.now+1} w.roots[k] k (s.2.1.getD k pg0)).1.roots=w.roots:=
 (WhM (w:={w with now:=w.now+1}) (k:=k) (Wf2 h.progs (by rw[←h.len];exact hk)) ⟨h.mem,h.shelf,h.holds⟩ (h.root k hk) (by have:=h.l4;have:=h.len;omega) h.n0).roots
theorem Wgl(h:WOk s.2.1 n w)(hx:WX w):WX (Wc4 s w a)/\WStay w (Wc4 s w a):=by
 have cA:WX {w with now:=w.now+1}:=hx;have mJ:WStay w {w with now:=w.now+1}:=⟨rfl,λi h h'=>Stay.refl _,⟨[],by simp⟩,Xp _⟩;unfold Wc4;simp only;split
 .rename_i hb;have hk:a.2.1.toNat<w.roots.length:=by omega
  rw[Wf hk];have ri:=hx _ hk;split
  .unfold Wh6;rw[Wf (show a.2.1.toNat<({w with now:=w.now+1}:Wo).roots.length from hk)];obtain⟨c,d⟩:=WkL (w0:={w with now:=w.now+1}) cA hk (Whg h hk) (WvX ri (h.root _ hk).phase);exact⟨c,mJ.trans d⟩
  .split
   .split
    .rename_i hf;have aR:=hf.1;obtain⟨c,d⟩:=WkL (w0:={w with now:=w.now+1}) (q:=({w with now:=w.now+1},{w.roots[a.2.1.toNat]with fam:=WcD w.mem w.roots[a.2.1.toNat].fam a.2.2.toNat ((s.2.1.getD a.2.1.toNat pg0).2.getD a.2.2.toNat [])})) cA hk rfl
      ⟨⟨ri.doom,ri.fate⟩,Stay.un (by rw[Xbz,Ne,Wb9,aR];omega) (Xp _),Xp _,[],by simp⟩
     exact⟨c,mJ.trans d⟩
    .exact⟨cA,mJ⟩
   .split
    .split
     .rename_i hf;have nW:stl w.roots[a.2.1.toNat]=false:=by rw[Xbz,Ne,Wb9];omega
      obtain⟨c,d⟩:=WkL (w0:={w with now:=w.now+1}) (q:=({w with now:=w.now+1},{w.roots[a.2.1.toNat]with doomed:=true})) cA hk rfl
       ⟨⟨λ_=>hf,ri.fate⟩,Stay.un nW (Xp _),Xp _,[],by simp⟩
      exact⟨c,mJ.trans d⟩
     .exact⟨cA,mJ⟩
    .exact⟨cA,mJ⟩
 .exact⟨cA,mJ⟩
theorem Wml:∀(l:List Ac) (n:Int) (w:Wo),WOk s.2.1 n w->WX w->WX (l.foldl (Wc4 s) w)/\WStay w (l.foldl (Wc4 s) w)
 | [],n,w,h,hx=>⟨hx,WStay.refl w⟩
 |a::l,n,w,h,hx=>by
  obtain⟨c,d⟩:=Wgl (a:=a) h hx;obtain⟨e,f⟩:=Wml l (n+1) _ (Wcy (a:=a) h) c;exact⟨e,d.trans f⟩
theorem WuR:WX (Wee s):=λi h=>by
 simp only[Wee,Xbj];exact⟨(λhd=>by cases hd),λh=>by(change (0:Int)=5 at h;omega)⟩
end
end
section

end
section
section
variable{N:Nat}{s:Sc}{p:Pg}{w:Wo}{n:Int}{a:Ac}{k:Nat}
theorem Wt2{R:Type}{K0:Int->Bool->Int->Int->Int->Int->Kr->Kj->Kr->(List Y_Root)->Kz->Option R}(hl:s.2.2.length<=1000)(hN:1048576<N):
  ∀(d j n:Nat) (m:Int) (w:Wo),j+d=s.2.2.length->d<n->WOk s.2.1 m w->m+d<=90000->
  Zbb N s.2.2 s K0 n (j:Int) w.now w.token w.mem.1 w.shelf.2 w.mem.2 w.shelf.1 w.holds (w.roots.map Rt.e) w.hist=
   (λv:Wo=>K0 (s.2.2.length:Int) false v.now v.token v.mem.1 v.shelf.2 v.mem.2 v.shelf.1 v.holds (v.roots.map Rt.e) v.hist) ((s.2.2.drop j).foldl (Wc4 s) w):=by
 intro d
 induction d with
 |zero=>
  intro j n m w hj hn h hm;obtain⟨n,rfl⟩:∃n',n=n'+1:=⟨n-1,by omega⟩;have:j=s.2.2.length:=by omega
  subst this;simp only[Zbb,WaH (Xn _),cond_false,Xdo,List.foldl_nil]
 |succ d ih=>
  intro j n m w hj hn h hm;obtain⟨n,rfl⟩:∃n',n=n'+1:=⟨n-1,by omega⟩;have hlt:j<s.2.2.length:=by omega
  have hw:(w.now,(w.token,((w.mem.1,w.mem.2),((w.shelf.1,w.shelf.2),(w.holds,(w.roots.map Rt.e,w.hist))))))=w.e:=rfl;simp only[Zbb,Wao hlt,Wv hlt,WB hlt,Wk (show j<4611686018427387904 by omega),cond_true,hw];rw[Woj h (by omega) hN,Xby hlt,Xce];exact ih (j+1) n (m+1) _ (by omega) (by omega) (Wcy h) (by omega)
theorem Wst(hb:SB s)(hN:1048576<N):Zj0 N s=ret (if WjV s=true then(Wek s).e else d_World):=by
 unfold Zj0;rw[Wfp hb hN];simp only[ret,Xd];cases hs:WjV s with
 |false=>rfl
 |true=>
  obtain⟨h1,h2,h3,h4⟩:=WeH hs;have h0:=WiP hs;have rz:=Wvn s.2.1 (by omega);simp only[Xab,cond_false,if_true];rw[WgW h1.map.1 h1.map.2 hN,Wjj (WpD.2 h1.cells) hN];simp only[ret,Xd,rz,cond_true,WgF];have eI:=Wt2 (s:=s) (N:=N) (K0:=λpd vQ pe pf pg pi gH pj pk pm pn=>(some ((),((pe,(pf,((pg,gH),((pj,pi),(pk,(pm,pn)))))),())):Option (Unit×(Y_World×Unit)))) (by have:=hb.acts;omega) hN s.2.2.length 0 N 0 (Wee s) (by omega) (by omega) h0 (by omega);rw[WpZ];have qw:((Wee s).roots.map Rt.e)=Xw s.2.1.length d_Root:=by
   unfold Wee;simp only[List.map_replicate];rfl
  rw[qw]at eI;refine eI.trans ?_;rw[Xcc];rfl
end
variable{N:Nat}{s:Sc}{w:Wo}{n:Int}{a:Ac}
end
section
def lkA(c:Cm)(j:Nat):Prop:=(c.phase=1/\(j:Int)<c.pos)\/c.phase=2\/c.phase=3\/c.phase=4\/(c.phase=5/\c.pos<=j)\/(c.phase=7/\(j:Int)<=c.pos)
def lkd(c:Cm)(i:Int):Prop:=∃(j:Nat) (h:j<c.puts.length),c.puts[j].1=i/\lkA c j
def owner(m:Mm)(i:Int):Int:=(Wg m i).2.2
structure CmLk(m:Mm)(c:Cm):Prop where
 own:∀i,0<=i->i<=7->(owner m i=c.who↔lkd c i)
 ver:c.phase=3\/c.phase=4\/c.phase=5->c.wv<=m.1/\∀i,lkd c i->(Wg m i).2.1<=c.wv
section
variable{m:Mm}{c c':Cm}{i j:Int}{w:Wd}
theorem Wbl(hm:WY m=true)(hi:0<=i/\i<=7)(hj:0<=j/\j<=7):Wg (Wnr m i w) j=if j=i then w else Wg m j:=by
 have h8:=(Wt hm).1;unfold Wg Wnr Wlw Wbi;simp only;rw[Wf (show j.toNat<(m.2.set i.toNat w).length by rw[Xad];omega),Xao];by_cases h:j=i
 .subst h;rw[if_pos rfl,if_pos rfl]
 .rw[if_neg (by omega),if_neg h,Wf (show j.toNat<m.2.length by omega)]
theorem Wdt(hp:c'.puts=c.puts)(h:∀j:Nat,j<c.puts.length->(lkA c' j↔lkA c j)):lkd c' i↔lkd c i:=by
 unfold lkd;rw[hp];exact⟨λ⟨j,hj,a,b⟩=>⟨j,hj,a,(h j hj).1 b⟩,λ⟨j,hj,a,b⟩=>⟨j,hj,a,(h j hj).2 b⟩⟩
theorem WtY(h:CmOk c){a b:Nat}(ha:a<c.puts.length)(hb:b<c.puts.length)(e:c.puts[a].1=c.puts[b].1):a=b:=by
 have hp:=List.pairwise_iff_getElem.1 h.pup;rcases Nat.lt_trichotomy a b with h1|h1|h1
 .have:=hp a b ha hb h1;omega
 .exact h1
 .have:=hp b a hb ha h1;omega
theorem CmLk.same(h:CmLk m c)(hp:c'.puts=c.puts)(hw:c'.who=c.who)(hv:c'.wv=c.wv)(ha:∀j:Nat,j<c.puts.length->(lkA c' j↔lkA c j))(aR:c'.phase=3\/c'.phase=4\/c'.phase=5->c.phase=3\/c.phase=4\/c.phase=5):CmLk m c':=
 ⟨λi h0 h7=>by rw[hw,h.own i h0 h7,Wdt hp ha],λh3=>by
  obtain⟨a,b⟩:=h.ver (aR h3);rw[hv];exact⟨a,λi hi=>b i ((Wdt hp ha).1 hi)⟩⟩
theorem Wk4(n:Int)(j:Nat)(hn:0<=n):lkA (WS c n) j↔(j:Int)<n:=by
 by_cases h:n=0
 .have:WS c n={c with phase:=8,pos:=0}:=by unfold WS;rw[if_pos h]
  rw[this];unfold lkA;simp only;omega
 .have:WS c n={c with phase:=7,pos:=n-1}:=by unfold WS;rw[if_neg h]
  rw[this];unfold lkA;simp only;constructor
  .intro hz;omega
  .intro hz;right;right;right;right;right;exact⟨trivial,by omega⟩
theorem Wat(c:Cm)(ph:Int):(Wh c ph).puts=c.puts/\(Wh c ph).who=c.who/\(Wh c ph).wv=c.wv:=by
 unfold Wh Wco;split<;>exact⟨rfl,rfl,rfl⟩
theorem WbM(c:Cm)(n:Int):(WS c n).puts=c.puts/\(WS c n).who=c.who/\(WS c n).wv=c.wv:=by
 unfold WS;split<;>exact⟨rfl,rfl,rfl⟩
theorem Wdl(c:Cm)(n:Int):(WS c n).phase=7\/(WS c n).phase=8:=by unfold WS;split<;>simp
theorem Wju(m:Mm)(c:Cm):(Wi m c).2.who=c.who:=by
 unfold Wi;simp only;have h1:=λph=>(Wat c ph).2.1;have h2:=λn=>(WbM c n).2.1
 repeat' split
 all_goals first|exact h1 _|exact h2 _|rfl
theorem Wsu(h:CmOk c)(hm:WY m=true)(hc:CmLk m c):CmLk (Wi m c).1 (Wi m c).2:=by
 have bK:=h.pos;have ay:c.phase=1\/c.phase=4\/c.phase=5\/c.phase=7->c.steps=c.puts.length:=λhp=>by unfold Cm.steps;rw[if_pos hp]
 have hw:=h.who;have fF:∀n:Int,0<=n->(∀j:Nat,j<c.puts.length->((j:Int)<n↔lkA c j))->CmLk m (WS c n):=λn h0 hn=>by
  obtain⟨p1,p2,p3⟩:=WbM c n;refine hc.same p1 p2 p3 (λj hj=>by rw[Wk4 n j h0];exact hn j hj) λh3=>?_;rcases Wdl c n with h|h<;>omega
 unfold Wi;simp only;by_cases h1:c.phase=1
 .rw[if_pos h1];obtain⟨j,hj,e1,e2,e3,e4⟩:=h.put (by omega);have hs:=ay (by omega);rw[e2];by_cases ho:(Wg m c.puts[j].1).2.2=0
  .rw[if_pos ho];obtain⟨p1,p2,p3⟩:=Wat c 2;have aR:∀l:Nat,l<c.puts.length->(lkA (Wh c 2) l↔lkA c l\/l=j):=λl hl=>by
    unfold Wh;by_cases cg:c.pos+1=c.steps
    .rw[if_pos cg];have:(Wco c 2).phase=2:=by show Wal c 2=2;unfold Wal;rw[if_neg (by omega),if_neg (by omega)]
     unfold lkA;rw[this];omega
    .rw[if_neg cg];unfold lkA;simp only;omega
   refine⟨λi h0 h7=>?_,λh3=>?_⟩
   .rw[p2];have hcl:=hc.own i h0 h7;unfold owner Wiu at*;rw[Wbl hm e3 ⟨h0,h7⟩];by_cases hi:i=c.puts[j].1
    .rw[if_pos hi];refine⟨λ_=>⟨j,by rw[p1];exact hj,by simp only[p1];exact hi.symm,(aR j hj).2 (.inr rfl)⟩,λ_=>rfl⟩
    .rw[if_neg hi,hcl];refine⟨λ⟨l,hl,a,b⟩=>⟨l,by rw[p1];exact hl,by simp only[p1];exact a,(aR l hl).2 (.inl b)⟩,λ⟨l,hl,a,b⟩=>?_⟩;simp only[p1]at hl a;rcases(aR l hl).1 b with b|b
     .exact⟨l,hl,a,b⟩
     .subst b;exact absurd a.symm hi
   .exfalso;have nS:(Wh c 2).phase=1\/(Wh c 2).phase=2:=by
     unfold Wh;split
     .right;show Wal c 2=2;unfold Wal;rw[if_neg (by omega),if_neg (by omega)]
     .left;exact h1
    change (Wh c 2).phase=3\/(Wh c 2).phase=4\/(Wh c 2).phase=5 at h3;omega
  .rw[if_neg ho];exact fF _ (by omega) λl hl=>by unfold lkA;omega
 rw[if_neg h1];by_cases h2:c.phase=2
 .rw[if_pos h2];have ht:=Wlt hm;by_cases hz:(tick m).2=0
  .rw[if_pos hz,ht.2.2.2.2 hz];exact fF _ (by omega) λl hl=>by unfold lkA;omega
  .rw[if_neg hz];obtain⟨t1,t2⟩:=ht.2.2.2.1 hz;have an:∀i,Wg (tick m).1 i=Wg m i:=λi=>by rw[t2];rfl
   have aR:∀l:Nat,l<c.puts.length->(lkA (Wco {c with wv:=(tick m).2} 3) l↔lkA c l):=λl hl=>by
    have dX:c.puts.length≠0:=by omega
    change l<c.puts.length at hl;have:(Wco {c with wv:=(tick m).2} 3).phase=3\/(Wco {c with wv:=(tick m).2} 3).phase=4:=by
     show Wal {c with wv:=(tick m).2} 3=3\/Wal {c with wv:=(tick m).2} 3=4;unfold Wal;rw[if_neg (λhz=>dX hz.2)];split<;>simp
    unfold lkA;omega
   refine⟨λi h0 h7=>?_,λh3=>⟨by show(tick m).2<=(tick m).1.1;rw[t2];simp only;omega,λi hi=>?_⟩⟩
   .unfold owner;rw[an];exact(hc.own i h0 h7).trans (Wdt (c':=Wco {c with wv:=(tick m).2} 3) (c:=c) rfl aR).symm
   .rw[an];obtain⟨l,hl,a,b⟩:=hi;change l<c.puts.length at hl;change c.puts[l].1=i at a;have hr:=h.rows _ (Xq hl);have hcl:=Wde.1 (WdT hm hr.1);rw[←a];show(Wg m c.puts[l].1).2.1<=(tick m).2;omega
 rw[if_neg h2];by_cases h3:c.phase=3
 .rw[if_pos h3];split
  .exact fF _ (by omega) λl hl=>by unfold lkA;omega
  .obtain⟨p1,p2,p3⟩:=Wat c 4;refine hc.same p1 p2 p3 (λl hl=>?_) λ_=>.inl h3;unfold Wh;split
   .have:(Wco c 4).phase=4:=by show Wal c 4=4;unfold Wal;rw[if_neg (λhz=>by have:=hz.2;omega),if_neg (by omega)]
    show lkA (Wco c 4) l↔lkA c l;unfold lkA;omega
   .unfold lkA;simp only;omega
 rw[if_neg h3];by_cases h4:c.phase=4
 .rw[if_pos h4];obtain⟨j,hj,e1,e2,e3,e4⟩:=h.put (by omega);have hs:=ay (by omega);rw[e2];obtain⟨p1,p2,p3⟩:=Wat c 5;have an:∀i,0<=i->i<=7->(Wg (Wb1 m c.puts[j].1 c.who c.puts[j].2) i).2=(Wg m i).2:=λi h0 h7=>by
   unfold Wb1;split
   .rw[Wbl hm e3 ⟨h0,h7⟩];split
    .rename_i hi;rw[hi]
    .rfl
   .rfl
  have aR:∀l:Nat,l<c.puts.length->(lkA (Wh c 5) l↔lkA c l):=λl hl=>by
   unfold Wh;split
   .have:(Wco c 5).phase=5/\(Wco c 5).pos=0:=⟨WoC c,rfl⟩;unfold lkA;omega
   .unfold lkA;simp only;omega
  refine⟨λi h0 h7=>?_,λ_=>?_⟩
  .unfold owner;rw[an i h0 h7,p2,Wdt p1 aR];exact hc.own i h0 h7
  .obtain⟨v1,v2⟩:=hc.ver (.inr (.inl h4));rw[p3];refine⟨by unfold Wb1;split<;>exact v1,λi hi=>?_⟩;have jL:=(Wdt p1 aR).1 hi;obtain⟨l,hl,a,b⟩:=jL;have hr:=h.rows _ (Xq hl);rw[an i (by omega) (by omega)];exact v2 i ⟨l,hl,a,b⟩
 rw[if_neg h4];have tq:∀(ver:Int) (j:Nat) (hj:j<c.puts.length),0<=c.puts[j].1/\c.puts[j].1<=7->lkA c j->(Wg m c.puts[j].1).2.1<=ver->ver<=m.1->Way m c.puts[j].1 c.who ver=Wnr m c.puts[j].1 ((Wg m c.puts[j].1).1,ver,0):=λver j hj tt hl tM gQ=>by
  have ho:=(hc.own c.puts[j].1 tt.1 tt.2).2 ⟨j,hj,rfl,hl⟩;unfold owner at ho;unfold Way;rw[if_pos ⟨ho,tM,gQ⟩]
 have jl:∀(ver:Int) (c':Cm) (j:Nat) (hj:j<c.puts.length),0<=c.puts[j].1/\c.puts[j].1<=7->c'.puts=c.puts->c'.who=c.who->c'.wv=c.wv->(∀l:Nat,l<c.puts.length->(lkA c' l↔lkA c l/\l≠j))->(c'.phase=3\/c'.phase=4\/c'.phase=5->c.phase=3\/c.phase=4\/c.phase=5)->CmLk (Wnr m c.puts[j].1 ((Wg m c.puts[j].1).1,ver,0)) c':=λver c' j hj tt p1 p2 p3 aR wI=>by
  have gL:∀i,lkd c' i↔lkd c i/\i≠c.puts[j].1:=λi=>by
   unfold lkd;rw[p1];refine⟨λ⟨l,hl,a,b⟩=>?_,λ⟨⟨l,hl,a,b⟩,hne⟩=>?_⟩
   .have:=(aR l hl).1 b;exact⟨⟨l,hl,a,this.1⟩,λhe=>this.2 (WtY h hl hj (a.trans he))⟩
   .exact⟨l,hl,a,(aR l hl).2 ⟨b,λhe=>hne (by subst he;exact a.symm)⟩⟩
  refine⟨λi h0 h7=>?_,λh3=>?_⟩
  .unfold owner;rw[Wbl hm tt ⟨h0,h7⟩,p2,gL];by_cases hi:i=c.puts[j].1
   .rw[if_pos hi];exact⟨λhz=>by(change (0:Int)=c.who at hz;omega),λhz=>absurd hi hz.2⟩
   .rw[if_neg hi];exact⟨λhz=>⟨(hc.own i h0 h7).1 hz,hi⟩,λhz=>(hc.own i h0 h7).2 hz.1⟩
  .obtain⟨v1,v2⟩:=hc.ver (wI h3);rw[p3];refine⟨v1,λi hi=>?_⟩;have jL:=(gL i).1 hi;obtain⟨⟨l,hl,a,b⟩,hne⟩:=jL;have hr:=h.rows _ (Xq hl);rw[Wbl hm tt (by rw[←a];exact hr.1),if_neg hne];exact v2 i ⟨l,hl,a,b⟩
 by_cases h5:c.phase=5
 .rw[if_pos h5];obtain⟨j,hj,e1,e2,e3,e4⟩:=h.put (by omega);have hs:=ay (by omega);rw[e2];obtain⟨v1,v2⟩:=hc.ver (.inr (.inr h5));have lL:lkA c j:=by unfold lkA;omega
  rw[tq c.wv j hj e3 lL (v2 _ ⟨j,hj,rfl,lL⟩) v1];obtain⟨p1,p2,p3⟩:=Wat c 6;refine jl c.wv (Wh c 6) j hj e3 p1 p2 p3 (λl hl=>?_) λ_=>.inr (.inr h5);unfold Wh;split
  .have:(Wco c 6).phase=6:=Wo8 c;unfold lkA;omega
  .unfold lkA;simp only;omega
 rw[if_neg h5];by_cases h7:c.phase=7
 .rw[if_pos h7];obtain⟨j,hj,e1,e2,e3,e4⟩:=h.put (by omega);have hs:=ay (by omega);rw[e2];have lL:lkA c j:=by unfold lkA;omega
  have hcl:=Wde.1 (WdT hm e3);rw[tq _ j hj e3 lL (Xp _) hcl.2.1.2];obtain⟨p1,p2,p3⟩:=WbM c c.pos;refine jl _ (WS c c.pos) j hj e3 p1 p2 p3 (λl hl=>?_) λh3=>?_
  .rw[Wk4 _ _ (by omega)];unfold lkA;omega
  .rcases Wdl c c.pos with h|h<;>omega
 .rw[if_neg h7];exact hc
theorem WpH(h:CmOk c)(hc:CmLk m c):CmLk m (Wx c):=by
 have bK:=h.pos;have fF:∀n:Int,0<=n->(∀j:Nat,j<c.puts.length->((j:Int)<n↔lkA c j))->CmLk m (WS c n):=λn h0 hn=>by
  obtain⟨p1,p2,p3⟩:=WbM c n;refine hc.same p1 p2 p3 (λj hj=>by rw[Wk4 n j h0];exact hn j hj) λh3=>?_;rcases Wdl c n with h|h<;>omega
 unfold Wx;split
 .exact fF _ (by omega) λl hl=>by unfold lkA;omega
 .split
  .exact fF _ (by omega) λl hl=>by unfold lkA;omega
  .exact hc
theorem WnE(c:Cm):(Wx c).who=c.who:=by
 have h2:=λn=>(WbM c n).2.1;unfold Wx
 repeat' split
 all_goals first|exact h2 _|rfl
theorem WjE(h:CmOk c)(hm:WY m=true){who:Int}(h1:who≠c.who)(h0:who≠0)(hi:0<=i/\i<=7):(owner (Wi m c).1 i=who↔owner m i=who)/\(owner m i=who->Wg (Wi m c).1 i=Wg m i):=by
 have bj:(owner m i=who↔owner m i=who)/\(owner m i=who->Wg m i=Wg m i):=⟨Iff.rfl,λ_=>rfl⟩;have dR:∀(a:Int) (wd:Wd),0<=a/\a<=7->(Wg m a).2.2≠who->wd.2.2≠who->(owner (Wnr m a wd) i=who↔owner m i=who)/\(owner m i=who->Wg (Wnr m a wd) i=Wg m i):=λa wd ha hne hw=>by
  unfold owner;rw[Wbl hm ha hi];by_cases hia:i=a
  .subst hia;rw[if_pos rfl];exact⟨⟨λhz=>absurd hz hw,λhz=>absurd hz hne⟩,λhz=>absurd hz hne⟩
  .rw[if_neg hia];exact⟨Iff.rfl,λ_=>rfl⟩
 unfold Wi;simp only;by_cases p1:c.phase=1
 .rw[if_pos p1];obtain⟨j,hj,e1,e2,e3,e4⟩:=h.put (by omega);rw[e2];by_cases ho:(Wg m c.puts[j].1).2.2=0
  .rw[if_pos ho];exact dR _ _ e3 (by omega) (by show c.who≠who;omega)
  .rw[if_neg ho];exact bj
 rw[if_neg p1];by_cases p2:c.phase=2
 .rw[if_pos p2];have ht:=Wlt hm;by_cases hz:(tick m).2=0
  .rw[if_pos hz];simp only;rw[ht.2.2.2.2 hz];exact bj
  .rw[if_neg hz];simp only;rw[(ht.2.2.2.1 hz).2];exact bj
 rw[if_neg p2];by_cases p3:c.phase=3
 .rw[if_pos p3];split<;>exact bj
 rw[if_neg p3];by_cases p4:c.phase=4
 .rw[if_pos p4];obtain⟨j,hj,e1,e2,e3,e4⟩:=h.put (by omega);rw[e2];unfold Wb1;split
  .rename_i ho;exact dR _ _ e3 (by omega) (by show(Wg m c.puts[j].1).2.2≠who;omega)
  .exact bj
 rw[if_neg p4];by_cases p5:c.phase=5
 .rw[if_pos p5];obtain⟨j,hj,e1,e2,e3,e4⟩:=h.put (by omega);rw[e2];unfold Way;split
  .rename_i ho;exact dR _ _ e3 (by omega) (by show(0:Int)≠who;omega)
  .exact bj
 rw[if_neg p5];by_cases p7:c.phase=7
 .rw[if_pos p7];obtain⟨j,hj,e1,e2,e3,e4⟩:=h.put (by omega);rw[e2];unfold Way;split
  .rename_i ho;exact dR _ _ e3 (by omega) (by show(0:Int)≠who;omega)
  .exact bj
 .rw[if_neg p7];exact bj
end
end
section
structure LB(w:Wo)(k:Nat)(x:Rt):Prop where
 cm:x.phase=5->x.cm.who=(k:Int)+1/\CmLk w.mem x.cm
 no:x.phase≠5->∀i,0<=i->i<=7->owner w.mem i≠(k:Int)+1
 hd:∀h∈w.holds,h.1=(k:Int)+1->x.phase≠0/\x.phase≠8
 tk:w.token=(k:Int)+1->x.tries>=3/\x.phase≠8
structure LQ(w:Wo)(k:Nat)(q:Wo×Rt):Prop where
 b:LB q.1 k q.2
 oth:∀who,who≠(k:Int)+1->who≠0->∀i,0<=i->i<=7->(owner q.1.mem i=who↔owner w.mem i=who)/\(owner w.mem i=who->Wg q.1.mem i=Wg w.mem i)
 clk:w.mem.1<=q.1.mem.1
 hdo:∀h∈q.1.holds,h.1≠(k:Int)+1->∃h'∈w.holds,h'.1=h.1
 tko:q.1.token≠0->q.1.token≠(k:Int)+1->q.1.token=w.token
section
variable{w:Wo}{x:Rt}{k:Nat}{p:Pg}{q:Wo×Rt}{o:Opn}{n:Int}
theorem LQ.of(hm:q.1.mem=w.mem)(hh:q.1.holds=w.holds)(ht:q.1.token=w.token)(hb:LB q.1 k q.2):LQ w k q:=
 ⟨hb,λwho h1 h0 i a b=>by rw[hm];exact⟨Iff.rfl,λ_=>rfl⟩,by rw[hm];omega,λh fb _=>⟨h,by rw[←hh];exact fb,rfl⟩,λ_ _=>ht⟩
theorem LQ.keep(hb:LB w k x)(hm:q.1.mem=w.mem)(hh:q.1.holds=w.holds)(ht:q.1.token=w.token)(h5:x.phase≠5)(hp:q.2.phase≠0/\q.2.phase≠5/\q.2.phase≠8)(lK:q.2.tries=x.tries):LQ w k q:=
 LQ.of hm hh ht ⟨λh=>absurd h hp.2.1,λ_=>by rw[hm];exact hb.no h5,λh fb hk=>⟨hp.1,hp.2.2⟩,λh=>by rw[ht]at h;rw[lK];exact⟨(hb.tk h).1,hp.2.2⟩⟩
theorem WcW:(Wy x).phase≠0/\(Wy x).phase≠5/\(Wy x).phase≠8:=by
 unfold Wy WbZ;split<;>simp
theorem WlE(h1:x.phase=1):(Wci w x o).phase≠0/\(Wci w x o).phase≠5/\(Wci w x o).phase≠8:=by
 unfold Wci;cases Wbc x.writes o.2.2.1 with
 |some v=>simp only;omega
 |none=>
  simp only;generalize WV w.mem x.rv _=b;split
  .exact WcW
  .split<;>(simp only;omega)
theorem Woc{l:List Hd}{who:Int}(h:(WfJ l who).length=0):∀e∈l,e.1≠who:=λe he hw=>by
 have:e.2.1∈WfJ l who:=Xv.2 ⟨e,Xav.2 ⟨he,by simpa using hw⟩,rfl⟩;rw[Xy h]at this;cases this
theorem Wu2(bZ:∀i,0<=i->i<=7->owner w.mem i≠(k:Int)+1)(hh:∀e∈w.holds,e.1≠(k:Int)+1):LQ w k (Wjh w x k):=by
 unfold Wjh;refine⟨⟨λh=>by(change (8:Int)=5 at h;omega),λ_=>bZ,λh fb hk=>absurd hk (hh h fb),λh=>?_⟩,λwho h1 h0 i a b=>⟨Iff.rfl,λ_=>rfl⟩,Xp _,λh fb _=>⟨h,fb,rfl⟩,λh0 h1=>?_⟩
 .change (if w.token=(k:Int)+1 then 0 else w.token)=(k:Int)+1 at h;split at h<;>omega
 .change (if w.token=(k:Int)+1 then 0 else w.token)≠0 at h0;show(if w.token=(k:Int)+1 then 0 else w.token)=w.token;split
  .rename_i hc;rw[if_pos hc]at h0;exact absurd rfl h0
  .rfl
theorem Wpr(hb:LB w k x)(h1:x.phase=1){out:Int}:LQ w k (W6 w x k out):=by
 have bZ:=hb.no (by omega);unfold W6;simp only;generalize hr:(if out=2 then []else x.writes)=rows;split
 .rename_i hc;exact Wu2 bZ (Woc hc.2)
 .refine LQ.of rfl rfl rfl ⟨λ_=>⟨rfl,?_⟩,λh=>absurd rfl h,λh hh hk=>by(show(5:Int)≠0/\(5:Int)≠8;omega),λh=>⟨(hb.tk h).1,by show(5:Int)≠8;omega⟩⟩;have wJ:∀i,¬lkd (Wa5 ((k:Int)+1) x.rv rows x.reads) i:=λi ⟨j,hj,a,b⟩=>by
   change j<(WcN rows).length at hj;have aR:(Wa5 ((k:Int)+1) x.rv rows x.reads).phase=1:=by show(if(WcN rows).length=0 then(2:Int)else 1)=1;rw[if_neg (by omega)]
   have bK:(Wa5 ((k:Int)+1) x.rv rows x.reads).pos=0:=rfl;unfold lkA at b;omega
  refine⟨λi h0 h7=>⟨λh=>absurd h (bZ i h0 h7),λh=>absurd h (wJ i)⟩,λh3=>?_⟩;have aR:(Wa5 ((k:Int)+1) x.rv rows x.reads).phase=1\/(Wa5 ((k:Int)+1) x.rv rows x.reads).phase=2:=by
   show(if(WcN rows).length=0 then(2:Int)else 1)=1\/(if(WcN rows).length=0 then(2:Int)else 1)=2;split<;>simp
  exfalso;change (Wa5 ((k:Int)+1) x.rv rows x.reads).phase=3\/(Wa5 ((k:Int)+1) x.rv rows x.reads).phase=4\/(Wa5 ((k:Int)+1) x.rv rows x.reads).phase=5 at h3;omega
theorem Wtr(hb:LB w k x)(h1:x.phase=1){code:List Opn}:LQ w k (WbL w x k code):=by
 unfold WbL;split
 .exact Wpr hb h1
 .split
  .exact LQ.keep hb rfl rfl rfl (by omega) (by unfold Wd1;simp only;omega) rfl
  .exact LQ.keep hb rfl rfl rfl (by omega) (by simp only;omega) rfl
theorem Wt5(hd:x.doomed=false)(hb:LB w k x)(h1:x.phase=1)(hH:HOk w.holds):LQ w k (Wbs w x k o):=by
 unfold Wbs;cases ha:WaT w.holds ((k:Int)+1) (WaC o).1 (WaC o).2 with
 |none=>exact LQ.keep hb rfl rfl rfl (by omega) WcW (WfL hd).2.2
 |some hs=>
  have hmem:∀e∈hs,e.1≠(k:Int)+1->e∈w.holds:=λe he hne=>by
   unfold WaT at ha;split at ha
   .injection ha with ha;subst ha;unfold WgN at he;rcases(WbP Wor hH.ris).1 he with rfl|he
    .exact absurd rfl hne
    .exact he.1
   .cases ha
  exact⟨⟨λh=>by(change x.phase=5 at h;omega),λ_=>hb.no (by omega),λh hh hk=>by(show x.phase≠0/\x.phase≠8;omega),λh=>⟨(hb.tk h).1,by show x.phase≠8;omega⟩⟩,
   λwho h1 h0 i a b=>⟨Iff.rfl,λ_=>rfl⟩,Xp _,λh hh hne=>⟨h,hmem h hh hne,rfl⟩,λ_ _=>rfl⟩
theorem WwU(hd:x.doomed=false)(hb:LB w k x)(h1:x.phase=1)(hH:HOk w.holds):LQ w k (Wdx w x k p):=by
 unfold Wdx;split
 .exact Wpr hb h1
 .simp only;generalize opN p.1 x.pc=o;split
  .exact LQ.keep hb rfl rfl rfl (by omega) (WlE h1) (WqY hd (by omega)).2.2
  .split
   .exact Wtr hb h1
   .split
    .exact LQ.keep hb rfl rfl rfl (by omega) (by simp only;omega) rfl
    .split
     .exact Wt5 hd hb h1 hH
     .repeat' split
      all_goals exact LQ.keep hb rfl rfl rfl (by omega) (by simp only;omega) rfl
theorem Wv2(hb:LB w k x)(h0:x.phase=0):LQ w k (Wc9 w x k):=by
 unfold Wc9;split
 .exact LQ.of rfl rfl rfl hb
 .split
  .rename_i hc;exact⟨⟨hb.cm,hb.no,hb.hd,λ_=>⟨hc.1,by show x.phase≠8;omega⟩⟩,λwho h1 h0 i a b=>⟨Iff.rfl,λ_=>rfl⟩,Xp _,λh hh _=>⟨h,hh,rfl⟩,λ_ hne=>absurd rfl hne⟩
  .split
   .exact LQ.of rfl rfl rfl hb
   .exact LQ.keep hb rfl rfl rfl (by omega) (by simp only;omega) rfl
theorem Wq0(hb:LB w k x)(h5:x.phase=5)(hc:CmOk x.cm)(hm:WY w.mem=true):LQ w k (W4 w x k):=by
 obtain⟨hw,hcl⟩:=hb.cm h5;have nI:∀c:Cm,c.phase=6\/c.phase=8->∀i,¬lkd c i:=λc aR i ⟨j,hj,a,b⟩=>by unfold lkA at b;omega
 unfold W4;split
 .have yj:=WpH hc hcl;have uz:=WnE x.cm;split
  .rename_i h8;refine LQ.of rfl rfl rfl ⟨λh=>by(change (6:Int)=5 at h;omega),λ_ i a b=>?_,λh hh hk=>by(show(6:Int)≠0/\(6:Int)≠8;omega),λh=>⟨(hb.tk h).1,by show(6:Int)≠8;omega⟩⟩;intro ho;exact nI _ (.inr h8) i ((yj.own i a b).1 (by rw[uz,hw];exact ho))
  .exact LQ.of rfl rfl rfl ⟨λ_=>⟨by show(Wx x.cm).who=_;rw[uz,hw],yj⟩,λh=>absurd h5 h,hb.hd,hb.tk⟩
 .have hs:=Wsu hc hm hcl;have uA:=Wju w.mem x.cm;have gd:=λwho (a:who≠(k:Int)+1) (b:who≠0) (i:Int) (c:0<=i) (d:i<=7)=>WjE (i:=i) hc hm (who:=who) (by rw[hw];exact a) b ⟨c,d⟩;have mI:=Whn w.mem x.cm;simp only;refine⟨?_,gd,mI,λh hh _=>⟨h,hh,rfl⟩,λ_ _=>rfl⟩;have bZ:(Wi w.mem x.cm).2.phase=6\/(Wi w.mem x.cm).2.phase=8->∀i,0<=i->i<=7->owner (Wi w.mem x.cm).1 i≠(k:Int)+1:=λaR i a b ho=>nI _ aR i ((hs.own i a b).1 (by rw[uA,hw];exact ho));generalize (Wi w.mem x.cm).1=m' at*;generalize (Wi w.mem x.cm).2=c' at*;unfold Wab;simp only;by_cases h8:c'.phase=8
  .rw[if_pos h8];exact⟨λh=>by(change (6:Int)=5 at h;omega),λ_=>bZ (.inr h8),λh hh hk=>by(show(6:Int)≠0/\(6:Int)≠8;omega),λh=>⟨(hb.tk h).1,by show(6:Int)≠8;omega⟩⟩
  .rw[if_neg h8];by_cases h6:c'.phase=6
   .rw[if_pos h6];have aR:(if x.fate=2 then(6:Int)else 7)=6\/(if x.fate=2 then(6:Int)else 7)=7:=by split<;>simp
    generalize (if x.fate=2 then(6:Int)else 7)=ph at*;exact⟨λh=>by(change ph=5 at h;omega),λ_=>bZ (.inl h6),λh hh hk=>by(show ph≠0/\ph≠8;omega),λh=>⟨(hb.tk h).1,by show ph≠8;omega⟩⟩
   .rw[if_neg h6];exact⟨λ_=>⟨by show c'.who=_;rw[uA,hw],hs⟩,λh=>absurd h5 h,hb.hd,hb.tk⟩
theorem Wr7(hx:RX x)(ho:ROk p n x)(hg:GOk w)(hb:LB w k x):LQ w k (Wq w x k p):=by
 have aR:=ho.phase;unfold Wq;by_cases hd:x.doomed=true/\1<=x.phase/\x.phase<=4
 .rw[if_pos hd];exact LQ.keep hb rfl rfl rfl (by omega) (by unfold WbZ;simp) rfl
 rw[if_neg hd];have cO:x.phase≠5->x.doomed=false:=λh5=>by
  rw[Xbz];intro h;rcases hx.doom h with h1|h1
  .exact hd ⟨h,h1⟩
  .exact h5 h1.1
 by_cases h0:x.phase=0
 .rw[if_pos h0];exact Wv2 hb h0
 rw[if_neg h0];by_cases h1:x.phase=1
 .rw[if_pos h1];exact WwU (cO (by omega)) hb h1 hg.holds
 rw[if_neg h1];by_cases h2:x.phase=2
 .rw[if_pos h2];refine LQ.keep hb rfl rfl rfl (by omega) ?_ (WqQ (w:=w) (cO (by omega)) (by omega)).tries;unfold WbN WbZ
  repeat' split
  all_goals(simp only;omega)
 rw[if_neg h2];by_cases h3:x.phase=3
 .rw[if_pos h3];refine LQ.keep hb (WiR (cO (by omega)) (by omega)).mem ?_ ?_ (by omega) ?_ (WiR (cO (by omega)) (by omega)).tries
  all_goals(unfold WaR Wd1;split<;>first|rfl|(simp only;omega))
 rw[if_neg h3];by_cases h4:x.phase=4
 .rw[if_pos h4];refine LQ.keep hb rfl rfl rfl (by omega) ?_ (Wl3 (w:=w) (cO (by omega)) (by omega)).tries;unfold Waz WbZ;simp only
  repeat' split
  all_goals(simp only;omega)
 rw[if_neg h4];by_cases h5:x.phase=5
 .rw[if_pos h5];exact Wq0 hb h5 (ho.comm h5) hg.mem
 rw[if_neg h5];by_cases h6:x.phase=6
 .rw[if_pos h6];by_cases hz:x.undos.length>0
  .rw[if_pos hz];exact LQ.keep hb rfl rfl rfl (by omega) (by unfold Wd1;simp only;omega) rfl
  .rw[if_neg hz];exact LQ.keep hb rfl rfl rfl (by omega) (by simp only;omega) rfl
 rw[if_neg h6];by_cases h7:x.phase=7
 .rw[if_pos h7];have hfree:∀e∈W2 w.holds ((k:Int)+1),e.1≠(k:Int)+1/\e∈w.holds:=λe he=>by
   have:=Xav.1 he;exact⟨by simpa using this.2,this.1⟩
  have bZ:=hb.no (by omega);by_cases hf:x.fate=0
  .rw[if_pos hf];refine⟨⟨λh=>by(change (0:Int)=5 at h;omega),λ_=>bZ,λh hh hk=>absurd hk (hfree h hh).1,λh=>⟨?_,by show(0:Int)≠8;omega⟩⟩,λwho h1 h0 i a b=>⟨Iff.rfl,λ_=>rfl⟩,Xp _,λh hh _=>⟨h,(hfree h hh).2,rfl⟩,λ_ _=>rfl⟩;have:=(hb.tk h).1;show x.tries+1>=3;omega
  .rw[if_neg hf];have:=Wu2 (w:={w with holds:=W2 w.holds ((k:Int)+1)}) (x:=x) bZ (λe he=>(hfree e he).1);exact⟨this.b,this.oth,this.clk,λh hh hne=>by obtain⟨h',a,b⟩:=this.hdo h hh hne;exact⟨h',(hfree h' a).2,b⟩,this.tko⟩
 .rw[if_neg h7];exact LQ.of rfl rfl rfl hb
end
structure LX(w:Wo):Prop where
 root:∀(k:Nat) (h:k<w.roots.length),LB w k w.roots[k]
 ow:∀i,0<=i->i<=7->owner w.mem i=0\/∃k:Nat,k<w.roots.length/\owner w.mem i=(k:Int)+1
 hd:∀h∈w.holds,∃k:Nat,k<w.roots.length/\h.1=(k:Int)+1
 tk:w.token=0\/∃k:Nat,k<w.roots.length/\w.token=(k:Int)+1
section
variable{s:Sc}{w v:Wo}{n:Int}{a:Ac}{k:Nat}{q:Wo×Rt}
theorem LB.other{j:Nat}{y:Rt}(h:LB w j y)(hq:LQ w k q)(hne:j≠k)(hc:y.phase=5->CmOk y.cm):LB q.1 j y:=by
 have hw:((j:Int)+1)≠(k:Int)+1:=by omega
 have ho:=hq.oth ((j:Int)+1) hw (by omega);refine⟨λh5=>?_,λh5 i a b hz=>h.no h5 i a b ((ho i a b).1.1 hz),λe he hk=>?_,λhz=>?_⟩
 .obtain⟨c1,c2⟩:=h.cm h5;refine⟨c1,λi a b=>?_,λh3=>?_⟩
  .rw[c1,(ho i a b).1,←c1];exact c2.own i a b
  .obtain⟨v1,v2⟩:=c2.ver h3;refine⟨Xey v1 hq.clk,λi hi=>?_⟩;obtain⟨l,hl,e1,e2⟩:=hi;have hr:=(hc h5).rows _ (Xq hl);have jL:lkd y.cm i:=⟨l,hl,e1,e2⟩;have hown:=(c2.own i (by omega) (by omega)).2 jL;rw[(ho i (by omega) (by omega)).2 (by rw[hown,c1])];exact v2 i jL
 .obtain⟨h',a,b⟩:=hq.hdo e he (by rw[hk];exact hw);exact h.hd h' a (b.trans hk)
 .exact h.tk ((hq.tko (by omega) (by omega)).symm.trans hz)
theorem Ws0{w0:Wo}(hx:LX w0)(hk:k<w0.roots.length)(hr:q.1.roots=w0.roots)(hq:LQ w0 k q)(hc:∀(i:Nat) (h:i<w0.roots.length),w0.roots[i].phase=5->CmOk w0.roots[i].cm):LX (Wo.put q k):=by
 have hlen:(q.1.roots.set k q.2).length=w0.roots.length:=by rw[Xad,hr]
 have hmem:∀i,owner (Wo.put q k).mem i=owner q.1.mem i:=λ_=>rfl;refine⟨λi hi=>?_,λi a b=>?_,λe he=>?_,?_⟩
 .change i<(q.1.roots.set k q.2).length at hi;have d9:i<w0.roots.length:=by rw[←hlen];exact hi
  have ja:∀y,LB q.1 i y->LB (Wo.put q k) i y:=λy hy=>⟨hy.cm,hy.no,hy.hd,hy.tk⟩;show LB (Wo.put q k) i ((q.1.roots.set k q.2)[i]'hi);rw[Xao];by_cases he:k=i
  .subst he;rw[if_pos rfl];exact ja _ hq.b
  .rw[if_neg he];simp only[hr];exact ja _ ((hx.root i d9).other hq (λh=>he h.symm) (hc i d9))
 .show owner q.1.mem i=0\/∃j:Nat,j<(q.1.roots.set k q.2).length/\owner q.1.mem i=(j:Int)+1;rw[hlen];by_cases h0:owner q.1.mem i=0
  .exact .inl h0
  .by_cases h1:owner q.1.mem i=(k:Int)+1
   .exact .inr ⟨k,hk,h1⟩
   .have:=(hq.oth _ h1 h0 i a b).1.1 rfl;rw[←this];exact hx.ow i a b
 .show∃j:Nat,j<(q.1.roots.set k q.2).length/\e.1=(j:Int)+1;rw[hlen];by_cases h1:e.1=(k:Int)+1
  .exact⟨k,hk,h1⟩
  .obtain⟨h',a,b⟩:=hq.hdo e he h1;rw[←b];exact hx.hd h' a
 .show q.1.token=0\/∃j:Nat,j<(q.1.roots.set k q.2).length/\q.1.token=(j:Int)+1;rw[hlen];by_cases h0:q.1.token=0
  .exact .inl h0
  .by_cases h1:q.1.token=(k:Int)+1
   .exact .inr ⟨k,hk,h1⟩
   .rw[hq.tko h0 h1];exact hx.tk
theorem Wn6(h:WOk s.2.1 n w)(hx:WX w)(hl:LX w):LX (Wc4 s w a):=by
 have aT:LX {w with now:=w.now+1}:=⟨λk hk=>⟨(hl.root k hk).cm,(hl.root k hk).no,(hl.root k hk).hd,(hl.root k hk).tk⟩,hl.ow,hl.hd,hl.tk⟩;have hc:∀(i:Nat) (h:i<({w with now:=w.now+1}:Wo).roots.length),({w with now:=w.now+1}:Wo).roots[i].phase=5->CmOk ({w with now:=w.now+1}:Wo).roots[i].cm:=λi hi h5=>(h.root i hi).comm h5;unfold Wc4;simp only;split
 .rename_i hb;have hk:a.2.1.toNat<w.roots.length:=by omega
  have ja:=aT.root _ hk;rw[Wf hk];split
  .unfold Wh6;rw[Wf (show a.2.1.toNat<({w with now:=w.now+1}:Wo).roots.length from hk)];exact Ws0 aT hk (Whg h hk) (Wr7 (n:=n) (hx _ hk) (h.root _ hk) ⟨h.mem,h.shelf,h.holds⟩ ja) hc
  .split
   .split
    .exact Ws0 (w0:={w with now:=w.now+1}) aT hk rfl (LQ.of rfl rfl rfl ⟨ja.cm,ja.no,ja.hd,ja.tk⟩) hc
    .exact aT
   .split
    .split
     .exact Ws0 (w0:={w with now:=w.now+1}) aT hk rfl (LQ.of rfl rfl rfl ⟨ja.cm,ja.no,ja.hd,ja.tk⟩) hc
     .exact aT
    .exact aT
 .exact aT
theorem WrH:∀(l:List Ac) (n:Int) (w:Wo),WOk s.2.1 n w->WX w->LX w->LX (l.foldl (Wc4 s) w)
 | [],n,w,h,hx,hl=>hl
 |a::l,n,w,h,hx,hl=>WrH l (n+1) _ (Wcy (a:=a) h) (Wgl (a:=a) h hx).1 (Wn6 h hx hl)
theorem WsJ(aI:WjV s=true):LX (Wee s):=by
 obtain⟨h1,h2,h3,h4⟩:=WeH aI;have qx:∀i,0<=i->i<=7->owner (Wee s).mem i=0:=λi a b=>by
  unfold owner Wg Wbi Wee Wj4;simp only;have:=h1.cells.len;rw[Wf (show i.toNat<(s.1.1.map wd0).length by rw[Xaf];omega),Xdx];rfl
 refine⟨λk hk=>?_,λi a b=>.inl (qx i a b),(λh hh=>by cases hh),.inl rfl⟩;have hr:(Wee s).roots[k]={}:=by simp only[Wee,Xbj]
 rw[hr];exact⟨λh=>by(change (0:Int)=5 at h;omega),(λ_ i a b=>by rw[qx i a b];omega),(λh hh=>by cases hh),λh=>by(change (0:Int)=(k:Int)+1 at h;omega)⟩
end
end
section
variable{N:Nat}{s:Sc}{w:Wo}{n:Int}
end
end Go.Sx
