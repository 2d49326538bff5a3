/- Plain laws of the Lean functions. -/
import Derived.Test.YtnkbflecplbceaaGreatMW2
open Option renaming bind_some→Xc
open Int renaming toNat_natCast→Xj,toNat→Xb,le_refl→Xv,le_trans→Xef,eq_ofNat_of_zero_le→Xcq
open List renaming take→Xat,getD→Xd,length_take→Xap,length→Xa,length_map→Xaf,drop_length→Xda,drop_eq_getElem_cons→Xbs,drop_zero→Xca,set→Xl,replicate→Xt,set_getElem_self→Xbh,getElem_mem→Xw,mem_append→Xn,pairwise_append→Xag,mem_singleton→Xac,map_append→Xq,eq_nil_of_length_eq_zero→Xy,mem_of_mem_take→Xcp,mem_map→Xu,all_eq_true→Xae,length_set→Xab,getElem_set→Xaq,getElem_replicate→Xbp,foldl_cons→Xcm,foldl_nil→Xge,map_replicate→Xfm,append_eq→Xah,mem_or_eq_of_mem_set→Xcy,append→Xe,append_nil→Xcn,getElem?_eq_none→Xbe,getElem?_set→Xfo,getD_eq_getElem?_getD→Xay,getElem?_eq_getElem→Xp,getElem?_set_ne→Xez
open Bool renaming not_true→Xaa,true_and→Xbf,and_eq_false_iff→Xco,and_eq_true→Xh,and_self→Xbt,eq_false_iff→Xby
open Nat renaming le_refl→Xm
namespace Go.Sx
set_option linter.unusedVariables false
set_option linter.unusedSimpArgs false
section
variable{N:Nat}{w:Wo}{k:Nat}{x:Rt}{o:Opn}{p:Pg}{n:Int}{code:List Opn}
theorem RLive.mk24(hc:CC p.1)(h:RLive p n x)(hz:x.marks.length≠0):∃(m:Nat) (q:List RM),x.marks=q++ [x.last]/\x.last.1=(m:Int)/\(∃hm:m<p.1.length,p.1[m].1=8)/\(m:Int)<x.pc/\Mate p.1 m (WiI p.1 m)/\x.pc<=WiI p.1 m/\stk p.1 m=(stk p.1 x.pc.toNat).dropLast/\x.marks.dropLast=q/\
  Vals 4 x.last.2.2.2.2/\(0<=x.last.2.1/\x.last.2.1<=x.last.1+72*frk p.1 x.last.1.toNat/\x.last.2.1<=x.reads.length)/\(0<=x.last.2.2.1/\x.last.2.2.1<=x.last.1+8/\x.last.2.2.1<=x.writes.length)/\0<=x.last.2.2.2.1/\x.last.2.2.2.1<=x.last.1/\x.last.2.2.2.1<=x.undos.length:=by
 have hp:=h.pc;obtain⟨m,q,y,e1,e2,e3,e4,e5,e6,e7,e8,e9⟩:=WhB (d:=zRM) hc (show x.pc.toNat<=p.1.length by omega) h.marks.pcs hz;have hl:x.last=y:=e2;have hy:=h.marks.each y (by rw[e1];simp);rw[hl];exact⟨m,q,e1,e3,e4,by omega,e6,by omega,e8,by rw[e1];simp,hy⟩
theorem Wsw(hk:k<w.roots.length)(aB:w.roots[k]=x)(me:k<=8)(hc:CC p.1)(hx:RLive p n x)(hu:∀u∈x.undos,UnV u)(hs:ShOk w.shelf)(hh:HOk w.holds)(hN:1048576<N):
  Zib N w.e (k:Int) p.1=some (((Wo.put (WbW w x k p.1) k).e,()),()):=by
 obtain⟨g1,g2,g3,g4,g5⟩:=woG hk aB;obtain⟨r0,r1,r2,r3,r4,r5,r6,r7,r8,jR,jj,im,io,iL,iM,kC,kD,jS,jT,kE,kF,kG⟩:=rtP x;obtain⟨z1,z2,z3,z4,z5,z6⟩:=hx.sz hc;have hcl:=hc.len;unfold Zib WbW;simp only[Wq];rw[show P5 w.e=w.roots.map Rt.e from rfl,g4,g2];simp only[cond_true,Wt,iL,Wb];by_cases hz:x.marks.length=0
 .rw[if_pos (by omega),if_pos hz,g3,WmQ hk aB me hh hx.rv z5 z6 hN];rfl
 .rw[if_neg (by omega),if_neg hz,WoF hz (by omega)];simp only[Xc,iM,Wat];obtain⟨m,q,e1,e2,⟨hm,kH⟩,e4,e5,e6,e7,e8,e9,jh,jQ,ky,kz,ji⟩:=hx.mk24 hc hz;by_cases hgt:(x.undos.length:Int)>x.last.2.2.2.1
  .rw[if_pos hgt,if_pos hgt,g3,Xj,WkL hk aB (by omega) (by omega) hu hs hN];rfl
  .rw[if_neg hgt,if_neg hgt];simp only[io,iL];obtain⟨a,b,c,d⟩:=WeK hz (by omega) zRM;have d':(decide ((0:Int)<=WU .i64 (x.marks.length:Int) 1)&&decide (WU .i64 (x.marks.length:Int) 1<=(x.marks.length:Int)))=true:=d;have c':Xat (Xb (WU .i64 (x.marks.length:Int) 1)) x.marks=x.marks.dropLast:=c;rw[d',c',Wbn (by rw[e9.len];omega),e2,W3,decide_eq_true hm];have o1:Xd p.1 (Xb ((m:Nat):Int)) ((0,0,0,0):Opn)=opN p.1 (m:Int):=rfl;have hr:=WwL (hc.ok m hm).1 kH;rw[←WlC hm]at hr;simp only[cond_true,ret,Xc,o1];rw[WaZ hr e9.len];have b2:(decide ((0:Int)<=x.last.2.2.1)&&decide (x.last.2.2.1<=(x.writes.length:Int)))=true:=by simp;omega
   rw[b2];simp only[cond_true];rw[Wdt (by rw[Xap];omega),Wh6 (by omega) hN ⟨hm,kH⟩ e5];simp only[ret,Xc];rw[Wcz (by have:=e5.len;omega),Xj];exact WcZ rfl rfl rfl
theorem Wrb(hk:k<w.roots.length)(aB:w.roots[k]=x)(me:k<=8)(hc:CC p.1)(hx:RLive p n x)(ho:Waq o=true)(eD:12<=o.1)(hs:ShOk w.shelf)(hh:HOk w.holds)(hN:1048576<N):
  Zga N w.e (k:Int) o=some (((Wo.put (WbR w x k o) k).e,()),()):=by
 obtain⟨g1,g2,g3,g4,g5⟩:=woG hk aB;obtain⟨r0,r1,r2,r3,r4,r5,r6,r7,r8,jR,jj,im,io,iL,iM,kC,kD,jS,jT,kE,kF,kG⟩:=rtP x;obtain⟨z1,z2,z3,z4,z5,z6⟩:=hx.sz hc;have sW:=WhY hh;have aQ:=hx.pc;have hcl:=hc.len;have sC:(0<=(WaH o).1/\(WaH o).1<=8)/\1<=(WaH o).2/\(WaH o).2<=2:=by
  unfold WaH;have kx:=WnV ho;split
  .rename_i h;have:Wb8 o.2.1=true:=by
    rcases h with h|h
    .exact(Wut ho h).1
    .exact(Wuf ho h).1
   rw[WbL]at this;simp only;omega
  .split
   .have:=(Wvm ho ‹_›).2;rw[WbL]at this;simp only;omega
   .split<;>(simp only;omega)
 unfold Zga WbR;simp only[Wq,WeL];rw[show P5 w.e=w.roots.map Rt.e from rfl,g4,g2,Wcz (by omega),Wlk ho eD,show P4 w.e=w.holds from rfl,show w.e.2.2.2.1=w.shelf from rfl];simp only[cond_true,Xc,Wiv hh (show 1<=(k:Int)+1/\(k:Int)+1<=9 by omega) sC.1 sC.2 (by omega) hN,r3,jj,iM,Weq hx.spare];cases ha:WaS w.holds ((k:Int)+1) (WaH o).1 (WaH o).2 with
 |none=>
  simp only[Option.isSome_none,Bool.not_false,cond_true,Xj];exact WcZ rfl rfl rfl
 |some cb=>
  simp only[Option.isSome_some,Xaa,cond_false,Option.getD_some,Xj,Wir hs hx.regs ho eD hN,Xc,Wc7];rw[Wcz (by omega),Wv (by simp;omega)];by_cases hz:(Wbe w.shelf o x.regs).2.2.1=0
  .rw[if_pos hz,if_pos hz];exact WcZ rfl rfl rfl
  .rw[if_neg hz,if_neg hz];exact WcZ rfl rfl rfl
theorem WvC(hk:k<w.roots.length)(aB:w.roots[k]=x)(me:k<=8)(hp:POk p)(hx:RLive p n x)(hu:∀u∈x.undos,UnV u)(hm:W0 w.mem=true)(hs:ShOk w.shelf)(hh:HOk w.holds)(hN:1048576<N):
  Zhj N w.e (k:Int) p=some (((Wo.put (WgG w x k p) k).e,()),()):=by
 obtain⟨g1,g2,g3,g4,g5⟩:=woG hk aB;obtain⟨r0,r1,r2,r3,r4,r5,r6,r7,r8,jR,jj,im,io,iL,iM,kC,kD,jS,jT,kE,kF,kG⟩:=rtP x;have hc:=hp.code;obtain⟨z1,z2,z3,z4,z5,z6⟩:=hx.sz hc;have aQ:=hx.pc;have hcl:=hc.len;have df:=hx.regs.len;unfold Zhj WgG;simp only[Wq];rw[show P5 w.e=w.roots.map Rt.e from rfl,g4,g2,g3];simp only[cond_true,r3,r4,jj,im,io,iL,iM,Wat,Wt,show Wb p.1=(p.1.length:Int)from rfl];by_cases fm:x.pc>=p.1.length
 .rw[if_pos fm,if_pos fm,WmQ hk aB me hh hx.rv z5 z6 hN];rfl
 .rw[if_neg fm,if_neg fm];obtain⟨j,hj,ej,eo⟩:=Wfm (l:=p.1) aQ.1 (by omega);have vu:Xd p.1 (Xb x.pc) ((0,0,0,0):Opn)=opN p.1 x.pc:=rfl;have gN:inb x.pc p.1.length=true:=by rw[ej,W3];exact decide_eq_true hj
  rw[gN];obtain⟨ok,o1,iI⟩:=hc.ok j hj;simp only[cond_true,vu];rw[←eo]at ok o1 iI;rw[Wcz (show 0<=x.pc/\x.pc<=1000000 by omega)];have sD:(opN p.1 x.pc).1=9->x.marks.length≠0:=λh9 hz=>by
   have h1:=congrArg Xa hx.marks.pcs;simp only[Xaf,hz]at h1;have h2:=Wbw hc.up j (by omega);have h3:=hc.up j hj;rw[WaE hj,Wko (by rw[←eo];exact h9)]at h3;rw[ej,Xj]at h1;omega
  generalize opN p.1 x.pc=o at*;have vt:o.1>=12->Zga N w.e (k:Int) o=some (((Wo.put (WbR w x k o) k).e,()),()):=λeD=>Wrb hk aB me hc hx ok eD hs hh hN;by_cases h5:o.1=5
  .rw[if_pos h5,if_pos h5,Xj,Wtw hk aB hc hx hm h5 ok hN];rfl
  .rw[if_neg h5,if_neg h5];by_cases ca:o.1=10
   .rw[if_pos ca,if_pos ca,Wsw hk aB me hc hx hu hs hh hN];rfl
   .rw[if_neg ca,if_neg ca];by_cases c7:o.1=11
    .rw[if_pos c7,if_pos c7,show Wb p.2=((p.2.length:Nat):Int)from rfl,Wja (by omega) (by omega) hp.k3 hN,Xj];exact WcZ rfl rfl rfl
    .rw[if_neg c7,if_neg c7];by_cases eD:o.1>=12
     .rw[if_pos eD];have hb:=vt eD;have:o.1=12\/o.1=13\/o.1=14\/o.1=15\/o.1=16:=by omega
      rcases this with h|h|h|h|h
      .rw[if_pos h,if_pos h,hb];rfl
      .rw[if_neg (by omega),if_pos h,if_pos h,hb];rfl
      .rw[if_neg (by omega),if_neg (by omega),if_pos h,if_pos h,hb];rfl
      .rw[if_neg (by omega),if_neg (by omega),if_neg (by omega),if_pos h,if_pos h,hb];rfl
      .rw[if_neg (by omega),if_neg (by omega),if_neg (by omega),if_neg (by omega),if_pos h,hb];rfl
     .rw[if_neg eD,if_neg (show¬o.1=12 by omega),if_neg (show¬o.1=13 by omega),if_neg (show¬o.1=14 by omega),if_neg (show¬o.1=15 by omega),if_neg (show¬o.1=16 by omega)];by_cases h6:o.1=6
      .rw[if_pos h6,if_pos h6,WaZ (WwI ok h6).2 df,Wv (by simp;omega),Xj];exact WcZ rfl rfl rfl
      .rw[if_neg h6,if_neg h6];by_cases h7:o.1=7
       .rw[if_pos h7,if_pos h7];have h:=Wv2 ok h7;rw[WaZ h.1 df,Wm (a:=x.pc) (b:=o.2.2.1) (by unfold I64;omega),Wcz (a:=x.pc+o.2.2.1) (by omega),Xj];by_cases hg:Xd x.regs (Xb o.2.1) 0=0
        .rw[if_pos hg,if_pos (show Wce x.regs o.2.1 0=0 from hg)];exact WcZ rfl rfl rfl
        .rw[if_neg hg,if_neg (show¬Wce x.regs o.2.1 0=0 from hg)];exact WcZ rfl rfl rfl
       .rw[if_neg h7,if_neg h7];by_cases h8:o.1=8
        .rw[if_pos h8,if_pos h8,Wbn (by omega)];simp only[ret,Xc];rw[Wv (by simp;omega),Xj];exact WcZ rfl rfl rfl
        .rw[if_neg h8,if_neg h8];by_cases h9:o.1=9
         .rw[if_pos h9,if_pos h9];have hz:=sD h9;obtain⟨a,b,c,d⟩:=WeK hz (by omega) zRM;obtain⟨m,q,e1,e2,⟨gK,kH⟩,e4,e5,e6,e7,e8,e9,jh,jQ,ky,kz,ji⟩:=hx.mk24 hc hz;rw[WlP hz (by omega)];simp only[Xc];rw[d,c,e2,W3,decide_eq_true gK];have o1:Xd p.1 (Xb ((m:Nat):Int)) ((0,0,0,0):Opn)=opN p.1 (m:Int):=rfl;have hr:=WwL (hc.ok m gK).1 kH;rw[←WlC gK]at hr;simp only[cond_true,o1];rw[WaZ hr df,Xj];exact WcZ rfl rfl rfl
         .rw[if_neg h9,if_neg h9,Wht hN ok (by omega) (by omega) hx.regs,Xj];exact WcZ rfl rfl rfl
theorem Wt8(hk:k<w.roots.length)(aB:w.roots[k]=x)(iN:w.roots.length<=8)(hN:1048576<N):
  Ze9 N w.e (k:Int)=some (((Wo.put (Wdd w x k) k).e,()),()):=by
 obtain⟨g1,g2,g3,g4,g5⟩:=woG hk aB;have eO:=Wo8 hk aB;have df:(w.roots.map Rt.e).length=w.roots.length:=by simp
 unfold Ze9;rw[show P5 w.e=w.roots.map Rt.e from rfl,g4,g2,Wcz (by omega),Xj];simp only[cond_true,Wc7,Wt,Wat,show w.e.2.1=w.token from rfl,show x.e.2.1=x.tries from rfl,show w.e.1=w.now from rfl,show w.e.2.2.1.1=w.mem.1 from rfl];have ny:∀(K0:Bool->Int->Bool->Option ((Y_World×Unit)×Unit)) (d j n:Nat) (al:Bool),j+d=w.roots.length->d<n->
   Zay N (k:Int) k (Wb (w.roots.map Rt.e)) w.now w.token w.mem.1 w.e.2.2.2.1.2 (w.roots.map Rt.e) w.e.2.2.1.2 w.e.2.2.2.1.1 (P4 w.e) (Q6 w.e) K0 n al (j:Int)=K0 (al&&W6 k (w.roots.drop j) j) (w.roots.length:Int) false:=by
  intro K0 d
  induction d with
  |zero=>
   intro j n al hj hn;obtain⟨n,rfl⟩:∃n',n=n'+1:=⟨n-1,by omega⟩;have:j=(w.roots.map Rt.e).length:=by omega
   rw[Zay,this,Wau (Xm _),df,Xda];simp[W6]
  |succ d ih=>
   intro j n al hj hn;obtain⟨n,rfl⟩:∃n',n=n'+1:=⟨n-1,by omega⟩;have hlt:j<(w.roots.map Rt.e).length:=by omega
   have vz:j<w.roots.length:=by omega
   rw[Zay];simp only[Waa hlt,Wn hlt,Ws hlt,Wg (show j<4611686018427387904 by omega),cond_true,ih (j+1) n _ (by omega) (by omega),List.getElem_map];rw[Xbs vz,W6];generalize W6 k (w.roots.drop (j+1)) (j+1)=b;have hp:(Rt.e w.roots[j]).1=w.roots[j].phase:=rfl;rw[hp];simp only[Wt];cases al with
   |false=>simp
   |true=>
    simp only[cond_true,Xbf];by_cases h1:j=k
    .rw[if_pos (by omega),decide_eq_true h1];simp
    .rw[if_neg (by omega),decide_eq_false h1];by_cases h2:w.roots[j].phase=0
     .rw[if_pos h2,decide_eq_true h2];simp
     .rw[if_neg h2,decide_eq_false h2];have:(w.roots[j].phase==8)=decide (w.roots[j].phase=8):=by
       by_cases h3:w.roots[j].phase=8<;>simp[h3]
      rw[this];simp
 have:=ny;refine(ny _ w.roots.length 0 N true (by omega) (by omega)).trans ?_;rw[Xca,Xbf];unfold Wdd;have cF:some ((S5 (Xl (w.roots.map Rt.e) k ((1:Int),(x.tries,((0:Int),((0:Int),(w.mem.1,((0:Int),((0:Int),((0:Int),((0:Int),(w.now,((0:Int),(false,(Xt (Xb (4:Int)) (0:Int),(([]:List Kc),(([]:List Kc),(([]:List Kj),(([]:List Kb),(([]:List Int),(false,(((0:Int),((0:Int),((0:Int),(0:Int)))),(((0:Int),((0:Int),((0:Int),((0:Int),((0:Int),(([]:List Kc),([]:List Int))))))),d_Family)))))))))))))))))))))) w.e,()),())=some (((Wo.put (w,{phase:=1,tries:=x.tries,rv:=w.mem.1,began:=w.now,regs:=[0,0,0,0]}) k).e,()),()):=WcZ (x':={phase:=1,tries:=x.tries,rv:=w.mem.1,began:=w.now,regs:=[0,0,0,0]}) (w':=w) rfl rfl rfl;have vA:some (((w.now,((k:Int)+1,w.e.2.2)),()),())=some (((Wo.put ({w with token:=(k:Int)+1},x) k).e,()),()):=by
  have:Wo.put ({w with token:=(k:Int)+1},x) k={w with token:=(k:Int)+1}:=by unfold Wo.put;simp only;rw[←aB,Xbh]
  rw[this];rfl
 have ao:(((decide ((0:Int)<=(4:Int)))&&(decide ((4:Int)<=(4:Int))))&&(Ww (Xb (4:Int))))=true:=rfl;have bj:some ((w.e,()),())=some (((Wo.put (w,x) k).e,()),()):=by rw[eO]
 rw[ao];simp only[cond_true,cF];by_cases t0:w.token=0
 .rw[if_pos t0];rw[if_neg (show¬(w.token≠0/\w.token≠(k:Int)+1) by omega)];by_cases ht:x.tries>=3
  .rw[if_pos ht,if_pos t0,if_pos ⟨ht,t0⟩];exact vA
  .rw[if_neg ht,if_neg (show¬w.token=(k:Int)+1 by omega),if_neg (λh=>ht h.1),if_neg (by omega)]
 .rw[if_neg t0];by_cases t1:w.token=(k:Int)+1
  .rw[if_pos t1,if_neg (show¬(w.token≠0/\w.token≠(k:Int)+1) by omega),if_neg (show¬(x.tries>=3/\w.token=0) by omega)];have ge:∀b:Bool,(bif !b then some ((w.e,()),())else some (((Wo.put (w,{phase:=1,tries:=x.tries,rv:=w.mem.1,began:=w.now,regs:=[0,0,0,0]}) k).e,()),()))=some (((Wo.put (if w.token=(k:Int)+1/\b=false then(w,x)else(w,{phase:=1,tries:=x.tries,rv:=w.mem.1,began:=w.now,regs:=[0,0,0,0]})) k).e,()),()):=λb=>by
    cases b with
    |false=>rw[if_pos ⟨t1,rfl⟩];exact bj
    |true=>rw[if_neg (by simp)];rfl
   by_cases ht:x.tries>=3
   .rw[if_pos ht,if_neg t0,if_pos t1];exact ge _
   .rw[if_neg ht,if_pos t1];exact ge _
  .rw[if_neg t1,if_pos ⟨t0,t1⟩];exact bj
theorem Wup(hp:POk p)(hx:RLive p n x)(h2:x.phase=2)(hN:1048576<N):Zhk N x.e=some (((WbT x).e,()),()):=by
 obtain⟨r0,r1,r2,r3,r4,r5,r6,r7,r8,jR,jj,im,io,iL,iM,kC,kD,jS,jT,kE,kF,kG⟩:=rtP x;have hc:=hp.code;obtain⟨z1,z2,z3,z4,z5,z6⟩:=hx.sz hc;obtain⟨f1,f2,f3⟩:=hx.fork h2;have aQ:=hx.pc;have hcl:=hc.len;have xA:x.fam.kids.length<=3:=by have:=f3.len;have:=hp.k3;omega
 have px:=f3.len3 hp.k3;have mR:=f3.readsL;unfold Zhk WbT;simp only[r3,im,jT,kE,kF,kG,We7,Xc];rw[WlK xA hN,Wly f3.regs xA (λy hy=>by
  obtain⟨i,hi,rfl⟩:=List.getElem_of_mem hy;rw[(f3.kid i hi).regs.len];omega) hN,WlN (by have:=f3.buf8;omega) hN,Wv (by omega),Wbn (by omega),Wcz (by omega),WhU]
 by_cases hl:x.fam.lost=true
 .rw[if_pos hl,if_pos hl]
 .rw[if_neg hl,if_neg hl];simp only[ret,Xc,cond_true];cases ho:Wa4 x.fam
  .rw[if_neg (by simp)];rfl
  .rw[if_pos rfl];rfl
theorem Wqp(hk:k<w.roots.length)(aB:w.roots[k]=x)(hp:POk p)(hx:RLive p n x)(h4:x.phase=4)(hm:W0 w.mem=true):
  Zfm N w.e k=some (((Wo.put (w,WaG w x) k).e,()),()):=by
 obtain⟨g1,g2,g3,g4,g5⟩:=woG hk aB;obtain⟨r0,r1,r2,r3,r4,r5,r6,r7,r8,jR,jj,im,io,iL,iM,kC,kD,jS,jT,kE,kF,kG⟩:=rtP x;have hc:=hp.code;obtain⟨z1,z2,z3,z4,z5,z6⟩:=hx.sz hc;have hz:=hx.back (.inr h4);obtain⟨m,q,e1,e2,⟨gK,kH⟩,e4,e5,e6,e7,e8,e9,jh,jQ,ky,kz,ji⟩:=hx.mk24 hc hz;have bN:=hx.pos h4;have aQ:=hx.pc;have hcl:=hc.len;unfold Zfm WaG;simp only[Wq];rw[show P5 w.e=w.roots.map Rt.e from rfl,g1,WoF hz (by omega)];simp only[Xc,r4,r5,r6,im,io,Wat,We7,show w.e.2.2.1.2=w.mem.2 from rfl];by_cases hlt:x.pos<x.last.2.1
 .rw[if_pos hlt,if_pos hlt];have hj:x.pos.toNat<x.reads.length:=by omega
  have gN:inb x.pos x.reads.length=true:=by unfold inb;simp;omega
  have hg:Xd x.reads (Xb x.pos) ((0:Int),(0:Int))=Wce x.reads x.pos (0,0):=rfl;have hv:0<=(Wce x.reads x.pos (0,0)).1/\(Wce x.reads x.pos (0,0)).1<=7:=by
   unfold Wce;rw[Wf hj];exact(hx.reads _ (Xw hj)).1
  rw[gN,hg,Wg6 hm hv,show Xd w.mem.2 (Xb (Wce x.reads x.pos (0,0)).1) ((0:Int),((0:Int),(0:Int)))=WO w.mem (Wce x.reads x.pos (0,0)).1 from rfl,Wcz (by omega)];simp only[cond_true,Wc7];by_cases a:(WO w.mem (Wce x.reads x.pos (0,0)).1).2.2=0
  .rw[if_pos a];by_cases b:(WO w.mem (Wce x.reads x.pos (0,0)).1).2.1>x.rv
   .rw[if_pos b,if_pos (.inr b)];exact WcZ rfl rfl rfl
   .rw[if_neg b,if_neg (by omega)];exact WcZ rfl rfl rfl
  .rw[if_neg a,if_pos (.inl a)];exact WcZ rfl rfl rfl
 .rw[if_neg hlt,if_neg hlt];have b1:(decide ((0:Int)<=x.last.2.1)&&decide (x.last.2.1<=(x.reads.length:Int)))=true:=by simp;omega
  have b2:(decide ((0:Int)<=x.last.2.2.1)&&decide (x.last.2.2.1<=(x.writes.length:Int)))=true:=by simp;omega
  rw[b1,b2,Wdt (by rw[Xap];omega),Wdt (by rw[Xap];omega),Wbn (by rw[e9.len];omega),Wcz (by omega)];simp only[cond_true,ret,Xc];exact WcZ rfl rfl rfl
theorem Wqg(hk:k<w.roots.length)(aB:w.roots[k]=x)(me:k<=8)(lr:CmOk x.cm)(hm:W0 w.mem=true)(hh:w.hist.length<=500000)(hN:1048576<N):
  Zfn N w.e (k:Int)=some (((Wo.put (Was w x k) k).e,()),()):=by
 obtain⟨g1,g2,g3,g4,g5⟩:=woG hk aB;obtain⟨r0,r1,r2,r3,r4,r5,r6,r7,r8,jR,jj,im,io,iL,iM,kC,kD,jS,jT,kE,kF,kG⟩:=rtP x;have aJ:=Wl0 lr hm;unfold Zfn Was;simp only[Wq,WeL];rw[show P5 w.e=w.roots.map Rt.e from rfl,g4,g2,Wcz (by omega),Xj];simp only[cond_true,r7,jR,jS,show w.e.2.2.1=w.mem from rfl,show Q6 w.e=w.hist from rfl];rw[WhU];by_cases hd:x.doomed=true
 .rw[if_pos hd,if_pos hd];obtain⟨b,hb⟩:=WqT (N:=N) lr hN;rw[hb];simp only[Xc,Wt,show(War x.cm).e.2.2.1=(War x.cm).phase from rfl];by_cases h8:(War x.cm).phase=8
  .rw[if_pos h8,if_pos h8];have:S20 (War x.cm).e (S11 false x.e)=Rt.e {x with cm:=War x.cm,doomed:=false}:=rfl;rw[this,We7];exact WcZ rfl rfl rfl
  .rw[if_neg h8,if_neg h8];exact WcZ rfl rfl rfl
 .rw[if_neg hd,if_neg hd,Wmk lr hm hN];simp only[Xc];obtain⟨m',c',hq⟩:∃m' c',WC w.mem x.cm=(m',c'):=⟨_,_,rfl⟩;rw[hq]at aJ⊢;simp only at aJ⊢;have lj:Zbl N (P5 c'.e)=ret c'.puts:=Wdt (by have:=aJ.1.plen;show c'.puts.length<=1048576;omega);have hS:S20 c'.e x.e=Rt.e {x with cm:=c'}:=rfl;rw[lj,hS,We7];simp only[ret,Xc];rw[Wv (by simp;omega)];simp only[cond_true,Wt,Wat,show c'.e.2.2.1=c'.phase from rfl,show(Cm.e x.cm).2.2.1=x.cm.phase from rfl,show P4 c'.e=c'.wv from rfl];unfold WbD;simp only;by_cases h3:x.cm.phase<=3
  .rw[if_pos h3];by_cases h4:c'.phase=4
   .rw[if_pos h4,if_neg (by omega),if_neg (by omega),if_pos (show x.cm.phase<=3/\c'.phase=4 from⟨h3,h4⟩),if_neg (by omega),if_neg (by omega)];exact WcZ (w':={w with mem:=m',hist:=w.hist++ [(c'.wv,(k:Int)+1,c'.puts)]}) rfl rfl rfl
   .rw[if_neg h4,if_neg (show¬(x.cm.phase<=3/\c'.phase=4)fromλh=>h4 h.2)];by_cases h8:c'.phase=8
    .rw[if_pos h8,if_pos h8];exact WcZ (w':={w with mem:=m'}) rfl rfl rfl
    .rw[if_neg h8,if_neg h8];by_cases h6:c'.phase=6
     .rw[if_pos h6,if_pos h6];by_cases h2:x.fate=2
      .rw[if_pos h2,if_pos h2];exact WcZ (w':={w with mem:=m'}) rfl rfl rfl
      .rw[if_neg h2,if_neg h2];exact WcZ (w':={w with mem:=m'}) rfl rfl rfl
     .rw[if_neg h6,if_neg h6];exact WcZ (w':={w with mem:=m'}) rfl rfl rfl
  .rw[if_neg h3,if_neg (show¬(x.cm.phase<=3/\c'.phase=4)fromλh=>h3 h.1)];by_cases h8:c'.phase=8
   .rw[if_pos h8,if_pos h8];exact WcZ (w':={w with mem:=m'}) rfl rfl rfl
   .rw[if_neg h8,if_neg h8];by_cases h6:c'.phase=6
    .rw[if_pos h6,if_pos h6];by_cases h2:x.fate=2
     .rw[if_pos h2,if_pos h2];exact WcZ (w':={w with mem:=m'}) rfl rfl rfl
     .rw[if_neg h2,if_neg h2];exact WcZ (w':={w with mem:=m'}) rfl rfl rfl
    .rw[if_neg h6,if_neg h6];exact WcZ (w':={w with mem:=m'}) rfl rfl rfl
end
section
section
variable{code:List Opn}{pc cz rl wl ul qp kB qq:Nat}{ms q:List RM}{y:RM}{n n':Int}{x:Rt}{w:Wo}{p:Pg}{k:Nat}{o:Opn}
theorem WhZ(code:List Opn){a b:Nat}(h:a<=b):frk code a<=frk code b:=by
 unfold frk;exact List.Sublist.countP_le (List.take_sublist_take_left h)
theorem RMk.mono(h:RMk code pc ms rl wl ul)(hs:stk code cz=stk code pc)(h1:rl<=qp)(h2:wl<=kB)(h3:ul<=qq):RMk code cz ms qp kB qq:=
 ⟨by rw[hs];exact h.pcs,λq hq=>by obtain⟨a,b,c,d⟩:=h.each q hq;exact⟨a,by omega,by omega,by omega⟩,h.up⟩
theorem RMk.cut(h:RMk code pc ms rl wl ul)(qo:ms=q++ [y])(h1:y.2.1<=qp)(h2:y.2.2.1<=kB)(h3:y.2.2.2.1<=qq):RMk code pc ms qp kB qq:=by
 refine⟨h.pcs,λa ha=>?_,h.up⟩;obtain⟨c1,c2,c3,c4⟩:=h.each a ha;have hle:a.2.1<=y.2.1/\a.2.2.1<=y.2.2.1/\a.2.2.2.1<=y.2.2.2.1:=by
  have hu:=h.up;rw[qo]at ha hu;rcases Xn.1 ha with ha|ha
  .exact(Xag.1 hu).2.2 a ha y (by simp)
  .rw[Xac]at ha;subst ha;omega
 exact⟨c1,by omega,by omega,by omega⟩
theorem RMk.begin(h:RMk code pc ms rl wl ul)(hp:pc<code.length)(h8:code[pc].1=8){regs:List Int}(hr:Vals 4 regs)(h1:rl<=pc+72*frk code pc)(h2:wl<=pc+8)(h3:ul<=pc):
  RMk code (pc+1) (ms++ [((pc:Int),(rl:Int),(wl:Int),(ul:Int),regs)]) rl wl ul:=by
 refine⟨?_,?_,?_⟩
 .rw[Wjg hp h8,Xq,Xq,h.pcs];rfl
 .intro q hq;rcases Xn.1 hq with hq|hq
  .exact h.each q hq
  .rw[Xac]at hq;subst hq;refine⟨hr,?_,?_,?_⟩
   .simp only[Xj];omega
   .simp only;omega
   .simp only;omega
 .refine Xag.2 ⟨h.up,List.pairwise_singleton _ _,λa ha b hb=>?_⟩;rw[Xac]at hb;subst hb;obtain⟨c1,c2,c3,c4⟩:=h.each a ha;exact⟨c2.2.2,c3.2.2,c4.2.2⟩
theorem RMk.drop(h:RMk code pc ms rl wl ul)(qo:ms=q++ [y])(hs:stk code cz=(stk code pc).dropLast)(h1:y.2.1<=qp)(h2:y.2.2.1<=kB)(h3:y.2.2.2.1<=qq):RMk code cz q qp kB qq:=by
 have h':=h.cut qo h1 h2 h3;subst qo;have e:=h.pcs;refine⟨?_,λa ha=>h'.each a (List.mem_append_left _ ha),(Xag.1 h.up).1⟩;rw[hs,List.map_dropLast,←e,Xq];simp
theorem RLive.wk(h:RLive p n x)(hn:n<=n'):RLive p n' x:={h with fork:=λh2=>by obtain⟨a,b,c⟩:=h.fork h2;exact⟨a,b,c.wk hn⟩}
theorem ROk.wk(h:ROk p n x)(hn:n<=n'):ROk p n' x:={h with tries:=by have:=h.tries;omega,live:=λhl=>(h.live hl).wk hn}
theorem RLive.on(aD:CC p.1)(h:RLive p n x)(h1:x.phase=1){i:Nat}(hi:i<p.1.length)(aQ:x.pc=i){regs:List Int}{reads writes:List Rw}{marks:List RM}{undos:List Un}{busy:Bool}{pb:Pb}{cz:Nat}
  (hp:cz<=p.1.length) (hlt:i<cz) (hr:Vals 4 regs) (mR:Wi6 reads) (df:reads.length<=x.reads.length+1) (zi:Wi6 writes) (pu:writes.length<=x.writes.length+1) (cG:undos.length<=x.undos.length+1) (hm:RMk p.1 cz marks reads.length writes.length undos.length) (hb:busy=true->WkN pb=true):
  RLive p n {x with regs:=regs,reads:=reads,writes:=writes,marks:=marks,undos:=undos,busy:=busy,pb:=pb,pc:=(cz:Int)} where
 pc:=by show(0:Int)<=(cz:Int)/\(cz:Int)<=_;omega
 spare:=h.spare
 rv:=h.rv
 regs:=hr
 reads:=mR
 rl:=by
  have h2:=h.rl;have h3:=WhZ p.1 (show i<=cz by omega);rw[aQ,Xj]at h2;show(reads.length:Int)<=(cz:Int)+72*(frk p.1 ((cz:Nat):Int).toNat:Int);rw[Xj];omega
 writes:=zi
 wl:=by have:=h.wl;show(writes.length:Int)<=(cz:Int)+8;omega
 ul:=by have:=h.ul;show(undos.length:Int)<=(cz:Int);omega
 marks:=by show RMk p.1 ((cz:Nat):Int).toNat _ _ _ _;rw[Xj];exact hm
 pb:=hb
 fork:=λh2=>by(change x.phase=2 at h2;omega)
 back:=λh2=>by(change x.phase=3\/x.phase=4 at h2;omega)
 newRv:=h.newRv
 pos:=λh2=>by(change x.phase=4 at h2;omega)
 unw:=λh2=>by(change x.phase=4 at h2;omega)
theorem Vals.le4{r:List Int}(h:Vals 4 r):r.length<=4:=Nat.le_of_eq h.len
theorem We2(h:ROk p n x):ROk p n (Wdi x) where
 phase:=by show(0:Int)<=6/\(6:Int)<=8;omega
 tries:=h.tries
 live:=λh=>by(change (1:Int)<=6/\(6:Int)<=4 at h;omega)
 comm:=λh=>by(change (6:Int)=5 at h;omega)
 undos:=h.undos
 ul:=h.ul
 rg:=by show([]:List Int).length<=4;simp
 ord:=by show([]:List Int).length<=3;simp
theorem Whn(h:ROk p n x)(hl:RLive p n x):ROk p n (WE x):=by
 unfold WE;split
 .exact We2 h
 .rename_i hc;exact{h with
   phase:=by show(0:Int)<=3/\(3:Int)<=8;omega
   live:=λ_=>{hl with
    spare:=by have:=hl.spare;show 0<=x.spare+1/\x.spare+1<=2;omega
    pb:=λh=>by cases h
    fork:=λh=>by(change (3:Int)=2 at h;omega)
    back:=λ_=>by show x.marks.length≠0;omega
    pos:=λh=>by(change (3:Int)=4 at h;omega)
    unw:=λh=>by(change (3:Int)=4 at h;omega)}
   comm:=λh=>by(change (3:Int)=5 at h;omega)}
structure QOk(p:Pg)(n:Int)(w:Wo)(q:Wo×Rt):Prop where
 root:ROk p n q.2
 mem:W0 q.1.mem=true
 shelf:ShOk q.1.shelf
 holds:HOk q.1.holds
 hist:q.1.hist.length<=w.hist.length+1
 histE:∀h∈q.1.hist,h∈w.hist\/HE h
 roots:q.1.roots=w.roots
 now:q.1.now=w.now
structure GOk(w:Wo):Prop where
 mem:W0 w.mem=true
 shelf:ShOk w.shelf
 holds:HOk w.holds
theorem GOk.st(h:GOk w){y:Rt}(hy:ROk p n y):QOk p n w (w,y):=⟨hy,h.mem,h.shelf,h.holds,by simp,λ_ hh=>.inl hh,rfl,rfl⟩
theorem GOk.qt(h:GOk w){y:Rt}(hy:ROk p n y)(t:Int):QOk p n w ({w with token:=t},y):=⟨hy,h.mem,h.shelf,h.holds,by simp,λ_ hh=>.inl hh,rfl,rfl⟩
theorem WqN(h:GOk w)(hx:ROk p n x):QOk p n w (Wkf w x k):=by
 unfold Wkf;refine h.qt ?_ _;exact{hx with
  phase:=by show(0:Int)<=8/\(8:Int)<=8;omega
  live:=λh=>by(change (1:Int)<=8/\(8:Int)<=4 at h;omega)
  comm:=λh=>by(change (8:Int)=5 at h;omega)
  undos:=λu hu=>by cases hu
  ul:=by simp}
theorem WmH(h:GOk w)(hx:ROk p n x)(kR:0<=x.rv/\x.rv<=1000000)(hk:k<=8){out:Int}:QOk p n w (Waz w x k out):=by
 unfold Waz;simp only;generalize (if out=2 then []else x.writes)=rows;split
 .exact WqN (x:={x with fate:=out,stamp:=x.rv}) h
   {phase:=hx.phase,tries:=hx.tries,live:=λhh=>{hx.live hh with},comm:=hx.comm,undos:=hx.undos,ul:=hx.ul,rg:=hx.rg,ord:=hx.ord}
 .refine h.st ?_;exact{hx with
   phase:=by show(0:Int)<=5/\(5:Int)<=8;omega
   live:=λh=>by(change (1:Int)<=5/\(5:Int)<=4 at h;omega)
   comm:=λ_=>WlD (by omega) kR}
theorem Wgf{α:Type}{l:List α}(h:l.length≠0)(d:α):WhG l d∈l:=by
 unfold WhG;rw[Wf (show l.length-1<l.length by omega)];exact Xw _
theorem Wkm(h:GOk w)(hx:ROk p n x)(hz:x.undos.length≠0)(aD:1<=x.phase/\x.phase<=4->CC p.1/\(x.marks.length≠0->x.last.2.2.2.1<x.undos.length)):QOk p n w (WdR w x):=by
 unfold WdR;refine⟨?_,h.mem,WpU h.shelf (hx.undos _ (Wgf hz _)),h.holds,by simp,λ_ hh=>.inl hh,rfl,rfl⟩;have hdl:x.undos.dropLast.length=x.undos.length-1:=List.length_dropLast;exact{hx with
  live:=λhh=>by
   have hl:=hx.live hh;obtain⟨c1,c2⟩:=aD hh;exact{hl with
    ul:=by have:=hl.ul;show(x.undos.dropLast.length:Int)<=x.pc;omega
    unw:=λh4=>by have:=hl.unw h4;show(x.undos.dropLast.length:Int)<=x.last.2.2.2.1;omega
    marks:=by
     show RMk p.1 x.pc.toNat x.marks x.reads.length x.writes.length x.undos.dropLast.length;by_cases hm:x.marks.length=0
     .have:x.marks= []:=Xy hm;have hM:=hl.marks;rw[this]at hM⊢;exact⟨hM.pcs,(λq hq=>by cases hq),hM.up⟩
     .obtain⟨m,q,e1,e2,⟨gK,kH⟩,e4,e5,e6,e7,e8,e9,jh,jQ,ky,kz,ji⟩:=hl.mk24 c1 hm;have:=c2 hm;exact hl.marks.cut e1 jh.2.2 jQ.2.2 (by omega)}
  undos:=λu hu=>hx.undos u (by rw[List.dropLast_eq_take]at hu;exact Xcp hu)
  ul:=by have:=hx.ul;show x.undos.dropLast.length<=24;omega}
theorem WtE(aD:CC p.1)(h:GOk w)(hx:ROk p n x)(hl:RLive p n x)(h1:x.phase=1){i:Nat}(hi:i<p.1.length)(aQ:x.pc=i)(h5:p.1[i].1=5):ROk p n (Wc0 w x p.1[i]):=by
 have aM:=Wv5 (aD.ok i hi).1 h5;have hB:0<=p.1[i].2.2.1/\p.1[i].2.2.1<=7:=by have:=aM.2;unfold W7 at this;simpa using this
 have hM:=hl.marks;rw[aQ,Xj]at hM;have aJ:stk p.1 (i+1)=stk p.1 i:=Wgi hi (by omega) (by omega);have bV:x.pc+1=((i+1:Nat):Int):=by omega
 unfold Wc0;cases hlr:Wbf x.writes p.1[i].2.2.1 with
 |some v=>
  have hv:=hl.writes _ (Wiw hlr).2;simp only[bV];exact{hx with rg:=Vals.le4 (hl.regs.set _ hv.2),live:=λ_=>RLive.on aD hl h1 hi aQ (by omega) (by omega) (hl.regs.set _ hv.2) hl.reads (by omega) hl.writes (by omega) (by omega) (hM.mono aJ (by omega) (by omega) (by omega)) hl.pb}
 |none=>
  simp only;have bN:=Wm6 (rv:=x.rv) h.mem (Wrt hl.pb hB);generalize WZ w.mem x.rv (if x.busy=true then x.pb else(p.1[i].2.2.1,0,0,0))=b at*;have hp:=WeX.1 bN.1;have xB:RLive p n {x with busy:=true,pb:=b}:={hl with pb:=λ_=>bN.1};have xC:ROk p n {x with busy:=true,pb:=b}:={hx with live:=λ_=>xB};split
  .exact Whn xC xB
  .split
   .simp only[bV];refine{hx with rg:=Vals.le4 (hl.regs.set _ hp.2.2.2),live:=λ_=>RLive.on aD hl h1 hi aQ (by omega) (by omega) (hl.regs.set _ hp.2.2.2) (λr hr=>?_) (by simp) hl.writes (by omega) (by omega) (hM.mono aJ (by simp) (by omega) (by omega)) (λh=>by cases h)};rcases Xn.1 hr with hr|hr
    .exact hl.reads r hr
    .rw[Xac]at hr;subst hr;exact⟨hB,hp.2.2.2⟩
   .exact xC
theorem WrN(aD:CC p.1)(h:GOk w)(hx:ROk p n x)(hl:RLive p n x)(h1:x.phase=1)(hk:k<=8){i:Nat}(hi:i<p.1.length)(aQ:x.pc=i):QOk p n w (WbW w x k p.1):=by
 have hM:=hl.marks;rw[aQ,Xj]at hM;unfold WbW;split
 .exact WmH h hx hl.rv hk
 .rename_i hz;obtain⟨m,q,e1,e2,⟨gK,kH⟩,e4,e5,e6,e7,e8,e9,jh,jQ,ky,kz,ji⟩:=hl.mk24 aD hz;split
  .exact Wkm h hx (by omega) λ_=>⟨aD,λ_=>by omega⟩
  .refine h.st ?_;rw[e8];simp only[e2,Xj,←Int.natCast_succ];have hlen:=e5.len;have ht:(Xat x.last.2.2.1.toNat x.writes).length=x.last.2.2.1.toNat:=by rw[Xap];omega
   refine{hx with rg:=Vals.le4 (e9.set _ (by omega)),live:=λ_=>RLive.on aD hl h1 hi aQ (cz:=WiI p.1 m+1) (by omega) (by omega) (e9.set _ (by omega)) hl.reads (by omega) (λr hr=>hl.writes r (Xcp hr)) (by omega) (by omega) ?_ hl.pb};exact hM.drop e1 (by rw[e5.st,e7,aQ];rfl) (by omega) (by rw[ht];omega) (by omega)
theorem Wsu(aD:CC p.1)(h:GOk w)(hx:ROk p n x)(hl:RLive p n x)(h1:x.phase=1)(hk:k<=8){i:Nat}(hi:i<p.1.length)(aQ:x.pc=i)(eD:12<=p.1[i].1):QOk p n w (WbR w x k p.1[i]):=by
 have ho:=(aD.ok i hi).1;have hM:=hl.marks;rw[aQ,Xj]at hM;have aJ:stk p.1 (i+1)=stk p.1 i:=Wgi hi (by omega) (by omega);have bV:x.pc+1=((i+1:Nat):Int):=by omega
 have cG:=hl.ul;have hcl:=aD.len;have sC:(0<=(WaH p.1[i]).1/\(WaH p.1[i]).1<=8)/\1<=(WaH p.1[i]).2/\(WaH p.1[i]).2<=2:=by
  unfold WaH;have kx:=WnV ho;split
  .rename_i h;have:Wb8 p.1[i].2.1=true:=by
    rcases h with h|h
    .exact(Wut ho h).1
    .exact(Wuf ho h).1
   rw[WbL]at this;simp only;omega
  .split
   .have:=(Wvm ho ‹_›).2;rw[WbL]at this;simp only;omega
   .split<;>(simp only;omega)
 unfold WbR;cases ha:WaS w.holds ((k:Int)+1) (WaH p.1[i]).1 (WaH p.1[i]).2 with
 |none=>exact h.st (Whn hx hl)
 |some hs=>
  have zj:HOk hs:=by
   unfold WaS at ha;split at ha
   .injection ha with ha;subst ha;exact WpR h.holds (by omega) sC.1 sC.2 ‹_›
   .cases ha
  obtain⟨b1,b2,b3,b4⟩:=Wqb h.shelf hl.regs ho eD;simp only[bV];refine⟨?_,h.mem,b1,zj,by simp,λ_ hh=>.inl hh,rfl,rfl⟩;by_cases hz:(Wbe w.shelf p.1[i] x.regs).2.2.1=0
  .simp only[if_pos hz];exact{hx with rg:=Vals.le4 b2,live:=λ_=>RLive.on aD hl h1 hi aQ (by omega) (by omega) b2 hl.reads (by omega) hl.writes (by omega) (by omega) (hM.mono aJ (by omega) (by omega) (by omega)) hl.pb}
  .simp only[if_neg hz];refine{hx with rg:=Vals.le4 b2,live:=λ_=>RLive.on aD hl h1 hi aQ (by omega) (by omega) b2 hl.reads (by omega) hl.writes (by omega) (by simp) (hM.mono aJ (by omega) (by omega) (by simp)) hl.pb,undos:=λu hu=>?_,ul:=by simp;omega};rcases Xn.1 hu with hu|hu
   .exact hx.undos u hu
   .rw[Xac]at hu;subst hu;exact b3 hz
theorem WvT(hp:POk p)(h:GOk w)(hx:ROk p n x)(h1:x.phase=1)(hk:k<=8)(hn:0<=n):QOk p n w (WgG w x k p):=by
 have hl:=hx.live (by omega);have aD:=hp.code;unfold WgG;split
 .exact WmH h hx hl.rv hk
 .obtain⟨i,hi,aQ,ho⟩:=Wfm (l:=p.1) hl.pc.1 (by have:=hl.pc;omega);simp only[ho];obtain⟨ok,o1,iI⟩:=aD.ok i hi;have hM:=hl.marks;rw[aQ,Xj]at hM;have bV:x.pc+1=((i+1:Nat):Int):=by omega
  have df:=hl.rl;have pu:=hl.wl;have cG:=hl.ul;rw[aQ,Xj]at df;split
  .exact h.st (WtE aD h hx hl h1 hi aQ ‹_›)
  .split
   .exact WrN aD h hx hl h1 hk hi aQ
   .split
    .rename_i c7;refine h.st ?_;exact{hx with
      phase:=by show(0:Int)<=2/\(2:Int)<=8;omega
      live:=λ_=>{hl with
       fork:=λ_=>⟨by show x.pc<p.1.length;omega,by show(opN p.1 x.pc).1=11;rw[ho];exact c7,Wrw hl.regs hn⟩
       back:=λh=>by(change (2:Int)=3\/(2:Int)=4 at h;omega)
       pos:=λh=>by(change (2:Int)=4 at h;omega)
       unw:=λh=>by(change (2:Int)=4 at h;omega)}
      comm:=λh=>by(change (2:Int)=5 at h;omega)}
    .split
     .exact Wsu aD h hx hl h1 hk hi aQ (by omega)
     .split
      .refine h.st ?_;have hk:=WwI ok ‹_›;have aJ:stk p.1 (i+1)=stk p.1 i:=Wgi hi (by omega) (by omega);simp only[bV];refine{hx with live:=λ_=>RLive.on aD hl h1 hi aQ (by omega) (by omega) hl.regs hl.reads (by omega) (λr hr=>?_) (by simp) (by omega) (hM.mono aJ (by omega) (by simp) (by omega)) hl.pb};rcases Xn.1 hr with hr|hr
       .exact hl.writes r hr
       .rw[Xac]at hr;subst hr;have:=hk.1;unfold W7 at this;exact⟨by simpa using this,hl.regs.get _⟩
      .split
       .refine h.st ?_;obtain⟨s1,s2⟩:=aD.sk i hi ‹_›;have hk:=Wv2 ok ‹_›;have aJ:stk p.1 (i+1)=stk p.1 i:=Wgi hi (by omega) (by omega);have pw:stk p.1 (i+1+p.1[i].2.2.1.toNat)=stk p.1 i:=by rw[←aJ];exact Wpf (by omega) s1 s2
        by_cases hg:Wce x.regs p.1[i].2.1 0=0
        .simp only[if_pos hg,show x.pc+p.1[i].2.2.1+1=((i+1+p.1[i].2.2.1.toNat:Nat):Int) by omega];exact{hx with live:=λ_=>RLive.on aD hl h1 hi aQ s1 (by omega) hl.regs hl.reads (by omega) hl.writes (by omega) (by omega) (hM.mono pw (by omega) (by omega) (by omega)) hl.pb}
        .simp only[if_neg hg,bV];exact{hx with live:=λ_=>RLive.on aD hl h1 hi aQ (by omega) (by omega) hl.regs hl.reads (by omega) hl.writes (by omega) (by omega) (hM.mono aJ (by omega) (by omega) (by omega)) hl.pb}
       .split
        .refine h.st ?_;simp only[bV];rw[aQ];exact{hx with live:=λ_=>RLive.on aD hl h1 hi aQ (by omega) (by omega) hl.regs hl.reads (by omega) hl.writes (by omega) (by omega) (hM.begin hi ‹_› hl.regs (by omega) (by omega) (by omega)) hl.pb}
        .split
         .rename_i h9;refine h.st ?_;have hz:x.marks.length≠0:=λhz=>by
           have h1:=congrArg Xa hM.pcs;simp only[Xaf,hz]at h1;have h2:=Wbw aD.up i (by omega);have h3:=aD.up i hi;rw[WaE hi,Wko h9]at h3;omega
          obtain⟨m,q,e1,e2,⟨gK,kH⟩,e4,e5,e6,e7,e8,e9,jh,jQ,ky,kz,ji⟩:=hl.mk24 aD hz;simp only[bV];rw[e8];exact{hx with rg:=Vals.le4 (hl.regs.set _ (by omega)),live:=λ_=>RLive.on aD hl h1 hi aQ (by omega) (by omega) (hl.regs.set _ (by omega)) hl.reads (by omega) hl.writes (by omega) (by omega) (hM.drop e1 (WkW hi h9) (by omega) (by omega) (by omega)) hl.pb}
         .refine h.st ?_;have aJ:stk p.1 (i+1)=stk p.1 i:=Wgi hi (by omega) (by omega);simp only[bV];exact{hx with rg:=Vals.le4 (WkU ok (by omega) (by omega) hl.regs),live:=λ_=>RLive.on aD hl h1 hi aQ (by omega) (by omega) (WkU ok (by omega) (by omega) hl.regs) hl.reads (by omega) hl.writes (by omega) (by omega) (hM.mono aJ (by omega) (by omega) (by omega)) hl.pb}
theorem Wtg(h:GOk w)(hx:ROk p n x)(hu:x.phase=0)(hcl:0<=(p.1.length:Int)):QOk p n w (Wdd w x k):=by
 have lu:=WB h.mem;unfold Wdd;split
 .exact h.st hx
 .split
  .exact h.qt hx _
  .split
   .exact h.st hx
   .refine h.st ?_;exact{
     phase:=by show(0:Int)<=1/\(1:Int)<=8;omega
     tries:=hx.tries
     live:=λ_=>{
      pc:=by show(0:Int)<=0/\(0:Int)<=_;omega
      spare:=by show(0:Int)<=0/\(0:Int)<=2;omega
      rv:=⟨lu.2.1,lu.2.2.1⟩
      regs:=⟨rfl,λv hv=>by simp at hv;omega⟩
      reads:=λr hr=>by cases hr
      rl:=by simp;omega
      writes:=λr hr=>by cases hr
      wl:=by simp
      ul:=by simp
      marks:=⟨by simp[stk],(λq hq=>by cases hq),List.Pairwise.nil⟩
      pb:=λh=>by cases h
      fork:=λh=>by(change (1:Int)=2 at h;omega)
      back:=λh=>by(change (1:Int)=3\/(1:Int)=4 at h;omega)
      newRv:=by show(0:Int)<=0/\(0:Int)<=1000000;omega
      pos:=λh=>by(change (1:Int)=4 at h;omega)
      unw:=λh=>by(change (1:Int)=4 at h;omega)}
     comm:=λh=>by(change (1:Int)=5 at h;omega)
     undos:=λu hu=>by cases hu
     ul:=by simp
     rg:=by simp
     ord:=by simp}
theorem Wm8{codes:List (List Opn)}{f:Fm}(h:FOk codes n f):Wi6 (WgJ f)/\(WgJ f).length<=8:=by
 refine⟨λr hr=>?_,by unfold WgJ;rw[Xaf];exact h.buf8⟩;obtain⟨e,he,rfl⟩:=Xu.1 hr;have:=h.bufE e he;exact⟨this.1,this.2.1⟩
theorem WjL{codes:List (List Opn)}{f:Fm}(h:FOk codes n f)(h3:codes.length<=3):Vals 4 (Wik f):=by
 have hl:=h.len;have hr:=h.regs;unfold Wik;rw[if_pos ⟨We4.2 hr,by omega⟩];refine⟨by simp[hr.len];omega,λv hv=>?_⟩;rcases Xn.1 hv with hv|hv
 .obtain⟨y,hy,rfl⟩:=Xu.1 hv;unfold Wuz;split
  .rename_i hc;exact(We4.1 hc.2).get _
  .omega
 .exact hr.val v (List.mem_of_mem_drop hv)
theorem Wt5(hp:POk p)(hx:ROk p n x)(h2:x.phase=2):ROk p n (WbT x):=by
 have hl:=hx.live (by omega);have aD:=hp.code;obtain⟨f1,f2,f3⟩:=hl.fork h2;obtain⟨i,hi,aQ,ho⟩:=Wfm (l:=p.1) hl.pc.1 f1;rw[ho]at f2;have hM:=hl.marks;have df:=hl.rl;have cG:=hl.ul;rw[aQ,Xj]at hM df;unfold WbT;split
 .exact We2 hx
 .split
  .have hz:x.marks= []:=by
    have h1:=congrArg Xa hM.pcs;simp only[Xaf]at h1;have h3:=Wbw aD.up i (by omega);have h4:=(aD.fk i hi f2).1;exact Xy (by omega)
   have aJ:stk p.1 (i+1)=stk p.1 i:=Wgi hi (by omega) (by omega);have xD:=Wm8 f3;have px:=f3.len3 hp.k3;have zl:=f3.readsL;have tv:frk p.1 (i+1)=frk p.1 i+1:=by rw[WdP hi];simp[f2]
   exact{hx with
    phase:=by show(0:Int)<=1/\(1:Int)<=8;omega
    rg:=(WjL f3 hp.k3).le4
    ord:=px
    live:=λ_=>{hl with
     pc:=by show 0<=x.pc+1/\x.pc+1<=_;omega
     regs:=WjL f3 hp.k3
     reads:=λr hr=>by
      rcases Xn.1 hr with hr|hr
      .exact hl.reads r hr
      .exact f3.readsE r hr
     rl:=by
      show((x.reads++x.fam.reads).length:Int)<=x.pc+1+72*(frk p.1 (x.pc+1).toNat:Int);rw[show(x.pc+1).toNat=i+1 by omega,tv,List.length_append];omega
     writes:=xD.1
     wl:=by have:=xD.2;show((WgJ x.fam).length:Int)<=x.pc+1+8;omega
     ul:=by show(x.undos.length:Int)<=x.pc+1;omega
     marks:=by
      show RMk p.1 (x.pc+1).toNat x.marks _ _ _;rw[show(x.pc+1).toNat=i+1 by omega];rw[hz]at hM⊢;exact⟨by rw[aJ];exact hM.pcs,(λq hq=>by cases hq),List.Pairwise.nil⟩
     fork:=λh=>by(change (1:Int)=2 at h;omega)
     back:=λh=>by(change (1:Int)=3\/(1:Int)=4 at h;omega)
     pos:=λh=>by(change (1:Int)=4 at h;omega)
     unw:=λh=>by(change (1:Int)=4 at h;omega)}
    comm:=λh=>by(change (1:Int)=5 at h;omega)}
  .exact hx
theorem WpJ(hp:POk p)(h:GOk w)(hx:ROk p n x)(h3:x.phase=3):QOk p n w (WaT w x):=by
 have hl:=hx.live (by omega);have hz:=hl.back (.inl h3);obtain⟨m,q,e1,e2,⟨gK,kH⟩,e4,e5,e6,e7,e8,e9,jh,jQ,ky,kz,ji⟩:=hl.mk24 hp.code hz;have lu:=WB h.mem;unfold WaT;split
 .exact Wkm h hx (by omega) λ_=>⟨hp.code,λ_=>by omega⟩
 .refine h.st ?_;exact{hx with
   phase:=by show(0:Int)<=4/\(4:Int)<=8;omega
   live:=λ_=>{hl with
    fork:=λh=>by(change (4:Int)=2 at h;omega)
    back:=λ_=>hz
    newRv:=⟨lu.2.1,lu.2.2.1⟩
    pos:=λ_=>by(show(0:Int)<=0/\(0:Int)<=x.last.2.1;omega)
    unw:=λ_=>by(show(x.undos.length:Int)<=x.last.2.2.2.1;omega)}
   comm:=λh=>by(change (4:Int)=5 at h;omega)}
theorem Wqr(hp:POk p)(h:GOk w)(hx:ROk p n x)(h4:x.phase=4):ROk p n (WaG w x):=by
 have hl:=hx.live (by omega);have hz:=hl.back (.inr h4);have bN:=hl.pos h4;obtain⟨m,q,e1,e2,⟨gK,kH⟩,e4,e5,e6,e7,e8,e9,jh,jQ,ky,kz,ji⟩:=hl.mk24 hp.code hz;unfold WaG;split
 .simp only;split
  .exact We2 hx
  .exact{hx with live:=λ_=>{hl with pos:=λ_=>by(show 0<=x.pos+1/\x.pos+1<=x.last.2.1;omega)}}
 .rename_i fm;have aJ:stk p.1 (m+1)=stk p.1 x.pc.toNat:=by
   have zm:=hl.pc;rw[Wjg gK kH,e7];rcases Wb2 (stk p.1 x.pc.toNat)with h0|⟨t,j,ht⟩
   .have h1:=congrArg Xa hl.marks.pcs;rw[h0]at h1;simp at h1;exact absurd h1 (by intro hh;rw[hh]at hz;simp at hz)
   .have h1:=hl.marks.pcs;rw[e1,ht]at h1;simp only[Xq,List.map_cons,List.map_nil]at h1;have h2:=(List.append_inj' h1 rfl).2;injection h2 with h2;rw[e2]at h2;rw[ht,List.dropLast_concat,show m=j by omega]
  have uw:=WhZ p.1 (show m<=m+1 by omega);rw[e2,Xj]at jh;have bV:x.last.1+1=((m+1:Nat):Int):=by omega
  have t1:(Xat x.last.2.1.toNat x.reads).length=x.last.2.1.toNat:=by rw[Xap];omega
  have t2:(Xat x.last.2.2.1.toNat x.writes).length=x.last.2.2.1.toNat:=by rw[Xap];omega
  exact{hx with
   phase:=by show(0:Int)<=1/\(1:Int)<=8;omega
   rg:=e9.le4
   live:=λ_=>{hl with
    pc:=by show 0<=x.last.1+1/\x.last.1+1<=_;omega
    rv:=hl.newRv
    regs:=e9
    reads:=λr hr=>hl.reads r (Xcp hr)
    rl:=by
     show((Xat x.last.2.1.toNat x.reads).length:Int)<=x.last.1+1+72*(frk p.1 (x.last.1+1).toNat:Int);rw[bV,Xj,t1];omega
    writes:=λr hr=>hl.writes r (Xcp hr)
    wl:=by show((Xat x.last.2.2.1.toNat x.writes).length:Int)<=x.last.1+1+8;rw[t2];omega
    ul:=by
     show(x.undos.length:Int)<=x.last.1+1;have:=hl.unw h4;omega
    marks:=by
     show RMk p.1 (x.last.1+1).toNat x.marks (Xat x.last.2.1.toNat x.reads).length (Xat x.last.2.2.1.toNat x.writes).length x.undos.length;rw[bV,Xj,t1,t2];exact(hl.marks.cut e1 (by omega) (by omega) ji).mono aJ (Xm _) (Xm _) (Xm _)
    fork:=λh=>by(change (1:Int)=2 at h;omega)
    back:=λh=>by(change (1:Int)=3\/(1:Int)=4 at h;omega)
    newRv:=by show(0:Int)<=0/\(0:Int)<=1000000;omega
    pos:=λh=>by(change (1:Int)=4 at h;omega)
    unw:=λh=>by(change (1:Int)=4 at h;omega)}
   comm:=λh=>by(change (1:Int)=5 at h;omega)}
end
end
section
section
variable{N:Nat}{w:Wo}{k:Nat}{x:Rt}{p:Pg}{n:Int}{ps:List Pg}
theorem WpD(h:GOk w)(hx:ROk p n x)(h5:x.phase=5)(hk:k<=8):QOk p n w (Was w x k):=by
 have hc:=hx.comm h5;unfold Was;split
 .split
  .exact h.st (We2 hx)
  .refine h.st ?_;exact{hx with live:=λhh=>by(change 1<=x.phase/\x.phase<=4 at hh;omega),comm:=λ_=>WpT hc}
 .have aJ:=Wl0 hc h.mem;obtain⟨m',c',hq⟩:∃m' c',WC w.mem x.cm=(m',c'):=⟨_,_,rfl⟩;simp only[hq]at aJ⊢;refine⟨?_,aJ.2,h.shelf,h.holds,?_,?_,rfl,rfl⟩
  .have hy:ROk p n {x with cm:=c'}:={hx with live:=λhh=>by(change 1<=x.phase/\x.phase<=4 at hh;omega),comm:=λ_=>aJ.1};unfold WbD;simp only;split
   .exact We2 hy
   .split
    .have aY:(if x.fate=2 then(6:Int)else 7)=6\/(if x.fate=2 then(6:Int)else 7)=7:=by split<;>simp
     generalize (if x.fate=2 then(6:Int)else 7)=ph at*;exact{hx with
      phase:=by show 0<=ph/\ph<=8;omega
      live:=λhh=>by(change 1<=ph/\ph<=4 at hh;omega)
      comm:=λhh=>by(change ph=5 at hh;omega)}
    .exact hy
  .simp only;split<;>simp
  .simp only;intro h hh;split at hh
   .rcases Xn.1 hh with hh|hh
    .exact .inl hh
    .rw[Xac]at hh;subst hh;exact .inr ⟨aJ.1.plen,aJ.1.rows,by simp only;omega,by simp only;omega⟩
   .exact .inl hh
theorem WhT(hp:POk p)(h:GOk w)(hx:ROk p n x)(hk:k<=8)(hn:0<=n):QOk p (n+1) w (WY w x k p):=by
 have eQ:=hx.wk (show n<=n+1 by omega);unfold WY;by_cases hd:x.doomed=true/\1<=x.phase/\x.phase<=4
 .rw[if_pos hd];exact h.st (We2 eQ)
 rw[if_neg hd];by_cases h0:x.phase=0
 .rw[if_pos h0];exact Wtg h eQ h0 (by omega)
 rw[if_neg h0];by_cases h1:x.phase=1
 .rw[if_pos h1];exact WvT hp h eQ h1 hk (by omega)
 rw[if_neg h1];by_cases h2:x.phase=2
 .rw[if_pos h2];exact h.st (Wt5 hp eQ h2)
 rw[if_neg h2];by_cases h3:x.phase=3
 .rw[if_pos h3];exact WpJ hp h eQ h3
 rw[if_neg h3];by_cases h4:x.phase=4
 .rw[if_pos h4];exact h.st (Wqr hp h eQ h4)
 rw[if_neg h4];by_cases h5:x.phase=5
 .rw[if_pos h5];exact WpD h eQ h5 hk
 rw[if_neg h5];by_cases h6:x.phase=6
 .rw[if_pos h6];by_cases hz:x.undos.length>0
  .rw[if_pos hz];exact Wkm h eQ (by omega) λhh=>by omega
  .rw[if_neg hz];refine h.st ?_;exact{eQ with
    phase:=by show(0:Int)<=7/\(7:Int)<=8;omega
    live:=λhh=>by(change (1:Int)<=7/\(7:Int)<=4 at hh;omega)
    comm:=λhh=>by(change (7:Int)=5 at hh;omega)}
 rw[if_neg h6];by_cases h7:x.phase=7
 .rw[if_pos h7];have hg:GOk {w with holds:=W1 w.holds ((k:Int)+1)}:=⟨h.mem,h.shelf,WiV h.holds⟩;by_cases hf:x.fate=0
  .rw[if_pos hf];refine⟨?_,h.mem,h.shelf,WiV h.holds,by simp,λ_ hh=>.inl hh,rfl,rfl⟩;exact{
    phase:=by show(0:Int)<=0/\(0:Int)<=8;omega
    tries:=by have:=hx.tries;show 0<=x.tries+1/\x.tries+1<=n+1;omega
    live:=λhh=>by(change (1:Int)<=0/\(0:Int)<=4 at hh;omega)
    comm:=λhh=>by(change (0:Int)=5 at hh;omega)
    undos:=λu hu=>by cases hu
    ul:=by simp
    rg:=by simp
    ord:=by simp}
  .rw[if_neg hf];have:=WqN (k:=k) hg eQ;exact⟨this.root,this.mem,this.shelf,this.holds,this.hist,this.histE,this.roots,this.now⟩
 .rw[if_neg h7];exact h.st eQ
theorem Wul(hk:k<w.roots.length)(aB:w.roots[k]=x)(iN:w.roots.length<=8)(hp:POk p)(h:GOk w)(hx:ROk p n x)(hn:n<=200000)(hh:w.hist.length<=500000)(hN:1048576<N):
  Zgv N w.e (k:Int) p=some (((Wo.put (WY w x k p) k).e,()),()):=by
 obtain⟨g1,g2,g3,g4,g5⟩:=woG hk aB;obtain⟨r0,r1,r2,r3,r4,r5,r6,r7,r8,jR,jj,im,io,iL,iM,kC,kD,jS,jT,kE,kF,kG⟩:=rtP x;have qr:k<=8:=by omega
 have eO:=Wo8 hk aB;have mT:=hx.tries;have zn:=hx.ul;have sW:=WhY h.holds;unfold Zgv WY;simp only[Wq];rw[show P5 w.e=w.roots.map Rt.e from rfl,g4,g2,Wcz (by omega),Wcz (show 0<=x.e.2.1/\x.e.2.1<=1000000 by show 0<=x.tries/\x.tries<=_;omega)];simp(maxSteps:=4000000) only[g3,r0,r7,jR,iM,cond_true,Wk,ret,Xc,We7,Wt,Wat,show w.e.2.2.1.1=w.mem.1 from rfl,Wb,show P4 w.e=w.holds from rfl];rw[WhK h.holds (by omega) hN];simp only[ret,Xc];have hS4:S4 (W1 w.holds ((k:Int)+1)) w.e=Wo.e {w with holds:=W1 w.holds ((k:Int)+1)}:=rfl;have zo:S5 (Xl (w.roots.map Rt.e) (Xb (k:Int)) x.e) (S4 (W1 w.holds ((k:Int)+1)) w.e)=Wo.e {w with holds:=W1 w.holds ((k:Int)+1)}:=(woG (w:={w with holds:=W1 w.holds ((k:Int)+1)}) hk aB).2.2.1;rw[zo,WsJ (w:={w with holds:=W1 w.holds ((k:Int)+1)}) hk aB (by omega),Wt8 hk aB iN hN];have dM:∀(A:Option ((Y_World×Unit)×Unit)),A=some (((Wo.put (
   if x.phase=0 then Wdd w x k else
   if x.phase=1 then WgG w x k p else
   if x.phase=2 then(w,WbT x)else
   if x.phase=3 then WaT w x else
   if x.phase=4 then(w,WaG w x)else
   if x.phase=5 then Was w x k else
   if x.phase=6 then(if x.undos.length>0 then WdR w x else(w,{x with phase:=7}))else
   if x.phase=7 then
    (if x.fate=0 then({w with holds:=W1 w.holds ((k:Int)+1)},{tries:=x.tries+1})
     else Wkf {w with holds:=W1 w.holds ((k:Int)+1)} x k)
   else(w,x)) k).e,()),())->¬(x.doomed=true/\1<=x.phase/\x.phase<=4)->A=some (((Wo.put (
   if x.doomed=true/\1<=x.phase/\x.phase<=4 then(w,Wdi x)else
   if x.phase=0 then Wdd w x k else
   if x.phase=1 then WgG w x k p else
   if x.phase=2 then(w,WbT x)else
   if x.phase=3 then WaT w x else
   if x.phase=4 then(w,WaG w x)else
   if x.phase=5 then Was w x k else
   if x.phase=6 then(if x.undos.length>0 then WdR w x else(w,{x with phase:=7}))else
   if x.phase=7 then
    (if x.fate=0 then({w with holds:=W1 w.holds ((k:Int)+1)},{tries:=x.tries+1})
     else Wkf {w with holds:=W1 w.holds ((k:Int)+1)} x k)
   else(w,x)) k).e,()),()):=λA hA hn=>by rw[if_neg hn];exact hA
 have mU:(if x.phase=0 then(some (((Wo.put (Wdd w x k) k).e,()),()):Option ((Y_World×Unit)×Unit)).bind (λo6=>some ((o6.1.1,()),()))
   else if x.phase=1 then(Zhj N w.e (k:Int) p).bind (λo7=>some ((o7.1.1,()),()))
   else if x.phase=2 then(Zhk N x.e).bind (λo8=>some ((S5 (Xl (w.roots.map Rt.e) (Xb (k:Int)) o8.1.1) w.e,()),()))
   else if x.phase=3 then(Zde N x.e).bind (λo9=>if(x.undos.length:Int)>o9.2.1.2.2.2 then(Zcb N w.e (Xb (k:Int))).bind (λcg=>some ((cg.1.1,()),()))else some ((S5 (Xl (w.roots.map Rt.e) (Xb (k:Int)) (S6 0 (S5 w.mem.1 (S0 4 x.e)))) w.e,()),()))
   else if x.phase=4 then(Zfm N w.e (Xb (k:Int))).bind (λiH=>some ((iH.1.1,()),()))
   else if x.phase=5 then(Zfn N w.e (k:Int)).bind (λep=>some ((ep.1.1,()),()))
   else if x.phase=6 then(if(x.undos.length:Int)>0 then(Zcb N w.e (Xb (k:Int))).bind (λcA=>some ((cA.1.1,()),()))else some ((S5 (Xl (w.roots.map Rt.e) (Xb (k:Int)) (7,x.e.2)) w.e,()),()))
   else if x.phase=7 then(if x.fate=0 then some ((S5 (Xl (w.roots.map Rt.e) (Xb (k:Int)) ((0:Int),(x.e.2.1+1,((0:Int),((0:Int),((0:Int),((0:Int),((0:Int),((0:Int),((0:Int),((0:Int),((0:Int),(false,(([]:List Int),(([]:List Kc),(([]:List Kc),(([]:List Kj),(([]:List Kb),(([]:List Int),(false,(((0:Int),((0:Int),((0:Int),(0:Int)))),(((0:Int),((0:Int),((0:Int),((0:Int),((0:Int),(([]:List Kc),([]:List Int))))))),d_Family)))))))))))))))))))))) (S4 (W1 w.holds ((k:Int)+1)) w.e),()),())else(some (((Wo.put (Wkf {w with holds:=W1 w.holds ((k:Int)+1)} x k) k).e,()),()):Option ((Y_World×Unit)×Unit)).bind (λmD=>some ((mD.1.1,()),())))
   else some ((w.e,()),()))=some (((Wo.put (
   if x.phase=0 then Wdd w x k else
   if x.phase=1 then WgG w x k p else
   if x.phase=2 then(w,WbT x)else
   if x.phase=3 then WaT w x else
   if x.phase=4 then(w,WaG w x)else
   if x.phase=5 then Was w x k else
   if x.phase=6 then(if x.undos.length>0 then WdR w x else(w,{x with phase:=7}))else
   if x.phase=7 then
    (if x.fate=0 then({w with holds:=W1 w.holds ((k:Int)+1)},{tries:=x.tries+1})
     else Wkf {w with holds:=W1 w.holds ((k:Int)+1)} x k)
   else(w,x)) k).e,()),()):=by
  rw[Xj];by_cases h0:x.phase=0
  .rw[if_pos h0,if_pos h0];rfl
  .rw[if_neg h0,if_neg h0];by_cases h1:x.phase=1
   .rw[if_pos h1,if_pos h1,WvC hk aB qr hp (hx.live (by omega)) hx.undos h.mem h.shelf h.holds hN];rfl
   .rw[if_neg h1,if_neg h1];by_cases h2:x.phase=2
    .rw[if_pos h2,if_pos h2,Wup hp (hx.live (by omega)) h2 hN];exact WcZ rfl rfl rfl
    .rw[if_neg h2,if_neg h2];by_cases h3:x.phase=3
     .have hl:=hx.live (by omega);obtain⟨z1,z2,z3,z4,z5,z6⟩:=hl.sz hp.code;rw[if_pos h3,if_pos h3,WlP (hl.back (.inl h3)) (by omega)];simp only[Xc];have iO:=(hl.mk24 hp.code (hl.back (.inl h3)));obtain⟨m,q,e1,e2,_,_,_,_,_,_,_,_,_,ji⟩:=iO;unfold WaT;by_cases hgt:(x.undos.length:Int)>x.last.2.2.2.1
      .rw[if_pos hgt,if_pos hgt,WkL hk aB (by omega) (by omega) hx.undos h.shelf hN];rfl
      .rw[if_neg hgt,if_neg hgt];exact WcZ rfl rfl rfl
     .rw[if_neg h3,if_neg h3];by_cases h4:x.phase=4
      .rw[if_pos h4,if_pos h4,Wqp hk aB hp (hx.live (by omega)) h4 h.mem];rfl
      .rw[if_neg h4,if_neg h4];by_cases h5:x.phase=5
       .rw[if_pos h5,if_pos h5,Wqg hk aB qr (hx.comm h5) h.mem hh hN];rfl
       .rw[if_neg h5,if_neg h5];by_cases h6:x.phase=6
        .rw[if_pos h6,if_pos h6];by_cases hz:x.undos.length>0
         .rw[if_pos (by omega),if_pos hz,WkL hk aB (by omega) (by omega) hx.undos h.shelf hN];rfl
         .rw[if_neg (by omega),if_neg hz];exact WcZ rfl rfl rfl
        .rw[if_neg h6,if_neg h6];by_cases h7:x.phase=7
         .rw[if_pos h7,if_pos h7];by_cases hf:x.fate=0
          .rw[if_pos hf,if_pos hf,hS4];exact WcZ (w:=w) (w':={w with holds:=W1 w.holds ((k:Int)+1)}) (x':={tries:=x.tries+1}) rfl rfl rfl
          .rw[if_neg hf,if_neg hf];rfl
         .rw[if_neg h7,if_neg h7,eO]
 rw[WhU];by_cases hd:x.doomed=true
 .rw[if_pos hd];by_cases aY:1<=x.phase/\x.phase<=4
  .rw[decide_eq_true aY.1,decide_eq_true aY.2,if_pos (show x.doomed=true/\1<=x.phase/\x.phase<=4 from⟨hd,aY⟩),Xj];exact WcZ rfl rfl rfl
  .have hb:(decide (1<=x.phase)&&decide (x.phase<=4))=false:=by
    rw[Xco,decide_eq_false_iff_not,decide_eq_false_iff_not];omega
   rw[hb];exact dM _ mU (λhc=>aY hc.2)
 .rw[if_neg hd];exact dM _ mU (λhc=>hd hc.1)
end
end
section
noncomputable def Wob(p:Pg):Bool:=p.2.all WgL&&(WpC p.1&&(decide (p.2.length<=3)&&beq (p.1.any λo=>o.1==11) (decide (p.2.length>0))))
noncomputable def Wjw(s:Sc):Bool:=Wt7 s.1&&(decide (s.2.1.length<=4)&&(decide (s.2.2.length<=400)&&s.2.1.all Wob))
structure PB(p:Pg):Prop where
 code:p.1.length<=1000
 kids:p.2.length<=1000
 each:∀c∈p.2,c.length<=1000
structure SB(s:Sc):Prop where
 cells:s.1.1.length<=100
 map:s.1.2.1.length<=100
 progs:s.2.1.length<=100
 each:∀p∈s.2.1,PB p
 acts:s.2.2.length<=1000
variable{N:Nat}{s:Sc}{p:Pg}{w:Wo}{n:Int}{a:Ac}
theorem WvO(h:Wob p=true):POk p:=by
 unfold Wob at h;simp only[Xh,Xae,decide_eq_true_eq]at h;exact⟨WwC h.2.1,λc hc=>Ww1 (h.1 c hc),h.2.2.1⟩
theorem Wed(h:Wjw s=true):ThOk s.1/\s.2.1.length<=4/\s.2.2.length<=400/\∀p∈s.2.1,POk p:=by
 unfold Wjw at h;simp only[Xh,Xae,decide_eq_true_eq]at h;exact⟨Wtf.1 h.1,h.2.1,h.2.2.1,λp hp=>WvO (h.2.2.2 p hp)⟩
theorem WnC{α:Type}(l:List α)(k:Nat):decide ((Wb l)<=(k:Int))=decide (l.length<=k):=by
 unfold Wb;by_cases h:l.length<=k
 .rw[decide_eq_true h,decide_eq_true (by omega)]
 .rw[decide_eq_false h,decide_eq_false (by omega)]
theorem WiC{α:Type}(l:List α)(k:Nat):decide ((Wb l)>(k:Int))=decide (l.length>k):=by
 unfold Wb;by_cases h:l.length>k
 .rw[decide_eq_true h,decide_eq_true (by omega)]
 .rw[decide_eq_false h,decide_eq_false (by omega)]
theorem Wiz(l k:Nat):decide (l>k)= !decide (l<=k):=by
 by_cases h:l<=k
 .rw[decide_eq_true h,decide_eq_false (by omega)];rfl
 .rw[decide_eq_false h,decide_eq_true (by omega)];rfl
theorem Wmr{l:List Opn}(hl:l.length<=1048576)(hN:1048576<N):Zg2 N l=ret (l.any λo=>o.1==11):=by
 unfold Zg2 Za2 Z3;have h1:=WkA (l:=l) (p:=λo=>o.1==11) (N:=N) (lp:=λn j=>Zm N l (λaN=>(some ((),(aN,())))) (λaL be=>(some ((),((-1:Int),())))) n j) (K0:=λj=>some ((),(j,()))) (K1:=some ((),((-1:Int),()))) (by omega) (by omega)
  (λn j hj=>by
   simp only[Zm,Waa hj,Wn hj,Ws hj,Wg (show j<4611686018427387904 by omega),cond_true,Zmr,Xc])
  (λn=>by simp only[Zm,Wau (Xm _),cond_false])
 rw[h1];have h2:=Wll (p:=λo:Opn=>o.1==11) l 0;cases hf:fnd (λo:Opn=>o.1==11) l 0 with
 |some r=>
  rw[hf]at h2;simp only[Xc,decide_eq_true (show((r.1:Int)>=0) by omega),ret];rw[←h2];rfl
 |none=>
  rw[hf]at h2;rw[←h2];rfl
theorem Wl8(h:PB p)(hN:1048576<N):Zh1 N p=ret (Wob p):=by
 have hc:=h.code;have hk:=h.kids;unfold Zh1 Wob;have h1:=WD (l:=p.2) (V:=Unit) (R:=Unit×Kr) (lp:=λn j v=>Zc4 N p.2 p (some ((),(false,()))) (λaN aL=>
  ((Zcr N p.1).bind λcA=>
 (bif cA.2.1 then
 (bif decide ((Wb p.2)<=(3:Int))then
 ((Zg2 N p.1).bind λdP=>
 (some ((),(beq dP.2.1 (decide ((Wb p.2)>(0:Int))),()))))
 else
 (some ((),(false,()))))
 else
 (some ((),(false,())))))) n j) (n:=N) (by omega)
  (body:=λj x v k=>(Zhd N x).bind λo=>bif !o.2.1 then some ((),(false,()))else k v) (K:=λ_ v=>((Zcr N p.1).bind λcA=>
 (bif cA.2.1 then
 (bif decide ((Wb p.2)<=(3:Int))then
 ((Zg2 N p.1).bind λdP=>
 (some ((),(beq dP.2.1 (decide ((Wb p.2)>(0:Int))),()))))
 else
 (some ((),(false,()))))
 else
 (some ((),(false,()))))))
  (λn i v hi=>by simp only[Zc4,Waa hi,Wn hi,Ws hi,Wg (show i<4611686018427387904 by omega),cond_true])
  (λn v=>by simp only[Zc4,Wau (Xm p.2.length),cond_false]) ()
 refine h1.trans ?_;rw[WaB (p:=λx=>!WgL x) (E:=λ_=>some ((),(false,()))) p.2 0 () (λj x v k hx=>by rw[Wn2 (by have:=h.each x hx;omega) hN];rfl),Wcw,Whl (by omega) hN,Wmr (by omega) hN];simp only[ret,Xc];rw[show(3:Int)=((3:Nat):Int)from rfl,WnC,show(0:Int)=((0:Nat):Int)from rfl,WiC];cases p.2.all WgL<;>cases WpC p.1<;>cases decide (p.2.length<=3)<;>rfl
theorem Wnh(h:PB p)(hN:1048576<N):Zgs N p=ret (Wob p):=by
 have hc:=h.code;have hk:=h.kids;unfold Zgs Wob;have h1:=WD (l:=p.2) (V:=Unit) (R:=Unit×Kr) (lp:=λn j v=>Zca N p (some ((),(false,()))) (λkS aN=>(some ((),(true,())))) n j) (n:=N) (by omega)
  (body:=λj x v k=>(Zhc N x).bind λo=>bif !o.2.1 then some ((),(false,()))else k v) (K:=λ_ v=>some ((),(true,())))
  (λn i v hi=>by simp only[Zca,Waa hi,Wn hi,Ws hi,Wg (show i<4611686018427387904 by omega),cond_true])
  (λn v=>by simp only[Zca,Wau (Xm p.2.length),cond_false]) ()
 have h2:Zca N p (some ((),(false,()))) (λkS aN=>(some ((),(true,())))) N 0=ret (p.2.all WgL):=by
  refine h1.trans ?_;rw[WaB (p:=λx=>!WgL x) (E:=λ_=>some ((),(false,()))) p.2 0 () (λj x v k hx=>by rw[Wop (by have:=h.each x hx;omega) hN];rfl),Wcw];cases p.2.all WgL<;>rfl
 rw[h2,Whc (by omega) hN,Who (by omega) hN];simp only[ret,Xc];rw[show(3:Int)=((3:Nat):Int)from rfl,WiC,Wiz,show(0:Int)=((0:Nat):Int)from rfl,WiC];generalize beq (p.1.any λo=>o.1==11) (decide (p.2.length>0))=b;cases p.2.all WgL<;>cases WpC p.1<;>cases decide (p.2.length<=3)<;>cases b<;>rfl
theorem Wjm{t:List Int×List Int×Int}(h1:t.1.length<=1048576)(h2:t.2.1.length<=1048576)(hN:1048576<N):Zgh N t=ret (Wt7 t):=by
 unfold Zgh Wt7 Wm7;have e:((Wb t.2.1) !=(8:Int))= !decide (t.2.1.length=8):=by
  by_cases h:t.2.1.length=8
  .simp[Wb,h]
  .simp[Wb,h];omega
 have h3:=WD (l:=t.2.1) (V:=Unit) (R:=Unit×Kr) (lp:=λn j v=>Zbu N t (some ((),(false,()))) (λkS aN=>(some ((),(true,())))) n j) (n:=N) (by omega)
  (body:=λj x v k=>bif !(decide (0<=x)&&decide (x<=65536))then some ((),(false,()))else k v) (K:=λ_ v=>some ((),(true,())))
  (λn i v hi=>by simp only[Zbu,Waa hi,Wn hi,Ws hi,Wg (show i<4611686018427387904 by omega),cond_true,Wdw,ret,Xc])
  (λn v=>by simp only[Zbu,Wau (Xm t.2.1.length),cond_false]) ()
 have h4:Zbu N t (some ((),(false,()))) (λkS aN=>(some ((),(true,())))) N 0=ret (t.2.1.all λx=>decide (0<=x)&&decide (x<=65536)):=by
  refine h3.trans ?_;rw[WaB (p:=λx=>!(decide (0<=x)&&decide (x<=65536))) (E:=λ_=>some ((),(false,()))) t.2.1 0 () (λj x v k _=>rfl),Wcw];cases t.2.1.all _<;>rfl
 rw[WlZ h1 hN,e,WM,h4];cases WeM t.1<;>cases decide (t.2.1.length=8)<;>cases Wbk t.2.2<;>cases t.2.1.all _<;>rfl
theorem Wje(h:SB s)(hN:1048576<N):Zgi N s=ret (Wjw s):=by
 have h1:=h.cells;have h2:=h.map;have h3:=h.progs;unfold Zgi Wjw;have h4:=WD (l:=s.2.1) (V:=Unit) (R:=Unit×Kr) (lp:=λn j v=>Zbv N s (some ((),(false,()))) (λi9 az=>(some ((),(true,())))) n j) (n:=N) (by omega)
  (body:=λj x v k=>(Zgs N x).bind λo=>bif !o.2.1 then some ((),(false,()))else k v) (K:=λ_ v=>some ((),(true,())))
  (λn i v hi=>by simp only[Zbv,Waa hi,Wn hi,Ws hi,Wg (show i<4611686018427387904 by omega),cond_true])
  (λn v=>by simp only[Zbv,Wau (Xm s.2.1.length),cond_false]) ()
 have h5:Zbv N s (some ((),(false,()))) (λi9 az=>(some ((),(true,())))) N 0=ret (s.2.1.all Wob):=by
  refine h4.trans ?_;rw[WaB (p:=λx=>!Wob x) (E:=λ_=>some ((),(false,()))) s.2.1 0 () (λj x v k hx=>by rw[Wnh (h.each x hx) hN];rfl),Wcw];cases s.2.1.all Wob<;>rfl
 rw[h5,Wjm (by omega) (by omega) hN];simp only[ret,Xc];rw[show(4:Int)=((4:Nat):Int)from rfl,WiC,Wiz,show(400:Int)=((400:Nat):Int)from rfl,WiC,Wiz];cases Wt7 s.1<;>cases decide (s.2.1.length<=4)<;>cases decide (s.2.2.length<=400)<;>rfl
theorem Wde(h:SB s)(hN:1048576<N):Zgj N s=ret (Wjw s):=by
 have h1:=h.cells;have h2:=h.map;have h3:=h.progs;unfold Zgj Wjw Zap Zx;have h4:=WD (l:=s.2.1) (V:=Unit) (R:=Unit×Kh) (lp:=λn j v=>Ze N s.2.1 (λaN=>(some ((),(aN,())))) (λaL be=>(some ((),((-1:Int),())))) n j) (n:=N) (by omega)
  (body:=λj x v k=>(Zip N x).bind λo=>bif o.2.1 then some ((),(j,()))else k v) (K:=λ_ v=>some ((),((-1:Int),())))
  (λn i v hi=>by simp only[Ze,Waa hi,Wn hi,Ws hi,Wg (show i<4611686018427387904 by omega),cond_true])
  (λn v=>by simp only[Ze,Wau (Xm s.2.1.length),cond_false]) ()
 have h5:((Ze N s.2.1 (λaN=>(some ((),(aN,())))) (λaL be=>(some ((),((-1:Int),())))) N 0).bind λo2=>some ((),(decide (o2.2.1>=(0:Int)),())))=ret (!s.2.1.all Wob):=by
  have h6:=h4;rw[h6,Wgw (p:=λx=>!Wob x) (E:=λj _=>some ((),(j,()))) s.2.1 0 () (λj x v k hx=>by unfold Zip;rw[Wl8 (h.each x hx) hN];rfl)];have h7:=Wll (p:=λx=>!Wob x) s.2.1 0;rw[Wcw]at h7;rw[←h7];cases hf:fnd (λx=>!Wob x) s.2.1 0 with
  |some r=>simp only[Xc,decide_eq_true (show((r.1:Int)>=0) by omega)];rfl
  |none=>rfl
 rw[Wjl (by omega) (by omega) hN];simp only[ret,Xc];rw[h5,show(4:Int)=((4:Nat):Int)from rfl,WnC,show(400:Int)=((400:Nat):Int)from rfl,WnC];cases Wt7 s.1<;>cases decide (s.2.1.length<=4)<;>cases decide (s.2.2.length<=400)<;>cases s.2.1.all Wob<;>rfl
end
section
variable{N:Nat}{s:Sc}{p:Pg}{w:Wo}{n:Int}{a:Ac}{k:Nat}
theorem Wgv{ps:List Pg}(h:∀p∈ps,POk p)(hk:k<ps.length):POk (ps.getD k pg0):=by
 rw[Wf hk];exact h _ (Xw hk)
theorem WOk.tick(h:WOk s.2.1 n w):WOk s.2.1 (n+1) {w with now:=w.now+1}:=
 {h with now:=by(have:=h.now;show w.now+1=n+1;omega),n0:=by have:=h.n0;omega,hist:=by(have:=h.hist;show(w.hist.length:Int)<=n+1;omega),root:=λk hk=>(h.root k hk).wk (by omega)}
theorem WOk.putQ{q:Wo×Rt}{w0:Wo}(h:WOk s.2.1 (n+1) {w0 with now:=w0.now+1})(hh:(w0.hist.length:Int)<=n)(hk:k<w0.roots.length)(hq:QOk (s.2.1.getD k pg0) (n+1) {w0 with now:=w0.now+1} q):WOk s.2.1 (n+1) (Wo.put q k):=by
 have hr:q.1.roots=w0.roots:=hq.roots;exact{
  len:=by show(q.1.roots.set k q.2).length=_;rw[Xab,hr];exact h.len
  l4:=h.l4
  progs:=h.progs
  now:=hq.now.trans h.now
  n0:=h.n0
  mem:=hq.mem
  shelf:=hq.shelf
  holds:=hq.holds
  histE:=λe he=>(hq.histE e he).elim (h.histE e) id
  hist:=by have:=hq.hist;show(q.1.hist.length:Int)<=n+1;(change q.1.hist.length<=w0.hist.length+1 at this);omega
  root:=λi hi=>by
   change i<(q.1.roots.set k q.2).length at hi;rw[Xab,hr]at hi;show ROk _ _ ((q.1.roots.set k q.2)[i]);rw[Xaq];by_cases he:k=i
   .subst he;rw[if_pos rfl];exact hq.root
   .rw[if_neg he];have:=h.root i hi;simp only[hr];exact this}
theorem WbO(h:WOk s.2.1 n w):WOk s.2.1 (n+1) (Wc2 s w a):=by
 have ht:=h.tick;unfold Wc2;simp only;split
 .rename_i hb;have hk:a.2.1.toNat<w.roots.length:=by omega
  have hx:=ht.root a.2.1.toNat hk;have tw:=h.root a.2.1.toNat hk;have hg:GOk {w with now:=w.now+1}:=⟨h.mem,h.shelf,h.holds⟩;have hp:=Wgv h.progs (show a.2.1.toNat<s.2.1.length by rw[←h.len];exact hk);have iN:w.roots.length<=4:=by rw[h.len];exact h.l4
  rw[Wf hk];split
  .unfold Wi5;rw[Wf (show a.2.1.toNat<({w with now:=w.now+1}:Wo).roots.length from hk)];exact ht.putQ h.hist hk (WhT hp hg tw (by omega) h.n0)
  .split
   .split
    .rename_i hf;refine ht.putQ h.hist hk (hg.st ?_);have hl:=tw.live (by omega);obtain⟨f1,f2,f3⟩:=hl.fork hf.1;have hj:a.2.2.toNat<(s.2.1.getD a.2.1.toNat pg0).2.length:=by omega
     have dg:a.2.2.toNat<w.roots[a.2.1.toNat].fam.kids.length:=by rw[f3.len];exact hj
     have bb:KC ((s.2.1.getD a.2.1.toNat pg0).2.getD a.2.2.toNat []):=by rw[Wf hj];exact hp.kids _ (Xw hj)
     exact{hx with live:=λ_=>{hl.wk (show n<=n+1 by omega)with fork:=λ_=>⟨f1,f2,Wln dg h.mem bb f3 rfl⟩}}
    .exact ht
   .split
    .split
     .refine ht.putQ h.hist hk (hg.st ?_);exact{hx with live:=λhh=>{hx.live hh with}}
     .exact ht
    .exact ht
 .exact ht
theorem Wlf(h:WOk s.2.1 n w)(hn:n<=99999)(hN:1048576<N):Zd3 N w.e s a=some (((Wc2 s w a).e,()),()):=by
 have ht:=h.tick;have pA:=h.now;have tL:=h.n0;have iN:w.roots.length<=4:=by rw[h.len];exact h.l4
 unfold Zd3 Wc2;simp only[Wq];rw[show P5 w.e=w.roots.map Rt.e from rfl,show w.e.1=w.now from rfl,Wcz (by omega)];have hlen:Wb (w.roots.map Rt.e)=(w.roots.length:Int):=by unfold Wb;simp
 rw[hlen,W4 (by unfold I64;omega)];simp only[Wk,ret,Xc];by_cases hb:0<=a.2.1/\a.2.1<w.roots.length
 .rw[if_pos hb,decide_eq_true hb.1,decide_eq_true (show a.2.1<=(w.roots.length:Int) -1 by omega)];obtain⟨k,zp⟩:∃k:Nat,a.2.1=k:=⟨a.2.1.toNat,by omega⟩;have hk:k<w.roots.length:=by omega
  obtain⟨x,aB⟩:∃x,w.roots[k]=x:=⟨_,rfl⟩;have hx:=h.root k hk;rw[aB]at hx;have kN:k<s.2.1.length:=by rw[←h.len];exact hk
  have hp:=Wgv h.progs kN;obtain⟨g1,g2,g3,g4,g5⟩:=woG hk aB;obtain⟨r0,r1,r2,r3,r4,r5,r6,r7,r8,jR,jj,im,io,iL,iM,kC,kD,jS,jT,kE,kF,kG⟩:=rtP x;have eO:∀y:Rt,(w.now+1,S4 (Xl (w.roots.map Rt.e) k y.e) w.e.2)=Wo.e (Wo.put ({w with now:=w.now+1},y) k):=λy=>by
   unfold Wo.put Wo.e;simp only[List.map_set];rfl
  have bj:Wo.put ({w with now:=w.now+1},x) k={w with now:=w.now+1}:=by unfold Wo.put;simp only;rw[←aB,Xbh]
  simp only[zp,Xj,Xbt,Xaa,cond_false];rw[g1,g4,Wf hk,aB];simp only[cond_true,r0,jS,jT,eO,bj,show w.e.2.2.1=w.mem from rfl];rw[W3,decide_eq_true kN];have zq:Xd s.2.1 k (([]:List Ka),([]:List Kz))=s.2.1.getD k pg0:=rfl;rw[zq];generalize fM:s.2.1.getD k pg0=p at*;have hg:GOk {w with now:=w.now+1}:=⟨h.mem,h.shelf,h.holds⟩;simp only[cond_true,Wt];have aJ:Zgv N (Wo.e {w with now:=w.now+1}) (k:Int) p=some (((Wo.put (WY {w with now:=w.now+1} x k p) k).e,()),()):=
   Wul (w:={w with now:=w.now+1}) hk aB (by show w.roots.length<=8;omega) hp hg hx (by omega) (by have:=h.hist;show w.hist.length<=500000;omega) hN
  rw[aJ];by_cases h1:a.1=1
  .rw[if_pos h1,if_pos h1];unfold Wi5;rw[Wf (show k<({w with now:=w.now+1}:Wo).roots.length from hk)];simp only[aB,Xc]
  .rw[if_neg h1,if_neg h1];by_cases h2:a.1=2
   .rw[if_pos h2,if_pos h2];by_cases hf:x.phase=2
    .rw[if_pos hf,W4 (by have:=hp.k3;unfold I64 Wb;omega),show Wb p.2=(p.2.length:Int)from rfl];by_cases hj:0<=a.2.2/\a.2.2<p.2.length
     .rw[decide_eq_true hj.1,decide_eq_true (show a.2.2<=(p.2.length:Int) -1 by omega),if_pos (show x.phase=2/\0<=a.2.2/\a.2.2<p.2.length from⟨hf,hj⟩)];obtain⟨j,nh⟩:∃j:Nat,a.2.2=j:=⟨a.2.2.toNat,by omega⟩;have hj':j<p.2.length:=by omega
      simp only[nh,Xj,Xbt,cond_true];rw[W3,decide_eq_true hj'];obtain⟨f1,f2,f3⟩:=(hx.live (by omega)).fork hf;have bb:KC (p.2.getD j []):=by rw[Wf hj'];exact hp.kids _ (Xw hj')
      rw[Wk9 (code:=p.2.getD j []) (by rw[f3.len];exact hj') (by rw[f3.len];exact hp.k3) h.mem bb f3 rfl (by omega) hN];simp only[Xc,cond_true];have:U21 (Wcy w.mem x.fam j (p.2.getD j [])).e x.e=Rt.e {x with fam:=Wcy w.mem x.fam j (p.2.getD j [])}:=rfl;rw[this,eO];unfold Ww9;rfl
     .rw[if_neg (show¬(x.phase=2/\0<=a.2.2/\a.2.2<p.2.length)fromλhc=>hj hc.2)];have mn:(decide (0<=a.2.2)&&decide (a.2.2<=(p.2.length:Int) -1))=false:=by
       rw[Xco,decide_eq_false_iff_not,decide_eq_false_iff_not];omega
      rw[mn];rfl
    .rw[if_neg hf,if_neg (show¬(x.phase=2/\0<=a.2.2/\a.2.2<p.2.length)fromλhc=>hf hc.1)]
   .rw[if_neg h2,if_neg h2];by_cases h3:a.1=3
    .rw[if_pos h3,if_pos h3];have hd:S11 true x.e=Rt.e {x with doomed:=true}:=rfl;simp only[hd,eO,show(Cm.e x.cm).2.2.1=x.cm.phase from rfl,Wat];by_cases aY:1<=x.phase/\x.phase<=4
     .rw[decide_eq_true aY.1,decide_eq_true aY.2,if_pos (show(1<=x.phase/\x.phase<=4)\/(x.phase=5/\x.cm.phase<=3)from .inl aY)];rfl
     .have mn:(decide (1<=x.phase)&&decide (x.phase<=4))=false:=by
       rw[Xco,decide_eq_false_iff_not,decide_eq_false_iff_not];omega
      rw[mn];simp only[cond_false];by_cases h5:x.phase=5
      .rw[if_pos h5];by_cases hc:x.cm.phase<=3
       .rw[if_pos hc,if_pos (show(1<=x.phase/\x.phase<=4)\/(x.phase=5/\x.cm.phase<=3)from .inr ⟨h5,hc⟩)]
       .rw[if_neg hc,if_neg (show¬((1<=x.phase/\x.phase<=4)\/(x.phase=5/\x.cm.phase<=3)) by omega)]
      .rw[if_neg h5,if_neg (show¬((1<=x.phase/\x.phase<=4)\/(x.phase=5/\x.cm.phase<=3)) by omega)]
    .rw[if_neg h3,if_neg h3]
 .rw[if_neg hb];have mn:(decide (0<=a.2.1)&&decide (a.2.1<=(w.roots.length:Int) -1))=false:=by
   rw[Xco,decide_eq_false_iff_not,decide_eq_false_iff_not];omega
  rw[mn];rfl
theorem Wg3(h:Wjw s=true):WOk s.2.1 0 (Wge s):=by
 obtain⟨h1,h2,h3,h4⟩:=Wed h;exact{
  len:=by simp[Wge]
  l4:=h2
  progs:=h4
  now:=rfl
  n0:=Xv _
  mem:=by
   show W0 (Wl6 s.1.1)=true;have:=h1.cells.len;unfold W0 Wl6;simp only[Xaf,this,decide_true,Xbf,Xh,decide_eq_true_eq,Xae];refine⟨by omega,λw hw=>?_⟩;obtain⟨v,hv,rfl⟩:=Xu.1 hw;have:=h1.cells.val v hv;rw[Wdp];unfold wd0;simp only;omega
  shelf:=⟨WrV h1.map.1 h1.map.2,h1.cnt⟩
  holds:=⟨(λh hh=>by cases hh),List.Pairwise.nil⟩
  hist:=by simp[Wge]
  histE:=λh hh=>by cases hh
  root:=λk hk=>by
   simp only[Wge,Xbp];exact{
    phase:=by simp
    tries:=by simp
    live:=λhh=>by simp at hh
    comm:=λhh=>by simp at hh
    undos:=λu hu=>by cases hu
    ul:=by simp
    rg:=by simp
    ord:=by simp}}
theorem WqZ:∀(l:List Ac) (n:Int) (w:Wo),WOk s.2.1 n w->WOk s.2.1 (n+l.length) (l.foldl (Wc2 s) w)
 | [],n,w,h=>by simpa using h
 |a::l,n,w,h=>by
  have:=WqZ l (n+1) _ (WbO (a:=a) h);rw[Xcm,List.length_cons];rw[show n+((l.length+1:Nat):Int)=n+1+l.length by omega];exact this
theorem Wkl(h:Wjw s=true):WOk s.2.1 s.2.2.length (WbU s):=by
 have:=WqZ s.2.2 0 _ (Wg3 h);rw[Int.zero_add]at this;exact this
theorem WvX{R:Type}{K0:Int->Bool->Int->Int->Int->Int->Kt->Ki->Kt->(List Y_Root)->Kab->Option R}(hl:s.2.2.length<=1000)(hN:1048576<N):
  ∀(d j n:Nat) (m:Int) (w:Wo),j+d=s.2.2.length->d<n->WOk s.2.1 m w->m+d<=90000->
  Zaw N s.2.2 s K0 n (j:Int) w.now w.token w.mem.1 w.shelf.2 w.mem.2 w.shelf.1 w.holds (w.roots.map Rt.e) w.hist=
   (λv:Wo=>K0 (s.2.2.length:Int) false v.now v.token v.mem.1 v.shelf.2 v.mem.2 v.shelf.1 v.holds (v.roots.map Rt.e) v.hist) ((s.2.2.drop j).foldl (Wc2 s) w):=by
 intro d
 induction d with
 |zero=>
  intro j n m w hj hn h hm;obtain⟨n,rfl⟩:∃n',n=n'+1:=⟨n-1,by omega⟩;have:j=s.2.2.length:=by omega
  subst this;simp only[Zaw,Wau (Xm _),cond_false,Xda,Xge]
 |succ d ih=>
  intro j n m w hj hn h hm;obtain⟨n,rfl⟩:∃n',n=n'+1:=⟨n-1,by omega⟩;have hlt:j<s.2.2.length:=by omega
  have hw:(w.now,(w.token,((w.mem.1,w.mem.2),((w.shelf.1,w.shelf.2),(w.holds,(w.roots.map Rt.e,w.hist))))))=w.e:=rfl;simp only[Zaw,Waa hlt,Wn hlt,Ws hlt,Wg (show j<4611686018427387904 by omega),cond_true,hw];rw[Wlf h (by omega) hN,Xbs hlt,Xcm];exact ih (j+1) n (m+1) _ (by omega) (by omega) (WbO h) (by omega)
theorem Wud(hb:SB s)(hN:1048576<N):Zg8 N s=ret (if Wjw s=true then(WbU s).e else d_World):=by
 unfold Zg8;rw[Wde hb hN];simp only[ret,Xc];cases hs:Wjw s with
 |false=>rfl
 |true=>
  obtain⟨h1,h2,h3,h4⟩:=Wed hs;have h0:=Wg3 hs;have nc:=Wrn s.2.1 (by omega);simp only[Xaa,cond_false,if_true];rw[Wdm h1.map.1 h1.map.2 hN,Wfi (Wls.2 h1.cells) hN];simp only[ret,Xc,nc,cond_true,WeL];have dV:=WvX (s:=s) (N:=N) (K0:=λku og fI hQ hY hZ d9 ia ib ic ie=>(some ((),((fI,(hQ,((hY,d9),((ia,hZ),(ib,(ic,ie)))))),())):Option (Unit×(Y_World×Unit)))) (by have:=hb.acts;omega) hN s.2.2.length 0 N 0 (Wge s) (by omega) (by omega) h0 (by omega);rw[WjR];have ip:((Wge s).roots.map Rt.e)=Xt s.2.1.length d_Root:=by
   unfold Wge;simp only[Xfm];rfl
  rw[ip]at dV;refine dV.trans ?_;rw[Xca];rfl
end
section
section
variable{N:Nat}{c:Cur}
theorem Wg0{b7:Int}{l8:List Int}(h8:l8.length=8):∀(n i:Nat) (c:Cur) (l:List Int),8-i<n->i<=8->WaF c->l.length=i->
  Drw (λv:Kg×Unit=>v.1.1.length=8/\v.1.2.1.length=8) (Zcf N b7 l8 (λwH gv uN cC=>(some ((uN,()),((l8,(cC,b7)),())))) n (i:Int) c l)
 |0,i,c,l,h,_,_,_=>by omega
 |n+1,i,c,l,h,hi,hc,hl=>by
  unfold Zcf;refine .bif (λh0=>?_) λh0=>.ok hc ⟨h8,?_⟩
  .have h0:(i:Int)<8:=of_decide_eq_true h0;have e:We .i64 (i:Int) 1=((i+1:Nat):Int):=Wg (by omega);simp only[e];refine(WdM 2 hc).bind λc b hc _=>.bif (λ_=>?_) λ_=>?_
   .exact(WwQ hc).bind λc v hc hv=>.bifT (Wv (by simp;omega)) (Wg0 h8 n (i+1) c _ (by omega) (by omega) hc (by simp[Xah];omega))
   .exact .bifT (Wv (by simp;omega)) (Wg0 h8 n (i+1) c _ (by omega) (by omega) hc (by simp[Xah];omega))
  .have h0:¬(i:Int)<8:=of_decide_eq_false h0;simp only;omega
theorem WsF(hN:1048576<N)(hc:WaF c):Drw (λv:Kg×Unit=>v.1.1.length=8/\v.1.2.1.length=8) (Zet N c):=by
 unfold Zet;exact(WwW hN hc).bind λc v hc hv=>(WwQ hc).bind λc w hc hw=>Wg0 hv N 0 c [] (by omega) (by omega) hc rfl
theorem WpQ(hN:1048576<N)(hc:WaF c):Drw (λv:Kg×Unit=>v.1.1.length<=100/\v.1.2.1.length<=100) (Zh8 N c):=by
 unfold Zh8;refine(WsF hN hc).bind λc t hc ht=>(Wam 16 hc).bind λc v hc hv=>.bif (λ_=>?_) λ_=>.bif (λ_=>?_) λ_=>.bif (λ_=>.ok hc (by simp only;omega)) λ_=>.bif (λ_=>?_) λ_=>.bif (λ_=>?_) λ_=>.ok hc (by simp only;omega)
 .refine .bifT (by rw[ht.1];rfl) (.ok hc ?_);simp only[Xap];omega
 .refine(Wam 8 hc).bind λc k hc hk=>?_;have hk:=hk.2 (by decide);refine .bifT (by unfold inb;rw[ht.2];simp;omega) (.ok hc ?_);simp only[Xab];omega
 .refine .bifT (by rw[ht.2];rfl) (.ok hc ?_);simp only[Xap];omega
 .refine(Wam 8 hc).bind λc k hc hk=>?_;have hk:=hk.2 (by decide);refine .bifT (by unfold inb;rw[ht.1];simp;omega) (.ok hc ?_);simp only[Xab];omega
theorem WvN{p:Pg}(h:p.1.length<=300/\p.2.length<=100/\∀x∈p.2,x.length<=200):PB p:=⟨by omega,by omega,λx hx=>by have:=h.2.2 x hx;omega⟩
theorem WtQ(hN:1048576<N)(hc:WaF c):Drw (λv:Pg×Unit=>PB v.1) (Zjg N c):=by
 unfold Zjg;refine(WdM 2 hc).bind λc b hc _=>(Wwe hN hc).bind λc p hc hp=>(Wam 10 hc).bind λc v hc hv=>.bif (λ_=>?_) λ_=>.bif (λ_=>.bif (λh0=>?_) λ_=>.ok hc (WvN hp)) λ_=>.bif (λ_=>?_) λ_=>.bif (λ_=>.ok hc ⟨by have:=hp.1;simp only;omega,by simp,by simp⟩) λ_=>.ok hc (WvN hp)
 .exact(WwA hN hc (by have:=hp.1;simp only;omega)).bind λc w hc hw=>.ok hc ⟨by simp only;omega,by have:=hp.2.1;simp only;omega,λx hx=>by have:=hp.2.2 x hx;omega⟩
 .have h0:Wb p.1.2>0:=of_decide_eq_true h0;refine(Wam (Wb p.1.2) hc).bind λc k hc hk=>?_;have hk:=hk.2 h0;unfold Wb at hk;have jk:inb k.1 p.1.2.length=true:=by unfold inb;simp;omega
  refine .bifT jk ((WwA hN hc ?_).bind λc w hc hw=>.bifT jk (.ok hc ⟨by have:=hp.1;simp only;omega,by have:=hp.2.1;simp only[Xab];omega,λx hx=>?_⟩))
  .rw[Wf (show k.1.toNat<p.1.2.length by omega)];have:=hp.2.2 _ (Xw (show k.1.toNat<p.1.2.length by omega));omega
  .rcases Xcy hx with hx|hx
   .have:=hp.2.2 x hx;omega
   .subst hx;show w.1.length<=1000;omega
 .refine .bifT (Wv (by have:=hp.2.1;simp;omega)) (.ok hc ⟨by have:=hp.1;simp only;omega,by have:=hp.2.1;simp[Xah];omega,λx hx=>?_⟩);simp[Xah]at hx;rcases hx with hx|hx
  .have:=hp.2.2 x hx;omega
  .subst hx;simp
theorem WoN{n4 aA:Int}(hm:aA<=600):∀(n i:Nat) (who:Int) (c:Cur) (l:List Ac),1000-i<n->i<=700->WaF c->l.length=i->
  Drw (λv:List Ac×Unit=>v.1.length<=700) (Zz N n4 aA (λmF xq t45 cD lY=>(some ((cD,()),(lY,())))) n who (i:Int) c l)
 |0,i,who,c,l,h,_,_,_=>by omega
 |n+1,i,who,c,l,h,hi,hc,hl=>by
  unfold Zz;refine .bif (λh0=>?_) λh0=>.ok hc (by simp only;omega);have h0:(i:Int)<aA:=of_decide_eq_true h0;have e:We .i64 (i:Int) 1=((i+1:Nat):Int):=Wg (by omega);simp only[e];have hr:∀(a:Ac),Ww (l.length+ [a].length)=true:=λa=>Wv (by simp;omega);have bd:∀(who:Int) (c:Cur) (a:Ac),WaF c->Drw (λv:List Ac×Unit=>v.1.length<=700) (Zz N n4 aA (λmF xq t45 cD lY=>(some ((cD,()),(lY,())))) n who ((i+1:Nat):Int) c (Xe l [a])):=λwho c a hc=>WoN hm n (i+1) who c _ (by omega) (by omega) hc (by simp[Xah];omega);refine(WdM 3 hc).bind λc b hc _=>.bif (λ_=>?_) λ_=>?_
  .refine(Wam n4 hc).bind λc k hc _=>(WdM 2 hc).bind λc b hc _=>.bif (λ_=>?_) λ_=>?_
   .refine(Wam 3 hc).bind λc j hc _=>(WdM 2 hc).bind λc b hc _=>.bif (λ_=>?_) λ_=>?_
    .exact(WdM 40 hc).bind λc b hc _=>.bif (λ_=>.bifT (hr _) (bd _ _ _ hc)) λ_=>.bifT (hr _) (bd _ _ _ hc)
    .exact(WdM 40 hc).bind λc b hc _=>.bif (λ_=>.bifT (hr _) (bd _ _ _ hc)) λ_=>.bifT (hr _) (bd _ _ _ hc)
   .exact(WdM 40 hc).bind λc b hc _=>.bif (λ_=>.bifT (hr _) (bd _ _ _ hc)) λ_=>.bifT (hr _) (bd _ _ _ hc)
  .refine(WdM 2 hc).bind λc b hc _=>.bif (λ_=>?_) λ_=>?_
   .refine(Wam 3 hc).bind λc j hc _=>(WdM 2 hc).bind λc b hc _=>.bif (λ_=>?_) λ_=>?_
    .exact(WdM 40 hc).bind λc b hc _=>.bif (λ_=>.bifT (hr _) (bd _ _ _ hc)) λ_=>.bifT (hr _) (bd _ _ _ hc)
    .exact(WdM 40 hc).bind λc b hc _=>.bif (λ_=>.bifT (hr _) (bd _ _ _ hc)) λ_=>.bifT (hr _) (bd _ _ _ hc)
   .exact(WdM 40 hc).bind λc b hc _=>.bif (λ_=>.bifT (hr _) (bd _ _ _ hc)) λ_=>.bifT (hr _) (bd _ _ _ hc)
theorem Ww0(hN:1048576<N){n4 aA:Int}(hm:aA<=600)(hc:WaF c):Drw (λv:List Ac×Unit=>v.1.length<=700) (Zfq N c n4 aA):=by
 unfold Zfq;exact WoN hm N 0 0 c [] (by omega) (by omega) hc rfl
structure SD(s:Sc):Prop where
 cells:s.1.1.length=8
 map:s.1.2.1.length=8
 progs:1<=s.2.1.length/\s.2.1.length<=10
 each:∀p∈s.2.1,PB p
 acts:s.2.2.length<=700
theorem WjO(hN:1048576<N){n8 cj bs:Int}{aH aX:List Int}(hm:0<=bs/\bs<=500)(jn:aH.length=8)(mP:aX.length=8)(h8:1<=n8/\n8<=4):∀(n i:Nat) (c:Cur) (l:List Pg),10-i<n->i<=4->WaF c->l.length=i->(∀p∈l,PB p)->
  Drw (λv:Sc×Unit=>SD v.1) (Zbm N 0 bs n8 cj aH aX (λyN se uO jJ=>
  ((Zb N uO (We .i64 bs (1:Int))).bind λjH=>
 ((Zfq N jH.1.1 n8 jH.2.1).bind λjI=>
 (some ((jI.1.1,()),(((aH,(aX,cj)),(jJ,jI.2.1)),())))))) n (i:Int) c l)
 |0,i,c,l,h,_,_,_,_=>by omega
 |n+1,i,c,l,h,hi,hc,hl,hx=>by
  unfold Zbm;refine .bif (λh0=>?_) λh0=>?_
  .have h0:(i:Int)<n8:=of_decide_eq_true h0;have e:We .i64 (i:Int) 1=((i+1:Nat):Int):=Wg (by omega);simp only[e,show((0:Int)==2)=false from rfl,show((0:Int)==0)=true from rfl,cond_false,cond_true];refine(WdM 3 hc).bind λc b hc _=>(Wwe hN hc).bind λc p hc hp=>.bifT (Wv (by simp;omega)) (WjO hN hm jn mP h8 n (i+1) c _ (by omega) (by omega) hc (by simp[Xah];omega) λq hq=>?_);simp[Xah]at hq;rcases hq with hq|hq
   .exact hx q hq
   .subst hq;exact WvN hp
  .have h0:¬(i:Int)<n8:=of_decide_eq_false h0;have e:We .i64 bs 1=bs+1:=Wm (by unfold I64;omega);simp only[e];refine(Wam (bs+1) hc).bind λc k hc hk=>?_;have hk:=hk.2 (by omega);refine(Ww0 (aA:=k.1) hN (by omega) hc).bind λc a hc ha=>.ok hc ⟨jn,mP,by simp only;omega,hx,ha⟩
theorem Wvj(hN:1048576<N){most:Int}(hm:0<=most/\most<=500)(hc:WaF c):Drw (λv:Sc×Unit=>SD v.1) (Zfr N c 0 most):=by
 unfold Zfr;refine(WsF hN hc).bind λc t hc ht=>(Wam 4 hc).bind λc k hc hk=>?_;have hk:=hk.2 (by decide);have e:We .i64 1 k.1=1+k.1:=Wm (by unfold I64;omega);simp only[e];exact WjO hN hm ht.1 ht.2 (by omega) N 0 c [] (by omega) (by omega) hc rfl (by simp)
theorem SD.sb{s:Sc}(h:SD s):SB s:=⟨by have:=h.cells;omega,by have:=h.map;omega,by have:=h.progs;omega,h.each,by have:=h.acts;omega⟩
theorem Wpk{b7:Cur}{b9:Int}{fH am:List Int}{aH:List Ac}(hb:WaF b7)(ca:fH.length=8)(c7:am.length=8)(jn:aH.length<=700):∀(n:Nat) (l:List Pg),20-l.length<n->l.length<=11->(∀p∈l,PB p)->
  Drw (λv:Sc×Unit=>SB v.1) (Ze7 N b7 b9 fH am aH (λgT cr=>(some ((b7,()),(((fH,(am,b9)),(cr,aH)),())))) n l)
 |0,l,h,_,_=>by omega
 |n+1,l,h,hl,hx=>by
  unfold Ze7;refine .bif (λh0=>?_) λh0=>.ok hb ⟨by simp only;omega,by simp only;omega,by simp only;omega,hx,by simp only;omega⟩;have h0:Wb l<5:=of_decide_eq_true h0;unfold Wb at h0;refine .bifT (Wv (by simp;omega)) (Wpk hb ca c7 jn n _ (by simp[Xah];omega) (by simp[Xah];omega) λq hq=>?_);simp[Xah]at hq;rcases hq with hq|hq
  .exact hx q hq
  .subst hq;exact⟨by simp,by simp,by simp⟩
theorem Wpm{du:Int}{ci bS:List Int}{cC:List Pg}(zr:ci.length=8)(vv:bS.length=8)(vC:cC.length<=11)(hx:∀p∈cC,PB p):∀(n:Nat) (c:Cur) (l:List Ac),1000-l.length<n->WaF c->l.length<=800->
  Drw (λv:Sc×Unit=>SB v.1) (Ze8 N du ci bS cC (λyO jK cE=>(some ((jK,()),(((ci,(bS,du)),(cC,cE)),())))) n c l)
 |0,c,l,h,_,_=>by omega
 |n+1,c,l,h,hc,hl=>by
  unfold Ze8;refine(Wam 2 hc).bind λc v hc hv=>?_;have hv:=hv.2 (by decide);have e:We .i64 400 v.1=400+v.1:=Wm (by unfold I64;omega);simp only[e];refine .bif (λh0=>?_) λh0=>.ok hc ⟨by simp only;omega,by simp only;omega,by simp only;omega,hx,by simp only;omega⟩;have h0:Wb l<400+v.1:=of_decide_eq_true h0;unfold Wb at h0;exact .bifT (Wv (by simp;omega)) (Wpm zr vv vC hx n c _ (by simp[Xah];omega) hc (by simp[Xah];omega))
theorem Wwt(hN:1048576<N){most:Int}(hm:0<=most/\most<=500)(hc:WaF c):Drw (λv:Sc×Unit=>SB v.1) (Zh0 N c most):=by
 unfold Zh0;refine(Wvj hN hm hc).bind λc s hc hs=>(Wam 30 hc).bind λc v hc hv=>.bif (λ_=>?_) λ_=>.bif (λ_=>?_) λ_=>.bif (λ_=>?_) λ_=>.bif (λ_=>?_) λ_=>.bif (λ_=>?_) λ_=>.ok hc hs.sb
 .exact(WpQ hN hc).bind λc t hc ht=>.ok hc ⟨ht.1,ht.2,by have:=hs.progs;simp only;omega,hs.each,by have:=hs.acts;simp only;omega⟩
 .refine(WtQ hN hc).bind λc p hc hp=>.bifT (by unfold inb;have:=hs.progs;simp;omega) (.ok hc ⟨by have:=hs.cells;simp only;omega,by have:=hs.map;simp only;omega,by have:=hs.progs;simp only[Xab];omega,λq hq=>?_,by have:=hs.acts;simp only;omega⟩);rcases Xcy hq with hq|hq
  .exact hs.each q hq
  .subst hq;exact hp
 .exact Wpk hc hs.cells hs.map hs.acts N s.1.2.1 (by omega) (by have:=hs.progs;omega) hs.each
 .exact .bifT (Wv (by have:=hs.acts;simp;omega)) (.ok hc ⟨by have:=hs.cells;simp only;omega,by have:=hs.map;simp only;omega,by have:=hs.progs;simp only;omega,hs.each,by have:=hs.acts;simp[Xah];omega⟩)
 .exact Wpm hs.cells hs.map (cC:=s.1.2.1) (by have:=hs.progs;omega) hs.each N c s.1.2.2 (by omega) hc (by have:=hs.acts;omega)
theorem Wtu{code:List Int}(h:code.length<=1048576):∃v,Zmh N code 200=ret v/\0<=v/\v<=200:=by
 unfold Zmh;have e:WkQ .i64 (Wb code) 20=((code.length/20:Nat):Int):=by
  unfold WkQ Wb;rw[Int.tdiv_eq_ediv_of_nonneg (by omega),Wva (by unfold I64;omega)];omega
 rw[e,Wm (by unfold I64;omega),show inz (20:Int)=true from rfl];simp only[cond_true,Wat];by_cases h:2+((code.length/20:Nat):Int)>200
 .rw[if_pos h];exact⟨_,rfl,by omega,by omega⟩
 .rw[if_neg h];exact⟨_,rfl,by omega,by omega⟩
end
end
section

end
section
def stl(x:Rt):Bool:=decide (x.phase=8)||((decide (x.phase=5)&&(decide (x.cm.phase=4)||decide (x.cm.phase=5)))||((decide (x.phase=6)||decide (x.phase=7))&&decide (x.fate≠0)))
def Wf3(x:Rt):Int:=if stl x=true then(if x.phase=5 then x.cm.wv else x.stamp)else 0
theorem Wb7{x:Rt}:stl x=true↔x.phase=8\/(x.phase=5/\(x.cm.phase=4\/x.cm.phase=5))\/((x.phase=6\/x.phase=7)/\x.fate≠0):=by
 unfold stl;simp only[Bool.or_eq_true,Xh,decide_eq_true_eq]
structure RX(x:Rt):Prop where
 doom:x.doomed=true->(1<=x.phase/\x.phase<=4)\/(x.phase=5/\x.cm.phase<=3)
 fate:x.phase=5->x.fate≠0
structure Stay(x y:Rt):Prop where
 tries:x.tries<=y.tries
 st:stl x=true->stl y=true/\Wf3 y=Wf3 x/\y.fate=x.fate/\y.regs=x.regs/\y.order=x.order
structure RG(w:Wo)(x:Rt)(q:Wo×Rt):Prop where
 doom:q.2.doomed=false
 fate:q.2.phase=5->q.2.fate≠0
 tries:q.2.tries=x.tries
 mem:q.1.mem=w.mem
 hist:q.1.hist=w.hist
section
variable{w:Wo}{x y z:Rt}{k:Nat}{p:Pg}{n:Int}{o:Opn}
theorem Stay.refl(x:Rt):Stay x x:=⟨Xv _,λh=>⟨h,rfl,rfl,rfl,rfl⟩⟩
theorem Stay.trans(h:Stay x y)(h':Stay y z):Stay x z:=
 ⟨Xef h.tries h'.tries,λhs=>by
  obtain⟨a,b,c,d,e⟩:=h.st hs;obtain⟨a',b',c',d',e'⟩:=h'.st a;exact⟨a',b'.trans b,c'.trans c,d'.trans d,e'.trans e⟩⟩
theorem Stay.un(h:stl x=false)(ht:x.tries<=y.tries):Stay x y:=⟨ht,λhs=>by rw[h]at hs;cases hs⟩
theorem RG.same(hd:x.doomed=false){z:Rt}(h1:z.doomed=false)(h2:z.phase≠5)(h3:z.tries=x.tries):RG w x (w,z):=⟨h1,λh=>absurd h h2,h3,rfl,rfl⟩
theorem WfB(hd:x.doomed=false):(WE x).doomed=false/\(WE x).phase≠5/\(WE x).tries=x.tries:=by
 unfold WE Wdi;split
 .exact⟨rfl,by simp,rfl⟩
 .exact⟨hd,by simp,rfl⟩
theorem Woz(hd:x.doomed=false){out:Int}(ho:out≠0):RG w x (Waz w x k out):=by
 unfold Waz Wkf;simp only;generalize (if out=2 then []else x.writes)=rows;split
 .exact⟨rfl,by simp,rfl,rfl,rfl⟩
 .exact⟨hd,λ_=>ho,rfl,rfl,rfl⟩
theorem Ws2(hd:x.doomed=false)(h5:x.phase≠5):RG w x (WdR w x):=⟨hd,λh=>absurd h h5,rfl,rfl,rfl⟩
theorem Wr7(hd:x.doomed=false)(h5:x.phase≠5):(Wc0 w x o).doomed=false/\(Wc0 w x o).phase≠5/\(Wc0 w x o).tries=x.tries:=by
 unfold Wc0;cases Wbf x.writes o.2.2.1 with
 |some v=>exact⟨hd,h5,rfl⟩
 |none=>
  simp only;generalize WZ w.mem x.rv _=b;split
  .exact WfB (x:={x with busy:=true,pb:=b}) hd
  .split
   .exact⟨hd,h5,rfl⟩
   .exact⟨hd,h5,rfl⟩
theorem WtD(hd:x.doomed=false)(h5:x.phase≠5){code:List Opn}:RG w x (WbW w x k code):=by
 unfold WbW;split
 .exact Woz hd (by omega)
 .split
  .exact Ws2 hd h5
  .exact⟨hd,λh=>absurd h h5,rfl,rfl,rfl⟩
theorem WtL(hd:x.doomed=false)(h5:x.phase≠5):RG w x (WbR w x k o):=by
 unfold WbR;cases WaS w.holds ((k:Int)+1) (WaH o).1 (WaH o).2 with
 |none=>
  obtain⟨a,b,c⟩:=WfB hd;exact⟨a,λh=>absurd h b,c,rfl,rfl⟩
 |some hs=>exact⟨hd,λh=>absurd h h5,rfl,rfl,rfl⟩
theorem Wwj(hd:x.doomed=false)(h5:x.phase≠5):RG w x (WgG w x k p):=by
 unfold WgG;split
 .exact Woz hd (by omega)
 .simp only;generalize opN p.1 x.pc=o;split
  .obtain⟨a,b,c⟩:=Wr7 (w:=w) (o:=o) hd h5;exact⟨a,λh=>absurd h b,c,rfl,rfl⟩
  .split
   .exact WtD hd h5
   .split
    .exact⟨hd,λh=>by(change (2:Int)=5 at h;omega),rfl,rfl,rfl⟩
    .split
     .exact WtL hd h5
     .repeat' split
      all_goals exact⟨hd,λh=>absurd h h5,rfl,rfl,rfl⟩
theorem Wvp(hd:x.doomed=false)(h5:x.phase≠5):RG w x (Wdd w x k):=by
 unfold Wdd
 repeat' split
 all_goals first|exact⟨hd,λh=>absurd h h5,rfl,rfl,rfl⟩|exact⟨rfl,λh=>by(change (1:Int)=5 at h;omega),rfl,rfl,rfl⟩
theorem Wq9(hd:x.doomed=false)(h5:x.phase≠5):RG w x (w,WbT x):=by
 unfold WbT;split
 .exact⟨rfl,λh=>by(change (6:Int)=5 at h;omega),rfl,rfl,rfl⟩
 .split
  .exact⟨hd,λh=>by(change (1:Int)=5 at h;omega),rfl,rfl,rfl⟩
  .exact⟨hd,λh=>absurd h h5,rfl,rfl,rfl⟩
theorem Wid(hd:x.doomed=false)(h5:x.phase≠5):RG w x (WaT w x):=by
 unfold WaT;split
 .exact Ws2 hd h5
 .exact⟨hd,λh=>by(change (4:Int)=5 at h;omega),rfl,rfl,rfl⟩
theorem Wmm(hd:x.doomed=false)(h5:x.phase≠5):RG w x (w,WaG w x):=by
 unfold WaG;split
 .simp only;split
  .exact⟨rfl,λh=>by(change (6:Int)=5 at h;omega),rfl,rfl,rfl⟩
  .exact⟨hd,λh=>absurd h h5,rfl,rfl,rfl⟩
 .exact⟨hd,λh=>by(change (1:Int)=5 at h;omega),rfl,rfl,rfl⟩
theorem Whq(m:Mm)(c:Cm):m.1<=(WC m c).1.1:=by
 have hs:∀i w,(WqI m i w).1=m.1:=λ_ _=>rfl;unfold WC WeB Wca WnZ tick;simp only
 repeat' split
 all_goals first|exact Xv _|(simp only[hs];omega)|(simp only;omega)
structure RS(w:Wo)(x:Rt)(q:Wo×Rt):Prop where
 rx:RX q.2
 stay:Stay x q.2
 clock:w.mem.1<=q.1.mem.1
 hist:∃l,q.1.hist=w.hist++l
theorem RG.rs{q:Wo×Rt}(h:RG w x q)(hs:stl x=false):RS w x q:=⟨⟨(λhd=>by rw[h.doom]at hd;cases hd),h.fate⟩,Stay.un hs (by rw[h.tries];omega),by rw[h.mem];omega,[],by rw[h.hist];simp⟩
theorem Wuy(c:Cm):Wbc c 6=6:=by unfold Wbc;rw[if_neg (by omega),if_neg (by omega)]
theorem WuG(c:Cm):Wbc c 5=5:=by unfold Wbc;rw[if_neg (by omega),if_neg (by omega)]
theorem Wpl{c:Cm}{ph:Int}(h:ph=5\/ph=6):(WP c ph).wv=c.wv/\((WP c ph).phase=c.phase\/(WP c ph).phase=ph):=by
 unfold WP;split
 .refine⟨rfl,.inr ?_⟩;show Wbc c ph=ph;rcases h with rfl|rfl
  .exact WuG c
  .exact Wuy c
 .exact⟨rfl,.inl rfl⟩
theorem WrY(hx:RX x)(h5:x.phase=5):RS w x (Was w x k):=by
 unfold Was;split
 .rename_i hd;have h3:x.cm.phase<=3:=by rcases hx.doom hd with h|h<;>omega
  have jU:stl x=false:=by rw[Xby,Ne,Wb7];omega
  split
  .exact⟨⟨(λhd=>by cases hd),λh=>by(change (6:Int)=5 at h;omega)⟩,Stay.un jU (Xv _),Xv _,[],by simp⟩
  .exact⟨⟨(λhd=>by cases hd),hx.fate⟩,Stay.un jU (Xv _),Xv _,[],by simp⟩
 .rename_i hd;have gd:x.doomed=false:=by simpa using hd
  have vD:=Whq w.mem x.cm;have hf:=hx.fate h5;simp only;refine⟨?_,?_,vD,?_⟩
  .unfold WbD Wdi;simp only;split
   .exact⟨(λhd=>by cases hd),λh=>by(change (6:Int)=5 at h;omega)⟩
   .split
    .have aY:(if x.fate=2 then(6:Int)else 7)≠5:=by split<;>omega
     exact⟨(λhd=>by(change x.doomed=true at hd;rw[gd]at hd;cases hd)),λh=>absurd h aY⟩
    .exact⟨(λhd=>by(change x.doomed=true at hd;rw[gd]at hd;cases hd)),λ_=>hf⟩
  .have mT:(WbD {x with cm:=(WC w.mem x.cm).2}).tries=x.tries:=by
    unfold WbD Wdi;simp only;split
    .rfl
    .split<;>rfl
   refine⟨by rw[mT];omega,λhs=>?_⟩;have zt:=Wb7.1 hs;have aJ:Wf3 x=x.cm.wv:=by unfold Wf3;rw[if_pos hs,if_pos h5]
   have key:(WC w.mem x.cm).2.wv=x.cm.wv/\((WC w.mem x.cm).2.phase=4\/(WC w.mem x.cm).2.phase=5\/(WC w.mem x.cm).2.phase=6):=by
    unfold WC;simp only;have e45:=zt;rcases(show x.cm.phase=4\/x.cm.phase=5 by omega)with h4|h4
    .rw[if_neg (by omega),if_neg (by omega),if_neg (by omega),if_pos h4];have:=Wpl (c:=x.cm) (ph:=5) (.inl rfl);exact⟨this.1,by show(WP x.cm 5).phase=4\/(WP x.cm 5).phase=5\/(WP x.cm 5).phase=6;omega⟩
    .rw[if_neg (by omega),if_neg (by omega),if_neg (by omega),if_neg (by omega),if_pos h4];have:=Wpl (c:=x.cm) (ph:=6) (.inr rfl);exact⟨this.1,by show(WP x.cm 6).phase=4\/(WP x.cm 6).phase=5\/(WP x.cm 6).phase=6;omega⟩
   obtain⟨k1,k2⟩:=key;rw[aJ];generalize (WC w.mem x.cm).2=c at*;unfold WbD;simp only;rw[if_neg (by omega)];by_cases h6:c.phase=6
   .rw[if_pos h6];have aY:(if x.fate=2 then(6:Int)else 7)=6\/(if x.fate=2 then(6:Int)else 7)=7:=by split<;>simp
    generalize (if x.fate=2 then(6:Int)else 7)=ph at*;have iP:stl {x with stamp:=c.wv,cm:={},phase:=ph}=true:=Wb7.2 (.inr (.inr ⟨aY,hf⟩));refine⟨iP,?_,rfl,rfl,rfl⟩;unfold Wf3;rw[if_pos iP,if_neg (by show¬ph=5;omega)];exact k1
   .rw[if_neg h6];have iP:stl {x with cm:=c}=true:=Wb7.2 (.inr (.inl ⟨h5,by show c.phase=4\/c.phase=5;omega⟩));refine⟨iP,?_,rfl,rfl,rfl⟩;unfold Wf3;rw[if_pos iP,if_pos h5];exact k1
  .split
   .exact⟨_,rfl⟩
   .exact⟨[],by simp⟩
theorem Wvu(hx:RX x)(aY:0<=x.phase/\x.phase<=8):RS w x (WY w x k p):=by
 have jU:x.phase<=4->stl x=false:=λh=>by rw[Xby,Ne,Wb7];omega
 unfold WY;by_cases hd:x.doomed=true/\1<=x.phase/\x.phase<=4
 .rw[if_pos hd];exact⟨⟨(λhd=>by cases hd),λh=>by(change (6:Int)=5 at h;omega)⟩,Stay.un (jU (by omega)) (Xv _),Xv _,[],by simp⟩
 rw[if_neg hd];have gd:x.phase≠5->x.doomed=false:=λh5=>by
  rw[Xby];intro h;rcases hx.doom h with h1|h1
  .exact hd ⟨h,h1⟩
  .exact h5 h1.1
 by_cases h0:x.phase=0
 .rw[if_pos h0];exact(Wvp (gd (by omega)) (by omega)).rs (jU (by omega))
 rw[if_neg h0];by_cases h1:x.phase=1
 .rw[if_pos h1];exact(Wwj (gd (by omega)) (by omega)).rs (jU (by omega))
 rw[if_neg h1];by_cases h2:x.phase=2
 .rw[if_pos h2];exact(Wq9 (gd (by omega)) (by omega)).rs (jU (by omega))
 rw[if_neg h2];by_cases h3:x.phase=3
 .rw[if_pos h3];exact(Wid (gd (by omega)) (by omega)).rs (jU (by omega))
 rw[if_neg h3];by_cases h4:x.phase=4
 .rw[if_pos h4];exact(Wmm (gd (by omega)) (by omega)).rs (jU (by omega))
 rw[if_neg h4];by_cases h5:x.phase=5
 .rw[if_pos h5];exact WrY hx h5
 rw[if_neg h5];have qM:=gd h5;by_cases h6:x.phase=6
 .rw[if_pos h6];have zu:∀ph,ph≠5->RX {x with phase:=ph}:=λph hp=>⟨(λhd=>by(change x.doomed=true at hd;rw[qM]at hd;cases hd)),λh=>absurd h hp⟩;by_cases hz:x.undos.length>0
  .rw[if_pos hz];refine⟨⟨(λhd=>by(change x.doomed=true at hd;rw[qM]at hd;cases hd)),λh=>absurd h h5⟩,⟨Xv _,λhs=>?_⟩,Xv _,[],by simp[WdR]⟩;have iP:stl (WdR w x).2=true:=by
    have:=Wb7.1 hs;rw[Wb7];show x.phase=8\/(x.phase=5/\_)\/((x.phase=6\/x.phase=7)/\x.fate≠0);omega
   refine⟨iP,?_,rfl,rfl,rfl⟩;unfold Wf3;rw[if_pos iP,if_pos hs];rfl
  .rw[if_neg hz];refine⟨zu 7 (by omega),⟨Xv _,λhs=>?_⟩,Xv _,[],by simp⟩;have iP:stl {x with phase:=7}=true:=by
    have:=Wb7.1 hs;exact Wb7.2 (.inr (.inr ⟨.inr rfl,by show x.fate≠0;omega⟩))
   refine⟨iP,?_,rfl,rfl,rfl⟩;unfold Wf3;rw[if_pos iP,if_pos hs,if_neg h5,if_neg (by show¬(7:Int)=5;omega)]
 rw[if_neg h6];by_cases h7:x.phase=7
 .rw[if_pos h7];by_cases hf:x.fate=0
  .rw[if_pos hf];have nf:stl x=false:=by rw[Xby,Ne,Wb7];omega
   exact⟨⟨(λhd=>by cases hd),λh=>by(change (0:Int)=5 at h;omega)⟩,Stay.un nf (by show x.tries<=x.tries+1;omega),Xv _,[],by simp⟩
  .rw[if_neg hf];refine⟨⟨(λhd=>by cases hd),λh=>by(change (8:Int)=5 at h;omega)⟩,⟨Xv _,λhs=>?_⟩,Xv _,[],by simp[Wkf]⟩;have iP:stl (Wkf {w with holds:=W1 w.holds ((k:Int)+1)} x k).2=true:=Wb7.2 (.inl rfl);refine⟨iP,?_,rfl,rfl,rfl⟩;unfold Wf3;rw[if_pos iP,if_pos hs,if_neg h5];rfl
 .rw[if_neg h7];exact⟨hx,Stay.refl x,Xv _,[],by simp⟩
end
def WX(w:Wo):Prop:=∀(i:Nat) (h:i<w.roots.length),RX w.roots[i]
structure WStay(w v:Wo):Prop where
 len:w.roots.length=v.roots.length
 root:∀(i:Nat) (h:i<w.roots.length) (h':i<v.roots.length),Stay w.roots[i] v.roots[i]
 hist:∃l,v.hist=w.hist++l
 clock:w.mem.1<=v.mem.1
section
variable{s:Sc}{w v u:Wo}{n:Int}{a:Ac}{k:Nat}
theorem WStay.refl(w:Wo):WStay w w:=⟨rfl,λi h h'=>Stay.refl _,⟨[],by simp⟩,Xv _⟩
theorem WStay.trans(h:WStay w v)(h':WStay v u):WStay w u:=by
 obtain⟨l,hl⟩:=h.hist;obtain⟨l',cM⟩:=h'.hist;exact⟨h.len.trans h'.len,λi a b=>(h.root i a (by rw[←h.len];exact a)).trans (h'.root i (by rw[←h.len];exact a) b),⟨l++l',by rw[cM,hl,List.append_assoc]⟩,Xef h.clock h'.clock⟩
theorem Wlt{q:Wo×Rt}{w0:Wo}(hx:WX w0)(hk:k<w0.roots.length)(hr:q.1.roots=w0.roots)(hq:RS w0 w0.roots[k] q):WX (Wo.put q k)/\WStay w0 (Wo.put q k):=by
 have hlen:(q.1.roots.set k q.2).length=w0.roots.length:=by rw[Xab,hr]
 refine⟨λi hi=>?_,hlen.symm,λi hi jr=>?_,hq.hist,hq.clock⟩
 .change i<(q.1.roots.set k q.2).length at hi;show RX (q.1.roots.set k q.2)[i];rw[Xaq];by_cases he:k=i
  .rw[if_pos he];exact hq.rx
  .rw[if_neg he];simp only[hr];exact hx i (by rw[←hlen];exact hi)
 .have zv:i<(q.1.roots.set k q.2).length:=jr;show Stay _ ((q.1.roots.set k q.2)[i]'zv);rw[Xaq];by_cases he:k=i
  .subst he;rw[if_pos rfl];exact hq.stay
  .rw[if_neg he];simp only[hr];exact Stay.refl _
theorem Wi0(h:WOk s.2.1 n w)(hk:k<w.roots.length):(WY {w with now:=w.now+1} w.roots[k] k (s.2.1.getD k pg0)).1.roots=w.roots:=
 (WhT (w:={w with now:=w.now+1}) (k:=k) (Wgv h.progs (by rw[←h.len];exact hk)) ⟨h.mem,h.shelf,h.holds⟩ (h.root k hk) (by have:=h.l4;have:=h.len;omega) h.n0).roots
theorem WfZ(h:WOk s.2.1 n w)(hx:WX w):WX (Wc2 s w a)/\WStay w (Wc2 s w a):=by
 have ce:WX {w with now:=w.now+1}:=hx;have mf:WStay w {w with now:=w.now+1}:=⟨rfl,λi h h'=>Stay.refl _,⟨[],by simp⟩,Xv _⟩;unfold Wc2;simp only;split
 .rename_i hb;have hk:a.2.1.toNat<w.roots.length:=by omega
  rw[Wf hk];have tz:=hx _ hk;split
  .unfold Wi5;rw[Wf (show a.2.1.toNat<({w with now:=w.now+1}:Wo).roots.length from hk)];obtain⟨c,d⟩:=Wlt (w0:={w with now:=w.now+1}) ce hk (Wi0 h hk) (Wvu tz (h.root _ hk).phase);exact⟨c,mf.trans d⟩
  .split
   .split
    .rename_i hf;have aY:=hf.1;obtain⟨c,d⟩:=Wlt (w0:={w with now:=w.now+1}) (q:=({w with now:=w.now+1},{w.roots[a.2.1.toNat]with fam:=Wcy w.mem w.roots[a.2.1.toNat].fam a.2.2.toNat ((s.2.1.getD a.2.1.toNat pg0).2.getD a.2.2.toNat [])})) ce hk rfl
      ⟨⟨tz.doom,tz.fate⟩,Stay.un (by rw[Xby,Ne,Wb7,aY];omega) (Xv _),Xv _,[],by simp⟩
     exact⟨c,mf.trans d⟩
    .exact⟨ce,mf⟩
   .split
    .split
     .rename_i hf;have nf:stl w.roots[a.2.1.toNat]=false:=by rw[Xby,Ne,Wb7];omega
      obtain⟨c,d⟩:=Wlt (w0:={w with now:=w.now+1}) (q:=({w with now:=w.now+1},{w.roots[a.2.1.toNat]with doomed:=true})) ce hk rfl
       ⟨⟨λ_=>hf,tz.fate⟩,Stay.un nf (Xv _),Xv _,[],by simp⟩
      exact⟨c,mf.trans d⟩
     .exact⟨ce,mf⟩
    .exact⟨ce,mf⟩
 .exact⟨ce,mf⟩
theorem WiD:∀(l:List Ac) (n:Int) (w:Wo),WOk s.2.1 n w->WX w->WX (l.foldl (Wc2 s) w)/\WStay w (l.foldl (Wc2 s) w)
 | [],n,w,h,hx=>⟨hx,WStay.refl w⟩
 |a::l,n,w,h,hx=>by
  obtain⟨c,d⟩:=WfZ (a:=a) h hx;obtain⟨e,f⟩:=WiD l (n+1) _ (WbO (a:=a) h) c;exact⟨e,d.trans f⟩
theorem Wwv:WX (Wge s):=λi h=>by
 simp only[Wge,Xbp];exact⟨(λhd=>by cases hd),λh=>by(change (0:Int)=5 at h;omega)⟩
end
end
section
theorem WqB(m:Int)(b:Nat):m.tdiv b=if 0<=m then((m.natAbs/b:Nat):Int)else-((m.natAbs/b:Nat):Int):=by
 split
 .rename_i h;obtain⟨n,rfl⟩:=Xcq h;rfl
 .rename_i h;obtain⟨n,hn⟩:=Xcq (show 0<= -m by omega);have:m= -(n:Int):=by omega
  subst this;rw[Int.neg_tdiv,Int.natAbs_neg];rfl
theorem Wqd(m:Int)(b:Nat):m.tmod b=if 0<=m then((m.natAbs%b:Nat):Int)else-((m.natAbs%b:Nat):Int):=by
 split
 .rename_i h;obtain⟨n,rfl⟩:=Xcq h;rfl
 .rename_i h;obtain⟨n,hn⟩:=Xcq (show 0<= -m by omega);have:m= -(n:Int):=by omega
  subst this;rw[Int.neg_tmod,Int.natAbs_neg];rfl
def Whb:Nat->Nat->List Int
 |0,_=>[]
 |f+1,m=>if m=0 then []else(48+(m%10:Nat):Int)::Whb f (m/10)
theorem WhM:∀(f m:Nat),(Whb f m).length<=f
 |0,_=>by simp[Whb]
 |f+1,m=>by
  rw[Whb];split
  .simp
  .have:=WhM f (m/10);simp;omega
theorem WmD:∀f,Whb f 0= []
 |0=>rfl
 |f+1=>by simp[Whb]
theorem WvK{n:Int}(h:0<=n/\n<=255):IntKind.wrap .u8 n=n:=by
 show(if(false&&decide (n%256>=128))=true then n%256-256 else n%256)=n;simp only[Bool.false_and,Bool.false_eq_true,if_false];omega
theorem Wrs:inz 10=true:=rfl
theorem Wnv{a b:List UInt8}(h:a.length+b.length<=1000000000000):Wet a b=true:=by
 unfold Wet;have:IntKind.i64.max=9223372036854775807:=rfl;rw[this];simp only[Bool.not_eq_true',decide_eq_false_iff_not];omega
theorem Wg7{m:Int}(hm:I64 m)(h0:m≠0):
  WkQ .i64 m 10=(if 0<=m then((m.natAbs/10:Nat):Int)else-((m.natAbs/10:Nat):Int))/\
  (decide (Wd5 m 10<0)=true->IntKind.wrap .u8 (We .i64 48 (WU .i64 0 (Wd5 m 10)))=48+((m.natAbs%10:Nat):Int))/\
  (decide (Wd5 m 10<0)=false->IntKind.wrap .u8 (We .i64 48 (Wd5 m 10))=48+((m.natAbs%10:Nat):Int)):=by
 have e1:=WqB m 10;have e2:=Wqd m 10;have hI:∀d:Int,0<=d/\d<=9->IntKind.wrap .u8 (We .i64 48 d)=48+d:=λd hd=>by
  rw[Wm (by unfold I64;omega),WvK (by omega)]
 have hr:Wd5 m 10=m.tmod (10:Nat):=rfl;have hq:WkQ .i64 m 10=IntKind.wrap .i64 (m.tdiv (10:Nat)):=rfl;have hlt:m.natAbs%10<10:=Nat.mod_lt _ (by omega);refine⟨?_,λh=>?_,λh=>?_⟩
 .rw[hq,e1];refine wrap_i64 ?_;unfold I64 at*;split<;>omega
 .rw[hr,e2]at h⊢;simp only[decide_eq_true_eq]at h;split at h
  .omega
  .rename_i hn;rw[if_neg hn,W4 (by unfold I64;omega),hI _ (by omega)];omega
 .rw[hr,e2]at h⊢;simp only[decide_eq_false_iff_not]at h;split at h
  .rename_i hn;rw[if_pos hn,hI _ (by omega)]
  .rename_i hn;rw[if_neg hn,hI _ (by omega)];omega
def sgn(neg:Bool)(n:Nat):Int:=bif neg then-(n:Int)else(n:Int)
theorem WgS(neg:Bool)(n:Nat):(sgn neg n).natAbs=n:=by cases neg<;>simp[sgn]
theorem Ws0{neg:Bool}{n:Nat}(hn:n<=9223372036854775808)(h0:n≠0)(hI:I64 (sgn neg n)):WkQ .i64 (sgn neg n) 10=sgn neg (n/10):=by
 have h:=(Wg7 hI (by cases neg<;>simp[sgn]<;>omega)).1;rw[h,WgS];cases neg
 .simp[sgn]
 .have:¬(0<=sgn true n):=by simp[sgn];omega
  rw[if_neg this];rfl
theorem WsR{neg:Bool}{n:Nat}(h:I64 (sgn neg n)):I64 (sgn neg (n/10)):=by
 have:=Nat.div_le_self n 10;unfold I64 sgn at*;cases neg<;>simp at* <;>omega
theorem Wka(N:Nat){R:Type}(b neg:Bool)(K:Int->List UInt8->Bool->Option R):∀(f n m:Nat) (out:List UInt8),m<10^f->f<=20->f<n->out.length+f<=1000->I64 (sgn neg m)->
  Zfx N b K n (sgn neg m) out=K 0 (WcB (Whb f m).reverse++out) false
 |f,0,m,out,_,_,h,_,_=>by omega
 |0,n+1,m,out,h,_,_,_,_=>by
  have:m=0:=by simpa using h
  subst this;cases neg<;>rfl
 |f+1,n+1,m,out,h,hf,hn,ho,hI=>by
  rw[Zfx];by_cases hm:m=0
  .subst hm;rw[WmD];cases neg<;>rfl
  .have hne:sgn neg m≠0:=by cases neg<;>simp[sgn]<;>omega
   have e0:(sgn neg m !=0)=true:=by simp[hne]
   have vE:m<=9223372036854775808:=by unfold I64 sgn at hI;cases neg<;>simp at hI<;>omega
   obtain⟨_,h1,h2⟩:=Wg7 hI hne;rw[WgS]at h1 h2;have hlt:m/10<10^f:=by rw[Nat.pow_succ]at h;omega
   have e4:WcB (Whb (f+1) m).reverse++out=WcB (Whb f (m/10)).reverse++(WcB [48+((m%10:Nat):Int)]++out):=by
    rw[Whb,if_neg hm,List.reverse_cons];simp[WcB]
   have hs:Wet (WcB [48+((m%10:Nat):Int)]) out=true:=Wnv (by simp[WcB];omega);have ih:=Wka N b neg K f n (m/10) (WcB [48+((m%10:Nat):Int)]++out) hlt (by omega) (by omega) (by simp[WcB];omega) (WsR hI);rw[e0,e4];simp only[cond_true,Wrs,Ws0 vE hm hI];cases hd:decide (Wd5 (sgn neg m) 10<0)with
   |true=>
    simp only[cond_true,h1 hd,hs];exact ih
   |false=>
    simp only[cond_false,h2 hd,hs,cond_true];exact ih
theorem Wj8(N:Nat){R:Type}(n0:Int)(neg:Bool)(K:Int->Bool->List Int->Option R):∀(f n m:Nat) (l:List Int),m<10^f->f<=20->f<n->l.length+f<=1000->I64 (sgn neg m)->
  Zfu N n0 K n (sgn neg m) l=K 0 false (l++Whb f m)
 |f,0,m,l,_,_,h,_,_=>by omega
 |0,n+1,m,l,h,_,_,_,_=>by
  have:m=0:=by simpa using h
  subst this;rw[Whb,Xcn];cases neg<;>rfl
 |f+1,n+1,m,l,h,hf,hn,ho,hI=>by
  rw[Zfu];by_cases hm:m=0
  .subst hm;rw[WmD,Xcn];cases neg<;>rfl
  .have hne:sgn neg m≠0:=by cases neg<;>simp[sgn]<;>omega
   have e0:(sgn neg m !=0)=true:=by simp[hne]
   have vE:m<=9223372036854775808:=by unfold I64 sgn at hI;cases neg<;>simp at hI<;>omega
   obtain⟨_,h1,h2⟩:=Wg7 hI hne;rw[WgS]at h1 h2;have hlt:m/10<10^f:=by rw[Nat.pow_succ]at h;omega
   have e4:l++Whb (f+1) m=(Xe l [48+((m%10:Nat):Int)])++Whb f (m/10):=by
    rw[Whb,if_neg hm];show l++_=(l++_)++_;simp
   have hs:∀d:Int,Ww (l.length+ [d].length)=true:=λd=>Wv (by simp;omega);have ih:=Wj8 N n0 neg K f n (m/10) (Xe l [48+((m%10:Nat):Int)]) hlt (by omega) (by omega) (by show(l++_).length+f<=1000;simp;omega) (WsR hI);rw[e0,e4];simp only[cond_true,Wrs,Ws0 vE hm hI,hs];cases hd:decide (Wd5 (sgn neg m) 10<0)with
   |true=>
    simp only[cond_true,h1 hd];exact ih
   |false=>
    simp only[cond_false,h2 hd];exact ih
structure Half(l:List Int)(i:Nat)(m:List Int):Prop where
 len:m.length=l.length
 out:∀k,k<l.length->(k<i\/l.length<=k+i)->m[k]?=l[l.length-1-k]?
 inn:∀k,i<=k->k+i<l.length->m[k]?=l[k]?
theorem Wr4{l m:List Int}{i:Nat}(h:Half l i m)(hi:l.length<=2*i+1):m=l.reverse:=by
 apply List.ext_getElem?;intro k;by_cases hk:k<l.length
 .rw[List.getElem?_reverse hk];by_cases h2:k<i\/l.length<=k+i
  .exact h.out k hk h2
  .rw[h.inn k (by omega) (by omega)];congr 1;omega
 .rw[Xbe (by rw[h.len];omega),Xbe (by rw[List.length_reverse];omega)]
theorem WsN{l m:List Int}{i:Nat}(h:Half l i m)(hi:2*i+1<l.length):Half l (i+1) ((m.set i (m.getD (l.length-1-i) 0)).set (l.length-1-i) (m.getD i 0)):=by
 have hlen:=h.len;refine⟨by simp[hlen],λk hk hor=>?_,λk h1 h2=>?_⟩
 .rw[Xfo,Xfo];have g1:m.getD i 0=l[i]:=by
   have:=h.inn i (Xm _) (by omega);rw[Xay,this,Xp (by omega)];rfl
  have g2:m.getD (l.length-1-i) 0=l[l.length-1-i]:=by
   have:=h.inn (l.length-1-i) (by omega) (by omega);rw[Xay,this,Xp (by omega)];rfl
  rw[g1,g2];by_cases e1:l.length-1-i=k
  .subst e1;rw[if_pos rfl,if_pos (by simp[hlen];omega)];have:l.length-1-(l.length-1-i)=i:=by omega
   rw[this,Xp (by omega)]
  .rw[if_neg e1];by_cases e2:i=k
   .subst e2;rw[if_pos rfl,if_pos (by omega),Xp (by omega)]
   .rw[if_neg e2];exact h.out k hk (by omega)
 .rw[Xez (by omega),Xez (by omega)];exact h.inn k (by omega) (by omega)
theorem Wuv(N:Nat){R:Type}(l:List Int)(hl:l.length<=1000)(K:List Int->Option R):∀(n i:Nat) (m:List Int),Half l i m->l.length+1<n+i+i->i<=l.length->(0<i->2*i<=l.length+1)->
  Zfv N (λ_ _ _ l=>K l) n (i:Int) (((l.length:Int) -1) -(i:Int)) m=K l.reverse
 |0,i,m,h,h1,_,h3=>by omega
 |n+1,i,m,h,h1,h2,h3=>by
  rw[Zfv];by_cases hi:2*i+1<l.length
  .have e1:decide ((i:Int)<((l.length:Int) -1) -(i:Int))=true:=by simp;omega
   have ej:((l.length:Int) -1) -(i:Int)=((l.length-1-i:Nat):Int):=by omega
   have hlen:=h.len;rw[e1,ej];simp only[cond_true,W3,Xj,Xab,hlen];have d1:decide (l.length-1-i<l.length)=true:=by simp;omega
   have d2:decide (i<l.length)=true:=by simp;omega
   have e3:WU .i64 ((l.length-1-i:Nat):Int) 1=((l.length:Int) -1) -((i+1:Nat):Int):=by
    rw[W4 (by unfold I64;omega)];omega
   rw[d1,d2,Wg (by omega),e3];simp only[cond_true];exact Wuv N l hl K n (i+1) _ (WsN h hi) (by omega) (by omega) (by omega)
  .have e1:decide ((i:Int)<((l.length:Int) -1) -(i:Int))=false:=by simp;omega
   rw[e1];simp only[cond_false];rw[Wr4 h (by omega)]
def WpV(n:Int):List UInt8:=if n=0 then [48]else(if n<0 then [45]else [])++WcB (Whb 20 n.natAbs).reverse
theorem WdC(n:Int):(WpV n).length<=30:=by
 have:=WhM 20 n.natAbs;unfold WpV;split
 .simp
 .split<;>simp[WcB]<;>omega
theorem WbB{N:Nat}{n:Int}(hn:I64 n)(hN:100<N):Zdm N n=ret (WpV n):=by
 unfold Zdm WpV;by_cases h0:n=0
 .subst h0;rfl
 .have e0:(n==0)=false:=by simpa using h0
  have hs:n=sgn (decide (n<0)) n.natAbs:=by
   unfold sgn;by_cases h:n<0<;>simp[h]<;>omega
  have hb:n.natAbs<10^20:=by unfold I64 at hn;omega
  have key:=λ{R:Type} (K:Int->List UInt8->Bool->Option R)=>Wka N (decide (n<0)) (decide (n<0)) K 20 N n.natAbs [] hb (by omega) (by omega) (by simp) (by rw[←hs];exact hn);rw[←hs]at key;rw[e0,if_neg h0];simp only[cond_false];rw[key];have hl:=WhM 20 n.natAbs;by_cases h:n<0
  .have:Wet [45] (WcB (Whb 20 n.natAbs).reverse)=true:=Wnv (by simp[WcB];omega);simp[h,this]
  .simp[h]
theorem WbA{N:Nat}{n:Int}(hn:I64 n)(hN:150<N):Zdl N n=ret (WpV n):=by
 unfold Zdl WpV;by_cases h0:n=0
 .subst h0;rfl
 .have e0:(n==0)=false:=by simpa using h0
  have hs:n=sgn (decide (n<0)) n.natAbs:=by
   unfold sgn;by_cases h:n<0<;>simp[h]<;>omega
  have hb:n.natAbs<10^20:=by unfold I64 at hn;omega
  have key:=λ{R:Type} (K:Int->Bool->List Int->Option R)=>Wj8 N n (decide (n<0)) K 20 N n.natAbs [] hb (by omega) (by omega) (by simp) (by rw[←hs];exact hn);rw[←hs]at key;rw[e0,if_neg h0];simp only[cond_false];rw[key];have hl:=WhM 20 n.natAbs;have rv:=λ(l:List Int) (hl:l.length<=100)=>Wuv N l (by omega) (λl=>(some ((),(WcB l,())):Option (Unit×(List UInt8×Unit)))) N 0 l ⟨rfl,λk hk h=>by omega,λk _ _=>rfl⟩ (by omega) (by omega) (by omega);by_cases h:n<0
  .have e1:decide (n<0)=true:=by simpa using h
   have e2:Xe ([]++Whb 20 n.natAbs) [(45:Int)]=Whb 20 n.natAbs++ [45]:=by simp
   have e3:Ww (([]++Whb 20 n.natAbs).length+ [(45:Int)].length)=true:=Wv (by simp;omega);have hr:=rv (Whb 20 n.natAbs++ [45]) (by simp;omega);have e4:WU .i64 (Wb (Whb 20 n.natAbs++ [45])) 1=(((Whb 20 n.natAbs++ [45]).length:Int) -1) -((0:Nat):Int):=by
    rw[W4 (by unfold I64 Wb;simp;omega)];simp[Wb]
   rw[e1,e3,e2,e4];simp only[cond_true];refine hr.trans ?_;rw[if_pos h,List.reverse_append];rfl
  .have e1:decide (n<0)=false:=by simpa using h
   have hr:=rv (Whb 20 n.natAbs) (by omega);have e4:WU .i64 (Wb ([]++Whb 20 n.natAbs)) 1=(((Whb 20 n.natAbs).length:Int) -1) -((0:Nat):Int):=by
    rw[W4 (by unfold I64 Wb;simp;omega)];simp[Wb]
   rw[e1,e4];simp only[cond_false,List.nil_append];refine hr.trans ?_;rw[if_neg h];rfl
end
section
section
variable{N:Nat}{s:Sc}{p:Pg}{w:Wo}{n:Int}{a:Ac}{k:Nat}
theorem Wui{R:Type}{K0:Int->Bool->Int->Int->Int->Int->Kt->Ki->Kt->(List Y_Root)->Kab->Option R}(hl:s.2.2.length<=1000)(hN:1048576<N):
  ∀(d j n:Nat) (m:Int) (w:Wo),j+d=s.2.2.length->d<n->WOk s.2.1 m w->m+d<=90000->
  Zbe N s.2.2 s K0 n (j:Int) w.now w.token w.mem.1 w.shelf.2 w.mem.2 w.shelf.1 w.holds (w.roots.map Rt.e) w.hist=
   (λv:Wo=>K0 (s.2.2.length:Int) false v.now v.token v.mem.1 v.shelf.2 v.mem.2 v.shelf.1 v.holds (v.roots.map Rt.e) v.hist) ((s.2.2.drop j).foldl (Wc2 s) w):=by
 intro d
 induction d with
 |zero=>
  intro j n m w hj hn h hm;obtain⟨n,rfl⟩:∃n',n=n'+1:=⟨n-1,by omega⟩;have:j=s.2.2.length:=by omega
  subst this;simp only[Zbe,Wau (Xm _),cond_false,Xda,Xge]
 |succ d ih=>
  intro j n m w hj hn h hm;obtain⟨n,rfl⟩:∃n',n=n'+1:=⟨n-1,by omega⟩;have hlt:j<s.2.2.length:=by omega
  have hw:(w.now,(w.token,((w.mem.1,w.mem.2),((w.shelf.1,w.shelf.2),(w.holds,(w.roots.map Rt.e,w.hist))))))=w.e:=rfl;simp only[Zbe,Waa hlt,Wn hlt,Ws hlt,Wg (show j<4611686018427387904 by omega),cond_true,hw];rw[Wlf h (by omega) hN,Xbs hlt,Xcm];exact ih (j+1) n (m+1) _ (by omega) (by omega) (WbO h) (by omega)
theorem Ws1(hb:SB s)(hN:1048576<N):Zkf N s=ret (if Wjw s=true then(WbU s).e else d_World):=by
 unfold Zkf;rw[Wde hb hN];simp only[ret,Xc];cases hs:Wjw s with
 |false=>rfl
 |true=>
  obtain⟨h1,h2,h3,h4⟩:=Wed hs;have h0:=Wg3 hs;have nc:=Wrn s.2.1 (by omega);simp only[Xaa,cond_false,if_true];rw[Wdm h1.map.1 h1.map.2 hN,Wfi (Wls.2 h1.cells) hN];simp only[ret,Xc,nc,cond_true,WeL];have dV:=Wui (s:=s) (N:=N) (K0:=λku og fI hQ hY hZ d9 ia ib ic ie=>(some ((),((fI,(hQ,((hY,d9),((ia,hZ),(ib,(ic,ie)))))),())):Option (Unit×(Y_World×Unit)))) (by have:=hb.acts;omega) hN s.2.2.length 0 N 0 (Wge s) (by omega) (by omega) h0 (by omega);rw[WjR];have ip:((Wge s).roots.map Rt.e)=Xt s.2.1.length d_Root:=by
   unfold Wge;simp only[Xfm];rfl
  rw[ip]at dV;refine dV.trans ?_;rw[Xca];rfl
end
variable{N:Nat}{s:Sc}{w:Wo}{n:Int}{a:Ac}
end
section
def lkA(c:Cm)(j:Nat):Prop:=(c.phase=1/\(j:Int)<c.pos)\/c.phase=2\/c.phase=3\/c.phase=4\/(c.phase=5/\c.pos<=j)\/(c.phase=7/\(j:Int)<=c.pos)
def lkd(c:Cm)(i:Int):Prop:=∃(j:Nat) (h:j<c.puts.length),c.puts[j].1=i/\lkA c j
def owner(m:Mm)(i:Int):Int:=(WO m i).2.2
structure CmLk(m:Mm)(c:Cm):Prop where
 own:∀i,0<=i->i<=7->(owner m i=c.who↔lkd c i)
 ver:c.phase=3\/c.phase=4\/c.phase=5->c.wv<=m.1/\∀i,lkd c i->(WO m i).2.1<=c.wv
section
variable{m:Mm}{c c':Cm}{i j:Int}{w:Wd}
theorem WeS(hm:W0 m=true)(hi:0<=i/\i<=7)(hj:0<=j/\j<=7):WO (WqI m i w) j=if j=i then w else WO m j:=by
 have h8:=(WB hm).1;unfold WO WqI Wnl Wce;simp only;rw[Wf (show j.toNat<(m.2.set i.toNat w).length by rw[Xab];omega),Xaq];by_cases h:j=i
 .subst h;rw[if_pos rfl,if_pos rfl]
 .rw[if_neg (by omega),if_neg h,Wf (show j.toNat<m.2.length by omega)]
theorem WeI(hp:c'.puts=c.puts)(h:∀j:Nat,j<c.puts.length->(lkA c' j↔lkA c j)):lkd c' i↔lkd c i:=by
 unfold lkd;rw[hp];exact⟨λ⟨j,hj,a,b⟩=>⟨j,hj,a,(h j hj).1 b⟩,λ⟨j,hj,a,b⟩=>⟨j,hj,a,(h j hj).2 b⟩⟩
theorem Wtt(h:CmOk c){a b:Nat}(ha:a<c.puts.length)(hb:b<c.puts.length)(e:c.puts[a].1=c.puts[b].1):a=b:=by
 have hp:=List.pairwise_iff_getElem.1 h.pup;rcases Nat.lt_trichotomy a b with h1|h1|h1
 .have:=hp a b ha hb h1;omega
 .exact h1
 .have:=hp b a hb ha h1;omega
theorem CmLk.same(h:CmLk m c)(hp:c'.puts=c.puts)(hw:c'.who=c.who)(hv:c'.wv=c.wv)(ha:∀j:Nat,j<c.puts.length->(lkA c' j↔lkA c j))(aY:c'.phase=3\/c'.phase=4\/c'.phase=5->c.phase=3\/c.phase=4\/c.phase=5):CmLk m c':=
 ⟨λi h0 h7=>by rw[hw,h.own i h0 h7,WeI hp ha],λh3=>by
  obtain⟨a,b⟩:=h.ver (aY h3);rw[hv];exact⟨a,λi hi=>b i ((WeI hp ha).1 hi)⟩⟩
theorem Wlo(n:Int)(j:Nat)(hn:0<=n):lkA (Wal c n) j↔(j:Int)<n:=by
 by_cases h:n=0
 .have:Wal c n={c with phase:=8,pos:=0}:=by unfold Wal;rw[if_pos h]
  rw[this];unfold lkA;simp only;omega
 .have:Wal c n={c with phase:=7,pos:=n-1}:=by unfold Wal;rw[if_neg h]
  rw[this];unfold lkA;simp only;constructor
  .intro hz;omega
  .intro hz;right;right;right;right;right;exact⟨trivial,by omega⟩
theorem Wcm(c:Cm)(ph:Int):(WP c ph).puts=c.puts/\(WP c ph).who=c.who/\(WP c ph).wv=c.wv:=by
 unfold WP Wdy;split<;>exact⟨rfl,rfl,rfl⟩
theorem Wcn(c:Cm)(n:Int):(Wal c n).puts=c.puts/\(Wal c n).who=c.who/\(Wal c n).wv=c.wv:=by
 unfold Wal;split<;>exact⟨rfl,rfl,rfl⟩
theorem Wnz(c:Cm)(n:Int):(Wal c n).phase=7\/(Wal c n).phase=8:=by unfold Wal;split<;>simp
theorem WjG(m:Mm)(c:Cm):(WC m c).2.who=c.who:=by
 unfold WC;simp only;have h1:=λph=>(Wcm c ph).2.1;have h2:=λn=>(Wcn c n).2.1
 repeat' split
 all_goals first|exact h1 _|exact h2 _|rfl
theorem WsB(h:CmOk c)(hm:W0 m=true)(hc:CmLk m c):CmLk (WC m c).1 (WC m c).2:=by
 have bN:=h.pos;have aJ:c.phase=1\/c.phase=4\/c.phase=5\/c.phase=7->c.steps=c.puts.length:=λhp=>by unfold Cm.steps;rw[if_pos hp]
 have hw:=h.who;have fz:∀n:Int,0<=n->(∀j:Nat,j<c.puts.length->((j:Int)<n↔lkA c j))->CmLk m (Wal c n):=λn h0 hn=>by
  obtain⟨p1,p2,p3⟩:=Wcn c n;refine hc.same p1 p2 p3 (λj hj=>by rw[Wlo n j h0];exact hn j hj) λh3=>?_;rcases Wnz c n with h|h<;>omega
 unfold WC;simp only;by_cases h1:c.phase=1
 .rw[if_pos h1];obtain⟨j,hj,e1,e2,e3,e4⟩:=h.put (by omega);have hs:=aJ (by omega);rw[e2];by_cases ho:(WO m c.puts[j].1).2.2=0
  .rw[if_pos ho];obtain⟨p1,p2,p3⟩:=Wcm c 2;have aY:∀l:Nat,l<c.puts.length->(lkA (WP c 2) l↔lkA c l\/l=j):=λl hl=>by
    unfold WP;by_cases iO:c.pos+1=c.steps
    .rw[if_pos iO];have:(Wdy c 2).phase=2:=by show Wbc c 2=2;unfold Wbc;rw[if_neg (by omega),if_neg (by omega)]
     unfold lkA;rw[this];omega
    .rw[if_neg iO];unfold lkA;simp only;omega
   refine⟨λi h0 h7=>?_,λh3=>?_⟩
   .rw[p2];have hcl:=hc.own i h0 h7;unfold owner WnZ at*;rw[WeS hm e3 ⟨h0,h7⟩];by_cases hi:i=c.puts[j].1
    .rw[if_pos hi];refine⟨λ_=>⟨j,by rw[p1];exact hj,by simp only[p1];exact hi.symm,(aY j hj).2 (.inr rfl)⟩,λ_=>rfl⟩
    .rw[if_neg hi,hcl];refine⟨λ⟨l,hl,a,b⟩=>⟨l,by rw[p1];exact hl,by simp only[p1];exact a,(aY l hl).2 (.inl b)⟩,λ⟨l,hl,a,b⟩=>?_⟩;simp only[p1]at hl a;rcases(aY l hl).1 b with b|b
     .exact⟨l,hl,a,b⟩
     .subst b;exact absurd a.symm hi
   .exfalso;have m7:(WP c 2).phase=1\/(WP c 2).phase=2:=by
     unfold WP;split
     .right;show Wbc c 2=2;unfold Wbc;rw[if_neg (by omega),if_neg (by omega)]
     .left;exact h1
    change (WP c 2).phase=3\/(WP c 2).phase=4\/(WP c 2).phase=5 at h3;omega
  .rw[if_neg ho];exact fz _ (by omega) λl hl=>by unfold lkA;omega
 rw[if_neg h1];by_cases h2:c.phase=2
 .rw[if_pos h2];have ht:=Wns hm;by_cases hz:(tick m).2=0
  .rw[if_pos hz,ht.2.2.2.2 hz];exact fz _ (by omega) λl hl=>by unfold lkA;omega
  .rw[if_neg hz];obtain⟨t1,t2⟩:=ht.2.2.2.1 hz;have aK:∀i,WO (tick m).1 i=WO m i:=λi=>by rw[t2];rfl
   have aY:∀l:Nat,l<c.puts.length->(lkA (Wdy {c with wv:=(tick m).2} 3) l↔lkA c l):=λl hl=>by
    have eR:c.puts.length≠0:=by omega
    change l<c.puts.length at hl;have:(Wdy {c with wv:=(tick m).2} 3).phase=3\/(Wdy {c with wv:=(tick m).2} 3).phase=4:=by
     show Wbc {c with wv:=(tick m).2} 3=3\/Wbc {c with wv:=(tick m).2} 3=4;unfold Wbc;rw[if_neg (λhz=>eR hz.2)];split<;>simp
    unfold lkA;omega
   refine⟨λi h0 h7=>?_,λh3=>⟨by show(tick m).2<=(tick m).1.1;rw[t2];simp only;omega,λi hi=>?_⟩⟩
   .unfold owner;rw[aK];exact(hc.own i h0 h7).trans (WeI (c':=Wdy {c with wv:=(tick m).2} 3) (c:=c) rfl aY).symm
   .rw[aK];obtain⟨l,hl,a,b⟩:=hi;change l<c.puts.length at hl;change c.puts[l].1=i at a;have hr:=h.rows _ (Xw hl);have hcl:=Wdp.1 (We5 hm hr.1);rw[←a];show(WO m c.puts[l].1).2.1<=(tick m).2;omega
 rw[if_neg h2];by_cases h3:c.phase=3
 .rw[if_pos h3];split
  .exact fz _ (by omega) λl hl=>by unfold lkA;omega
  .obtain⟨p1,p2,p3⟩:=Wcm c 4;refine hc.same p1 p2 p3 (λl hl=>?_) λ_=>.inl h3;unfold WP;split
   .have:(Wdy c 4).phase=4:=by show Wbc c 4=4;unfold Wbc;rw[if_neg (λhz=>by have:=hz.2;omega),if_neg (by omega)]
    show lkA (Wdy c 4) l↔lkA c l;unfold lkA;omega
   .unfold lkA;simp only;omega
 rw[if_neg h3];by_cases h4:c.phase=4
 .rw[if_pos h4];obtain⟨j,hj,e1,e2,e3,e4⟩:=h.put (by omega);have hs:=aJ (by omega);rw[e2];obtain⟨p1,p2,p3⟩:=Wcm c 5;have aK:∀i,0<=i->i<=7->(WO (WeB m c.puts[j].1 c.who c.puts[j].2) i).2=(WO m i).2:=λi h0 h7=>by
   unfold WeB;split
   .rw[WeS hm e3 ⟨h0,h7⟩];split
    .rename_i hi;rw[hi]
    .rfl
   .rfl
  have aY:∀l:Nat,l<c.puts.length->(lkA (WP c 5) l↔lkA c l):=λl hl=>by
   unfold WP;split
   .have:(Wdy c 5).phase=5/\(Wdy c 5).pos=0:=⟨WuG c,rfl⟩;unfold lkA;omega
   .unfold lkA;simp only;omega
  refine⟨λi h0 h7=>?_,λ_=>?_⟩
  .unfold owner;rw[aK i h0 h7,p2,WeI p1 aY];exact hc.own i h0 h7
  .obtain⟨v1,v2⟩:=hc.ver (.inr (.inl h4));rw[p3];refine⟨by unfold WeB;split<;>exact v1,λi hi=>?_⟩;have jr:=(WeI p1 aY).1 hi;obtain⟨l,hl,a,b⟩:=jr;have hr:=h.rows _ (Xw hl);rw[aK i (by omega) (by omega)];exact v2 i ⟨l,hl,a,b⟩
 rw[if_neg h4];have sE:∀(ver:Int) (j:Nat) (hj:j<c.puts.length),0<=c.puts[j].1/\c.puts[j].1<=7->lkA c j->(WO m c.puts[j].1).2.1<=ver->ver<=m.1->Wca m c.puts[j].1 c.who ver=WqI m c.puts[j].1 ((WO m c.puts[j].1).1,ver,0):=λver j hj sF hl sR gr=>by
  have ho:=(hc.own c.puts[j].1 sF.1 sF.2).2 ⟨j,hj,rfl,hl⟩;unfold owner at ho;unfold Wca;rw[if_pos ⟨ho,sR,gr⟩]
 have iZ:∀(ver:Int) (c':Cm) (j:Nat) (hj:j<c.puts.length),0<=c.puts[j].1/\c.puts[j].1<=7->c'.puts=c.puts->c'.who=c.who->c'.wv=c.wv->(∀l:Nat,l<c.puts.length->(lkA c' l↔lkA c l/\l≠j))->(c'.phase=3\/c'.phase=4\/c'.phase=5->c.phase=3\/c.phase=4\/c.phase=5)->CmLk (WqI m c.puts[j].1 ((WO m c.puts[j].1).1,ver,0)) c':=λver c' j hj sF p1 p2 p3 aY vF=>by
  have vG:∀i,lkd c' i↔lkd c i/\i≠c.puts[j].1:=λi=>by
   unfold lkd;rw[p1];refine⟨λ⟨l,hl,a,b⟩=>?_,λ⟨⟨l,hl,a,b⟩,hne⟩=>?_⟩
   .have:=(aY l hl).1 b;exact⟨⟨l,hl,a,this.1⟩,λhe=>this.2 (Wtt h hl hj (a.trans he))⟩
   .exact⟨l,hl,a,(aY l hl).2 ⟨b,λhe=>hne (by subst he;exact a.symm)⟩⟩
  refine⟨λi h0 h7=>?_,λh3=>?_⟩
  .unfold owner;rw[WeS hm sF ⟨h0,h7⟩,p2,vG];by_cases hi:i=c.puts[j].1
   .rw[if_pos hi];exact⟨λhz=>by(change (0:Int)=c.who at hz;omega),λhz=>absurd hi hz.2⟩
   .rw[if_neg hi];exact⟨λhz=>⟨(hc.own i h0 h7).1 hz,hi⟩,λhz=>(hc.own i h0 h7).2 hz.1⟩
  .obtain⟨v1,v2⟩:=hc.ver (vF h3);rw[p3];refine⟨v1,λi hi=>?_⟩;have jr:=(vG i).1 hi;obtain⟨⟨l,hl,a,b⟩,hne⟩:=jr;have hr:=h.rows _ (Xw hl);rw[WeS hm sF (by rw[←a];exact hr.1),if_neg hne];exact v2 i ⟨l,hl,a,b⟩
 by_cases h5:c.phase=5
 .rw[if_pos h5];obtain⟨j,hj,e1,e2,e3,e4⟩:=h.put (by omega);have hs:=aJ (by omega);rw[e2];obtain⟨v1,v2⟩:=hc.ver (.inr (.inr h5));have tA:lkA c j:=by unfold lkA;omega
  rw[sE c.wv j hj e3 tA (v2 _ ⟨j,hj,rfl,tA⟩) v1];obtain⟨p1,p2,p3⟩:=Wcm c 6;refine iZ c.wv (WP c 6) j hj e3 p1 p2 p3 (λl hl=>?_) λ_=>.inr (.inr h5);unfold WP;split
  .have:(Wdy c 6).phase=6:=Wuy c;unfold lkA;omega
  .unfold lkA;simp only;omega
 rw[if_neg h5];by_cases h7:c.phase=7
 .rw[if_pos h7];obtain⟨j,hj,e1,e2,e3,e4⟩:=h.put (by omega);have hs:=aJ (by omega);rw[e2];have tA:lkA c j:=by unfold lkA;omega
  have hcl:=Wdp.1 (We5 hm e3);rw[sE _ j hj e3 tA (Xv _) hcl.2.1.2];obtain⟨p1,p2,p3⟩:=Wcn c c.pos;refine iZ _ (Wal c c.pos) j hj e3 p1 p2 p3 (λl hl=>?_) λh3=>?_
  .rw[Wlo _ _ (by omega)];unfold lkA;omega
  .rcases Wnz c c.pos with h|h<;>omega
 .rw[if_neg h7];exact hc
theorem WpB(h:CmOk c)(hc:CmLk m c):CmLk m (War c):=by
 have bN:=h.pos;have fz:∀n:Int,0<=n->(∀j:Nat,j<c.puts.length->((j:Int)<n↔lkA c j))->CmLk m (Wal c n):=λn h0 hn=>by
  obtain⟨p1,p2,p3⟩:=Wcn c n;refine hc.same p1 p2 p3 (λj hj=>by rw[Wlo n j h0];exact hn j hj) λh3=>?_;rcases Wnz c n with h|h<;>omega
 unfold War;split
 .exact fz _ (by omega) λl hl=>by unfold lkA;omega
 .split
  .exact fz _ (by omega) λl hl=>by unfold lkA;omega
  .exact hc
theorem Wn1(c:Cm):(War c).who=c.who:=by
 have h2:=λn=>(Wcn c n).2.1;unfold War
 repeat' split
 all_goals first|exact h2 _|rfl
theorem WjS(h:CmOk c)(hm:W0 m=true){who:Int}(h1:who≠c.who)(h0:who≠0)(hi:0<=i/\i<=7):(owner (WC m c).1 i=who↔owner m i=who)/\(owner m i=who->WO (WC m c).1 i=WO m i):=by
 have bj:(owner m i=who↔owner m i=who)/\(owner m i=who->WO m i=WO m i):=⟨Iff.rfl,λ_=>rfl⟩;have dW:∀(a:Int) (wd:Wd),0<=a/\a<=7->(WO m a).2.2≠who->wd.2.2≠who->(owner (WqI m a wd) i=who↔owner m i=who)/\(owner m i=who->WO (WqI m a wd) i=WO m i):=λa wd ha hne hw=>by
  unfold owner;rw[WeS hm ha hi];by_cases hia:i=a
  .subst hia;rw[if_pos rfl];exact⟨⟨λhz=>absurd hz hw,λhz=>absurd hz hne⟩,λhz=>absurd hz hne⟩
  .rw[if_neg hia];exact⟨Iff.rfl,λ_=>rfl⟩
 unfold WC;simp only;by_cases p1:c.phase=1
 .rw[if_pos p1];obtain⟨j,hj,e1,e2,e3,e4⟩:=h.put (by omega);rw[e2];by_cases ho:(WO m c.puts[j].1).2.2=0
  .rw[if_pos ho];exact dW _ _ e3 (by omega) (by show c.who≠who;omega)
  .rw[if_neg ho];exact bj
 rw[if_neg p1];by_cases p2:c.phase=2
 .rw[if_pos p2];have ht:=Wns hm;by_cases hz:(tick m).2=0
  .rw[if_pos hz];simp only;rw[ht.2.2.2.2 hz];exact bj
  .rw[if_neg hz];simp only;rw[(ht.2.2.2.1 hz).2];exact bj
 rw[if_neg p2];by_cases p3:c.phase=3
 .rw[if_pos p3];split<;>exact bj
 rw[if_neg p3];by_cases p4:c.phase=4
 .rw[if_pos p4];obtain⟨j,hj,e1,e2,e3,e4⟩:=h.put (by omega);rw[e2];unfold WeB;split
  .rename_i ho;exact dW _ _ e3 (by omega) (by show(WO m c.puts[j].1).2.2≠who;omega)
  .exact bj
 rw[if_neg p4];by_cases p5:c.phase=5
 .rw[if_pos p5];obtain⟨j,hj,e1,e2,e3,e4⟩:=h.put (by omega);rw[e2];unfold Wca;split
  .rename_i ho;exact dW _ _ e3 (by omega) (by show(0:Int)≠who;omega)
  .exact bj
 rw[if_neg p5];by_cases p7:c.phase=7
 .rw[if_pos p7];obtain⟨j,hj,e1,e2,e3,e4⟩:=h.put (by omega);rw[e2];unfold Wca;split
  .rename_i ho;exact dW _ _ e3 (by omega) (by show(0:Int)≠who;omega)
  .exact bj
 .rw[if_neg p7];exact bj
end
end
end Go.Sx
