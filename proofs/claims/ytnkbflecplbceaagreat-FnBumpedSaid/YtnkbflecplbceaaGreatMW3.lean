/- Plain laws of the Lean functions. -/
import Derived.Test.YtnkbflecplbceaaGreatMW2
open Option renaming bind_some→Xc
open Int renaming toNat_natCast→Xj,toNat→Xb,le_refl→Xv,le_trans→Xew
open List renaming take→Xau,getD→Xd,length_take→Xap,length→Xa,length_map→Xaj,drop_length→Xdp,getElem_map→Xed,drop_eq_getElem_cons→Xcc,drop_zero→Xce,set→Xl,replicate→Xt,set_getElem_self→Xbe,getElem_mem→Xx,mem_append→Xm,pairwise_append→Xag,mem_singleton→Xac,map_append→Xp,eq_nil_of_length_eq_zero→Xw,mem_of_mem_take→Xco,mem_map→Xu,all_eq_true→Xae,length_set→Xaa,getElem_set→Xam,getElem_replicate→Xbg,foldl_cons→Xdh,append_eq→Xaf,mem_or_eq_of_mem_set→Xcw,mem_filter→Xar
open Bool renaming not_true→Xab,true_and→Xbq,and_eq_false_iff→Xcn,and_eq_true→Xh,and_self→Xbu,eq_false_iff→Xby
open Nat renaming le_refl→Xn
namespace Go.Sx
set_option linter.unusedVariables false
set_option linter.unusedSimpArgs false
section
variable{N:Nat}{w:Wo}{k:Nat}{x:Rt}{o:Opn}{p:Pg}{n:Int}{code:List Opn}
theorem RLive.mk24(hc:CC p.1)(h:RLive p n x)(hz:x.marks.length≠0):∃(m:Nat) (q:List RM),x.marks=q++ [x.last]/\x.last.1=(m:Int)/\(∃hm:m<p.1.length,p.1[m].1=8)/\(m:Int)<x.pc/\Mate p.1 m (Wie p.1 m)/\x.pc<=Wie p.1 m/\stk p.1 m=(stk p.1 x.pc.toNat).dropLast/\x.marks.dropLast=q/\
  Vals 4 x.last.2.2.2.2/\(0<=x.last.2.1/\x.last.2.1<=x.last.1+72*frk p.1 x.last.1.toNat/\x.last.2.1<=x.reads.length)/\(0<=x.last.2.2.1/\x.last.2.2.1<=x.last.1+8/\x.last.2.2.1<=x.writes.length)/\0<=x.last.2.2.2.1/\x.last.2.2.2.1<=x.last.1/\x.last.2.2.2.1<=x.undos.length:=by
 have hp:=h.pc;obtain⟨m,q,y,e1,e2,e3,e4,e5,e6,e7,e8,e9⟩:=Whf (d:=zRM) hc (show x.pc.toNat<=p.1.length by omega) h.marks.pcs hz;have hl:x.last=y:=e2;have hy:=h.marks.each y (by rw[e1];simp);rw[hl];exact⟨m,q,e1,e3,e4,by omega,e6,by omega,e8,by rw[e1];simp,hy⟩
theorem Wsy(hk:k<w.roots.length)(aC:w.roots[k]=x)(mo:k<=8)(hc:CC p.1)(hx:RLive p n x)(hu:∀u∈x.undos,UnV u)(hs:ShOk w.shelf)(hh:HOk w.holds)(hN:1048576<N):
  Zia N w.e (k:Int) p.1=some (((Wo.put (WbT w x k p.1) k).e,()),()):=by
 obtain⟨g1,g2,g3,g4,g5⟩:=woG hk aC;obtain⟨r0,r1,r2,r3,r4,r5,r6,r7,r8,jZ,jv,iA,iB,iW,iX,kK,kL,j8,j9,kM,kN,kO⟩:=rtP x;obtain⟨z1,z2,z3,z4,z5,z6⟩:=hx.sz hc;have hcl:=hc.len;unfold Zia WbT;simp only[Wt];rw[show P5 w.e=w.roots.map Rt.e from rfl,g4,g2];simp only[cond_true,Wu,iW,Wb];by_cases hz:x.marks.length=0
 .rw[if_pos (by omega),if_pos hz,g3,Wmo hk aC mo hh hx.rv z5 z6 hN];rfl
 .rw[if_neg (by omega),if_neg hz,WoH hz (by omega)];simp only[Xc,iX,Wav];obtain⟨m,q,e1,e2,⟨hm,iC⟩,e4,e5,e6,e7,e8,e9,jt,jY,kG,kH,ju⟩:=hx.mk24 hc hz;by_cases hgt:(x.undos.length:Int)>x.last.2.2.2.1
  .rw[if_pos hgt,if_pos hgt,g3,Xj,WkZ hk aC (by omega) (by omega) hu hs hN];rfl
  .rw[if_neg hgt,if_neg hgt];simp only[iB,iW];obtain⟨a,b,c,d⟩:=Wer hz (by omega) zRM;have d':(decide ((0:Int)<=W1 .i64 (x.marks.length:Int) 1)&&decide (W1 .i64 (x.marks.length:Int) 1<=(x.marks.length:Int)))=true:=d;have c':Xau (Xb (W1 .i64 (x.marks.length:Int) 1)) x.marks=x.marks.dropLast:=c;rw[d',c',Wbn (by rw[e9.len];omega),e2,W7,decide_eq_true hm];have o1:Xd p.1 (Xb ((m:Nat):Int)) ((0,0,0,0):Opn)=opN p.1 (m:Int):=rfl;have hr:=WwM (hc.ok m hm).1 iC;rw[←Wlm hm]at hr;simp only[cond_true,ret,Xc,o1];rw[Wa4 hr e9.len];have b2:(decide ((0:Int)<=x.last.2.2.1)&&decide (x.last.2.2.1<=(x.writes.length:Int)))=true:=by simp;omega
   rw[b2];simp only[cond_true];rw[WdA (by rw[Xap];omega),Wh7 (by omega) hN ⟨hm,iC⟩ e5];simp only[ret,Xc];rw[WcG (by have:=e5.len;omega),Xj];exact Wc5 rfl rfl rfl
theorem WrQ(hk:k<w.roots.length)(aC:w.roots[k]=x)(mo:k<=8)(hc:CC p.1)(hx:RLive p n x)(ho:Wap o=true)(eB:12<=o.1)(hs:ShOk w.shelf)(hh:HOk w.holds)(hN:1048576<N):
  Zge N w.e (k:Int) o=some (((Wo.put (Wbr w x k o) k).e,()),()):=by
 obtain⟨g1,g2,g3,g4,g5⟩:=woG hk aC;obtain⟨r0,r1,r2,r3,r4,r5,r6,r7,r8,jZ,jv,iA,iB,iW,iX,kK,kL,j8,j9,kM,kN,kO⟩:=rtP x;obtain⟨z1,z2,z3,z4,z5,z6⟩:=hx.sz hc;have tB:=Wld hh;have aS:=hx.pc;have hcl:=hc.len;have sZ:(0<=(Waz o).1/\(Waz o).1<=8)/\1<=(Waz o).2/\(Waz o).2<=2:=by
  unfold Waz;have kF:=WnL ho;split
  .rename_i h;have:WbZ o.2.1=true:=by
    rcases h with h|h
    .exact(Ws0 ho h).1
    .exact(WtT ho h).1
   rw[Wbs]at this;simp only;omega
  .split
   .have:=(Wve ho ‹_›).2;rw[Wbs]at this;simp only;omega
   .split<;>(simp only;omega)
 unfold Zge Wbr;simp only[Wt,WgH];rw[show P5 w.e=w.roots.map Rt.e from rfl,g4,g2,WcG (by omega),WkW ho eB,show P4 w.e=w.holds from rfl,show w.e.2.2.2.1=w.shelf from rfl];simp only[cond_true,Xc,Wir hh (show 1<=(k:Int)+1/\(k:Int)+1<=9 by omega) sZ.1 sZ.2 (by omega) hN,r3,jv,iX,WeE hx.spare];cases ha:Wak w.holds ((k:Int)+1) (Waz o).1 (Waz o).2 with
 |none=>
  simp only[Option.isSome_none,Bool.not_false,cond_true,Xj];exact Wc5 rfl rfl rfl
 |some bH=>
  simp only[Option.isSome_some,Xab,cond_false,Option.getD_some,Xj,WiK hs hx.regs ho eB hN,Xc,Wc9];rw[WcG (by omega),Ws (by simp;omega)];by_cases hz:(WaN w.shelf o x.regs).2.2.1=0
  .rw[if_pos hz,if_pos hz];exact Wc5 rfl rfl rfl
  .rw[if_neg hz,if_neg hz];exact Wc5 rfl rfl rfl
theorem Wu2(hk:k<w.roots.length)(aC:w.roots[k]=x)(mo:k<=8)(hp:POk p)(hx:RLive p n x)(hu:∀u∈x.undos,UnV u)(hm:WZ w.mem=true)(hs:ShOk w.shelf)(hh:HOk w.holds)(hN:1048576<N):
  Zhg N w.e (k:Int) p=some (((Wo.put (Wfi w x k p) k).e,()),()):=by
 obtain⟨g1,g2,g3,g4,g5⟩:=woG hk aC;obtain⟨r0,r1,r2,r3,r4,r5,r6,r7,r8,jZ,jv,iA,iB,iW,iX,kK,kL,j8,j9,kM,kN,kO⟩:=rtP x;have hc:=hp.code;obtain⟨z1,z2,z3,z4,z5,z6⟩:=hx.sz hc;have aS:=hx.pc;have hcl:=hc.len;have du:=hx.regs.len;unfold Zhg Wfi;simp only[Wt];rw[show P5 w.e=w.roots.map Rt.e from rfl,g4,g2,g3];simp only[cond_true,r3,r4,jv,iA,iB,iW,iX,Wav,Wu,show Wb p.1=(p.1.length:Int)from rfl];by_cases gd:x.pc>=p.1.length
 .rw[if_pos gd,if_pos gd,Wmo hk aC mo hh hx.rv z5 z6 hN];rfl
 .rw[if_neg gd,if_neg gd];obtain⟨j,hj,ej,eo⟩:=Wft (l:=p.1) aS.1 (by omega);have vR:Xd p.1 (Xb x.pc) ((0,0,0,0):Opn)=opN p.1 x.pc:=rfl;have ib:inb x.pc p.1.length=true:=by rw[ej,W7];exact decide_eq_true hj
  rw[ib];obtain⟨ok,o1,iT⟩:=hc.ok j hj;simp only[cond_true,vR];rw[←eo]at ok o1 iT;rw[WcG (show 0<=x.pc/\x.pc<=1000000 by omega)];have s7:(opN p.1 x.pc).1=9->x.marks.length≠0:=λh9 hz=>by
   have h1:=congrArg Xa hx.marks.pcs;simp only[Xaj,hz]at h1;have h2:=WbI hc.up j (by omega);have h3:=hc.up j hj;rw[WaF hj,Wlp (by rw[←eo];exact h9)]at h3;rw[ej,Xj]at h1;omega
  generalize opN p.1 x.pc=o at*;have vQ:o.1>=12->Zge N w.e (k:Int) o=some (((Wo.put (Wbr w x k o) k).e,()),()):=λeB=>WrQ hk aC mo hc hx ok eB hs hh hN;by_cases h5:o.1=5
  .rw[if_pos h5,if_pos h5,Xj,Wue hk aC hc hx hm h5 ok hN];rfl
  .rw[if_neg h5,if_neg h5];by_cases ch:o.1=10
   .rw[if_pos ch,if_pos ch,Wsy hk aC mo hc hx hu hs hh hN];rfl
   .rw[if_neg ch,if_neg ch];by_cases dj:o.1=11
    .rw[if_pos dj,if_pos dj,show Wb p.2=((p.2.length:Nat):Int)from rfl,Wi7 (by omega) (by omega) hp.k3 hN,Xj];exact Wc5 rfl rfl rfl
    .rw[if_neg dj,if_neg dj];by_cases eB:o.1>=12
     .rw[if_pos eB];have hb:=vQ eB;have:o.1=12\/o.1=13\/o.1=14\/o.1=15\/o.1=16:=by omega
      rcases this with h|h|h|h|h
      .rw[if_pos h,if_pos h,hb];rfl
      .rw[if_neg (by omega),if_pos h,if_pos h,hb];rfl
      .rw[if_neg (by omega),if_neg (by omega),if_pos h,if_pos h,hb];rfl
      .rw[if_neg (by omega),if_neg (by omega),if_neg (by omega),if_pos h,if_pos h,hb];rfl
      .rw[if_neg (by omega),if_neg (by omega),if_neg (by omega),if_neg (by omega),if_pos h,hb];rfl
     .rw[if_neg eB,if_neg (show¬o.1=12 by omega),if_neg (show¬o.1=13 by omega),if_neg (show¬o.1=14 by omega),if_neg (show¬o.1=15 by omega),if_neg (show¬o.1=16 by omega)];by_cases h6:o.1=6
      .rw[if_pos h6,if_pos h6,Wa4 (WwQ ok h6).2 du,Ws (by simp;omega),Xj];exact Wc5 rfl rfl rfl
      .rw[if_neg h6,if_neg h6];by_cases h7:o.1=7
       .rw[if_pos h7,if_pos h7];have h:=WvV ok h7;rw[Wa4 h.1 du,Wp (a:=x.pc) (b:=o.2.2.1) (by unfold I64;omega),WcG (a:=x.pc+o.2.2.1) (by omega),Xj];by_cases hg:Xd x.regs (Xb o.2.1) 0=0
        .rw[if_pos hg,if_pos (show WbL x.regs o.2.1 0=0 from hg)];exact Wc5 rfl rfl rfl
        .rw[if_neg hg,if_neg (show¬WbL x.regs o.2.1 0=0 from hg)];exact Wc5 rfl rfl rfl
       .rw[if_neg h7,if_neg h7];by_cases h8:o.1=8
        .rw[if_pos h8,if_pos h8,Wbn (by omega)];simp only[ret,Xc];rw[Ws (by simp;omega),Xj];exact Wc5 rfl rfl rfl
        .rw[if_neg h8,if_neg h8];by_cases h9:o.1=9
         .rw[if_pos h9,if_pos h9];have hz:=s7 h9;obtain⟨a,b,c,d⟩:=Wer hz (by omega) zRM;obtain⟨m,q,e1,e2,⟨hY,iC⟩,e4,e5,e6,e7,e8,e9,jt,jY,kG,kH,ju⟩:=hx.mk24 hc hz;rw[WlI hz (by omega)];simp only[Xc];rw[d,c,e2,W7,decide_eq_true hY];have o1:Xd p.1 (Xb ((m:Nat):Int)) ((0,0,0,0):Opn)=opN p.1 (m:Int):=rfl;have hr:=WwM (hc.ok m hY).1 iC;rw[←Wlm hY]at hr;simp only[cond_true,o1];rw[Wa4 hr du,Xj];exact Wc5 rfl rfl rfl
         .rw[if_neg h9,if_neg h9,WhC hN ok (by omega) (by omega) hx.regs,Xj];exact Wc5 rfl rfl rfl
theorem Wts(hk:k<w.roots.length)(aC:w.roots[k]=x)(iY:w.roots.length<=8)(hN:1048576<N):
  Zfe N w.e (k:Int)=some (((Wo.put (Wdk w x k) k).e,()),()):=by
 obtain⟨g1,g2,g3,g4,g5⟩:=woG hk aC;have eO:=Wph hk aC;have du:(w.roots.map Rt.e).length=w.roots.length:=by simp
 unfold Zfe;rw[show P5 w.e=w.roots.map Rt.e from rfl,g4,g2,WcG (by omega),Xj];simp only[cond_true,Wc9,Wu,Wav,show w.e.2.1=w.token from rfl,show x.e.2.1=x.tries from rfl,show w.e.1=w.now from rfl,show w.e.2.2.1.1=w.mem.1 from rfl];have nP:∀(K0:Bool->Int->Bool->Option ((Y_World×Unit)×Unit)) (d j n:Nat) (al:Bool),j+d=w.roots.length->d<n->
   Zaw N (k:Int) k (Wb (w.roots.map Rt.e)) w.now w.token w.mem.1 w.e.2.2.2.1.2 (w.roots.map Rt.e) w.e.2.2.1.2 w.e.2.2.2.1.1 (P4 w.e) (Q6 w.e) K0 n al (j:Int)=K0 (al&&W4 k (w.roots.drop j) j) (w.roots.length:Int) false:=by
  intro K0 d
  induction d with
  |zero=>
   intro j n al hj hn;obtain⟨n,rfl⟩:∃n',n=n'+1:=⟨n-1,by omega⟩;have:j=(w.roots.map Rt.e).length:=by omega
   rw[Zaw,this,Waw (Xn _),du,Xdp];simp[W4]
  |succ d ih=>
   intro j n al hj hn;obtain⟨n,rfl⟩:∃n',n=n'+1:=⟨n-1,by omega⟩;have hlt:j<(w.roots.map Rt.e).length:=by omega
   have vW:j<w.roots.length:=by omega
   rw[Zaw];simp only[Waf hlt,Wn hlt,Wq hlt,Wg (show j<4611686018427387904 by omega),cond_true,ih (j+1) n _ (by omega) (by omega),Xed];rw[Xcc vW,W4];generalize W4 k (w.roots.drop (j+1)) (j+1)=b;have hp:(Rt.e w.roots[j]).1=w.roots[j].phase:=rfl;rw[hp];simp only[Wu];cases al with
   |false=>simp
   |true=>
    simp only[cond_true,Xbq];by_cases h1:j=k
    .rw[if_pos (by omega),decide_eq_true h1];simp
    .rw[if_neg (by omega),decide_eq_false h1];by_cases h2:w.roots[j].phase=0
     .rw[if_pos h2,decide_eq_true h2];simp
     .rw[if_neg h2,decide_eq_false h2];have:(w.roots[j].phase==8)=decide (w.roots[j].phase=8):=by
       by_cases h3:w.roots[j].phase=8<;>simp[h3]
      rw[this];simp
 have:=nP;refine(nP _ w.roots.length 0 N true (by omega) (by omega)).trans ?_;rw[Xce,Xbq];unfold Wdk;have cI:some ((S5 (Xl (w.roots.map Rt.e) k ((1:Int),(x.tries,((0:Int),((0:Int),(w.mem.1,((0:Int),((0:Int),((0:Int),((0:Int),(w.now,((0:Int),(false,(Xt (Xb (4:Int)) (0:Int),(([]:List Kc),(([]:List Kc),(([]:List Kj),(([]:List Kb),(([]:List Int),(false,(((0:Int),((0:Int),((0:Int),(0:Int)))),(((0:Int),((0:Int),((0:Int),((0:Int),((0:Int),(([]:List Kc),([]:List Int))))))),d_Family)))))))))))))))))))))) w.e,()),())=some (((Wo.put (w,{phase:=1,tries:=x.tries,rv:=w.mem.1,began:=w.now,regs:=[0,0,0,0]}) k).e,()),()):=Wc5 (x':={phase:=1,tries:=x.tries,rv:=w.mem.1,began:=w.now,regs:=[0,0,0,0]}) (w':=w) rfl rfl rfl;have vX:some (((w.now,((k:Int)+1,w.e.2.2)),()),())=some (((Wo.put ({w with token:=(k:Int)+1},x) k).e,()),()):=by
  have:Wo.put ({w with token:=(k:Int)+1},x) k={w with token:=(k:Int)+1}:=by unfold Wo.put;simp only;rw[←aC,Xbe]
  rw[this];rfl
 have an:(((decide ((0:Int)<=(4:Int)))&&(decide ((4:Int)<=(4:Int))))&&(Wy (Xb (4:Int))))=true:=rfl;have bo:some ((w.e,()),())=some (((Wo.put (w,x) k).e,()),()):=by rw[eO]
 rw[an];simp only[cond_true,cI];by_cases t0:w.token=0
 .rw[if_pos t0];rw[if_neg (show¬(w.token≠0/\w.token≠(k:Int)+1) by omega)];by_cases ht:x.tries>=3
  .rw[if_pos ht,if_pos t0,if_pos ⟨ht,t0⟩];exact vX
  .rw[if_neg ht,if_neg (show¬w.token=(k:Int)+1 by omega),if_neg (λh=>ht h.1),if_neg (by omega)]
 .rw[if_neg t0];by_cases t1:w.token=(k:Int)+1
  .rw[if_pos t1,if_neg (show¬(w.token≠0/\w.token≠(k:Int)+1) by omega),if_neg (show¬(x.tries>=3/\w.token=0) by omega)];have gE:∀b:Bool,(bif !b then some ((w.e,()),())else some (((Wo.put (w,{phase:=1,tries:=x.tries,rv:=w.mem.1,began:=w.now,regs:=[0,0,0,0]}) k).e,()),()))=some (((Wo.put (if w.token=(k:Int)+1/\b=false then(w,x)else(w,{phase:=1,tries:=x.tries,rv:=w.mem.1,began:=w.now,regs:=[0,0,0,0]})) k).e,()),()):=λb=>by
    cases b with
    |false=>rw[if_pos ⟨t1,rfl⟩];exact bo
    |true=>rw[if_neg (by simp)];rfl
   by_cases ht:x.tries>=3
   .rw[if_pos ht,if_neg t0,if_pos t1];exact gE _
   .rw[if_neg ht,if_pos t1];exact gE _
  .rw[if_neg t1,if_pos ⟨t0,t1⟩];exact bo
theorem WtW(hp:POk p)(hx:RLive p n x)(h2:x.phase=2)(hN:1048576<N):Zhh N x.e=some (((WbY x).e,()),()):=by
 obtain⟨r0,r1,r2,r3,r4,r5,r6,r7,r8,jZ,jv,iA,iB,iW,iX,kK,kL,j8,j9,kM,kN,kO⟩:=rtP x;have hc:=hp.code;obtain⟨z1,z2,z3,z4,z5,z6⟩:=hx.sz hc;obtain⟨f1,f2,f3⟩:=hx.fork h2;have aS:=hx.pc;have hcl:=hc.len;have xS:x.fam.kids.length<=3:=by have:=f3.len;have:=hp.k3;omega
 have pU:=f3.len3 hp.k3;have nc:=f3.readsL;unfold Zhh WbY;simp only[r3,iA,j9,kM,kN,kO,We3,Xc];rw[WmS xS hN,WkM f3.regs xS (λy hy=>by
  obtain⟨i,hi,rfl⟩:=List.getElem_of_mem hy;rw[(f3.kid i hi).regs.len];omega) hN,WmP (by have:=f3.buf8;omega) hN,Ws (by omega),Wbn (by omega),WcG (by omega),WhJ]
 by_cases hl:x.fam.lost=true
 .rw[if_pos hl,if_pos hl]
 .rw[if_neg hl,if_neg hl];simp only[ret,Xc,cond_true];cases ho:Wa6 x.fam
  .rw[if_neg (by simp)];rfl
  .rw[if_pos rfl];rfl
theorem WpT(hk:k<w.roots.length)(aC:w.roots[k]=x)(hp:POk p)(hx:RLive p n x)(h4:x.phase=4)(hm:WZ w.mem=true):
  Zfs N w.e k=some (((Wo.put (w,WaG w x) k).e,()),()):=by
 obtain⟨g1,g2,g3,g4,g5⟩:=woG hk aC;obtain⟨r0,r1,r2,r3,r4,r5,r6,r7,r8,jZ,jv,iA,iB,iW,iX,kK,kL,j8,j9,kM,kN,kO⟩:=rtP x;have hc:=hp.code;obtain⟨z1,z2,z3,z4,z5,z6⟩:=hx.sz hc;have hz:=hx.back (.inr h4);obtain⟨m,q,e1,e2,⟨hY,iC⟩,e4,e5,e6,e7,e8,e9,jt,jY,kG,kH,ju⟩:=hx.mk24 hc hz;have bQ:=hx.pos h4;have aS:=hx.pc;have hcl:=hc.len;unfold Zfs WaG;simp only[Wt];rw[show P5 w.e=w.roots.map Rt.e from rfl,g1,WoH hz (by omega)];simp only[Xc,r4,r5,r6,iA,iB,Wav,We3,show w.e.2.2.1.2=w.mem.2 from rfl];by_cases hlt:x.pos<x.last.2.1
 .rw[if_pos hlt,if_pos hlt];have hj:x.pos.toNat<x.reads.length:=by omega
  have ib:inb x.pos x.reads.length=true:=by unfold inb;simp;omega
  have hg:Xd x.reads (Xb x.pos) ((0:Int),(0:Int))=WbL x.reads x.pos (0,0):=rfl;have hv:0<=(WbL x.reads x.pos (0,0)).1/\(WbL x.reads x.pos (0,0)).1<=7:=by
   unfold WbL;rw[Wf hj];exact(hx.reads _ (Xx hj)).1
  rw[ib,hg,Wg4 hm hv,show Xd w.mem.2 (Xb (WbL x.reads x.pos (0,0)).1) ((0:Int),((0:Int),(0:Int)))=WN w.mem (WbL x.reads x.pos (0,0)).1 from rfl,WcG (by omega)];simp only[cond_true,Wc9];by_cases a:(WN w.mem (WbL x.reads x.pos (0,0)).1).2.2=0
  .rw[if_pos a];by_cases b:(WN w.mem (WbL x.reads x.pos (0,0)).1).2.1>x.rv
   .rw[if_pos b,if_pos (.inr b)];exact Wc5 rfl rfl rfl
   .rw[if_neg b,if_neg (by omega)];exact Wc5 rfl rfl rfl
  .rw[if_neg a,if_pos (.inl a)];exact Wc5 rfl rfl rfl
 .rw[if_neg hlt,if_neg hlt];have b1:(decide ((0:Int)<=x.last.2.1)&&decide (x.last.2.1<=(x.reads.length:Int)))=true:=by simp;omega
  have b2:(decide ((0:Int)<=x.last.2.2.1)&&decide (x.last.2.2.1<=(x.writes.length:Int)))=true:=by simp;omega
  rw[b1,b2,WdA (by rw[Xap];omega),WdA (by rw[Xap];omega),Wbn (by rw[e9.len];omega),WcG (by omega)];simp only[cond_true,ret,Xc];exact Wc5 rfl rfl rfl
theorem Wp8(hk:k<w.roots.length)(aC:w.roots[k]=x)(mo:k<=8)(iG:CmOk x.cm)(hm:WZ w.mem=true)(hh:w.hist.length<=500000)(hN:1048576<N):
  Zft N w.e (k:Int)=some (((Wo.put (Wal w x k) k).e,()),()):=by
 obtain⟨g1,g2,g3,g4,g5⟩:=woG hk aC;obtain⟨r0,r1,r2,r3,r4,r5,r6,r7,r8,jZ,jv,iA,iB,iW,iX,kK,kL,j8,j9,kM,kN,kO⟩:=rtP x;have aQ:=Wl9 iG hm;unfold Zft Wal;simp only[Wt,WgH];rw[show P5 w.e=w.roots.map Rt.e from rfl,g4,g2,WcG (by omega),Xj];simp only[cond_true,r7,jZ,j8,show w.e.2.2.1=w.mem from rfl,show Q6 w.e=w.hist from rfl];rw[WhJ];by_cases hd:x.doomed=true
 .rw[if_pos hd,if_pos hd];obtain⟨b,hb⟩:=WrD (N:=N) iG hN;rw[hb];simp only[Xc,Wu,show(Wag x.cm).e.2.2.1=(Wag x.cm).phase from rfl];by_cases h8:(Wag x.cm).phase=8
  .rw[if_pos h8,if_pos h8];have:S20 (Wag x.cm).e (S11 false x.e)=Rt.e {x with cm:=Wag x.cm,doomed:=false}:=rfl;rw[this,We3];exact Wc5 rfl rfl rfl
  .rw[if_neg h8,if_neg h8];exact Wc5 rfl rfl rfl
 .rw[if_neg hd,if_neg hd,WmQ iG hm hN];simp only[Xc];obtain⟨m',c',hq⟩:∃m' c',WB w.mem x.cm=(m',c'):=⟨_,_,rfl⟩;rw[hq]at aQ⊢;simp only at aQ⊢;have ll:Zbj N (P5 c'.e)=ret c'.puts:=WdA (by have:=aQ.1.plen;show c'.puts.length<=1048576;omega);have hS:S20 c'.e x.e=Rt.e {x with cm:=c'}:=rfl;rw[ll,hS,We3];simp only[ret,Xc];rw[Ws (by simp;omega)];simp only[cond_true,Wu,Wav,show c'.e.2.2.1=c'.phase from rfl,show(Cm.e x.cm).2.2.1=x.cm.phase from rfl,show P4 c'.e=c'.wv from rfl];unfold Wbh;simp only;by_cases h3:x.cm.phase<=3
  .rw[if_pos h3];by_cases h4:c'.phase=4
   .rw[if_pos h4,if_neg (by omega),if_neg (by omega),if_pos (show x.cm.phase<=3/\c'.phase=4 from⟨h3,h4⟩),if_neg (by omega),if_neg (by omega)];exact Wc5 (w':={w with mem:=m',hist:=w.hist++ [(c'.wv,(k:Int)+1,c'.puts)]}) rfl rfl rfl
   .rw[if_neg h4,if_neg (show¬(x.cm.phase<=3/\c'.phase=4)fromλh=>h4 h.2)];by_cases h8:c'.phase=8
    .rw[if_pos h8,if_pos h8];exact Wc5 (w':={w with mem:=m'}) rfl rfl rfl
    .rw[if_neg h8,if_neg h8];by_cases h6:c'.phase=6
     .rw[if_pos h6,if_pos h6];by_cases h2:x.fate=2
      .rw[if_pos h2,if_pos h2];exact Wc5 (w':={w with mem:=m'}) rfl rfl rfl
      .rw[if_neg h2,if_neg h2];exact Wc5 (w':={w with mem:=m'}) rfl rfl rfl
     .rw[if_neg h6,if_neg h6];exact Wc5 (w':={w with mem:=m'}) rfl rfl rfl
  .rw[if_neg h3,if_neg (show¬(x.cm.phase<=3/\c'.phase=4)fromλh=>h3 h.1)];by_cases h8:c'.phase=8
   .rw[if_pos h8,if_pos h8];exact Wc5 (w':={w with mem:=m'}) rfl rfl rfl
   .rw[if_neg h8,if_neg h8];by_cases h6:c'.phase=6
    .rw[if_pos h6,if_pos h6];by_cases h2:x.fate=2
     .rw[if_pos h2,if_pos h2];exact Wc5 (w':={w with mem:=m'}) rfl rfl rfl
     .rw[if_neg h2,if_neg h2];exact Wc5 (w':={w with mem:=m'}) rfl rfl rfl
    .rw[if_neg h6,if_neg h6];exact Wc5 (w':={w with mem:=m'}) rfl rfl rfl
end
section
section
variable{code:List Opn}{pc cF rl wl ul qO kJ qP:Nat}{ms q:List RM}{y:RM}{n n':Int}{x:Rt}{w:Wo}{p:Pg}{k:Nat}{o:Opn}
theorem WhL(code:List Opn){a b:Nat}(h:a<=b):frk code a<=frk code b:=by
 unfold frk;exact List.Sublist.countP_le (List.take_sublist_take_left h)
theorem RMk.mono(h:RMk code pc ms rl wl ul)(hs:stk code cF=stk code pc)(h1:rl<=qO)(h2:wl<=kJ)(h3:ul<=qP):RMk code cF ms qO kJ qP:=
 ⟨by rw[hs];exact h.pcs,λq hq=>by obtain⟨a,b,c,d⟩:=h.each q hq;exact⟨a,by omega,by omega,by omega⟩,h.up⟩
theorem RMk.cut(h:RMk code pc ms rl wl ul)(qN:ms=q++ [y])(h1:y.2.1<=qO)(h2:y.2.2.1<=kJ)(h3:y.2.2.2.1<=qP):RMk code pc ms qO kJ qP:=by
 refine⟨h.pcs,λa ha=>?_,h.up⟩;obtain⟨c1,c2,c3,c4⟩:=h.each a ha;have hle:a.2.1<=y.2.1/\a.2.2.1<=y.2.2.1/\a.2.2.2.1<=y.2.2.2.1:=by
  have hu:=h.up;rw[qN]at ha hu;rcases Xm.1 ha with ha|ha
  .exact(Xag.1 hu).2.2 a ha y (by simp)
  .rw[Xac]at ha;subst ha;omega
 exact⟨c1,by omega,by omega,by omega⟩
theorem RMk.begin(h:RMk code pc ms rl wl ul)(hp:pc<code.length)(h8:code[pc].1=8){regs:List Int}(hr:Vals 4 regs)(h1:rl<=pc+72*frk code pc)(h2:wl<=pc+8)(h3:ul<=pc):
  RMk code (pc+1) (ms++ [((pc:Int),(rl:Int),(wl:Int),(ul:Int),regs)]) rl wl ul:=by
 refine⟨?_,?_,?_⟩
 .rw[Wjj hp h8,Xp,Xp,h.pcs];rfl
 .intro q hq;rcases Xm.1 hq with hq|hq
  .exact h.each q hq
  .rw[Xac]at hq;subst hq;refine⟨hr,?_,?_,?_⟩
   .simp only[Xj];omega
   .simp only;omega
   .simp only;omega
 .refine Xag.2 ⟨h.up,List.pairwise_singleton _ _,λa ha b hb=>?_⟩;rw[Xac]at hb;subst hb;obtain⟨c1,c2,c3,c4⟩:=h.each a ha;exact⟨c2.2.2,c3.2.2,c4.2.2⟩
theorem RMk.drop(h:RMk code pc ms rl wl ul)(qN:ms=q++ [y])(hs:stk code cF=(stk code pc).dropLast)(h1:y.2.1<=qO)(h2:y.2.2.1<=kJ)(h3:y.2.2.2.1<=qP):RMk code cF q qO kJ qP:=by
 have h':=h.cut qN h1 h2 h3;subst qN;have e:=h.pcs;refine⟨?_,λa ha=>h'.each a (List.mem_append_left _ ha),(Xag.1 h.up).1⟩;rw[hs,List.map_dropLast,←e,Xp];simp
theorem RLive.wk(h:RLive p n x)(hn:n<=n'):RLive p n' x:={h with fork:=λh2=>by obtain⟨a,b,c⟩:=h.fork h2;exact⟨a,b,c.wk hn⟩}
theorem ROk.wk(h:ROk p n x)(hn:n<=n'):ROk p n' x:={h with tries:=by have:=h.tries;omega,live:=λhl=>(h.live hl).wk hn}
theorem RLive.on(aD:CC p.1)(h:RLive p n x)(h1:x.phase=1){i:Nat}(hi:i<p.1.length)(aS:x.pc=i){regs:List Int}{reads writes:List Rw}{marks:List RM}{undos:List Un}{busy:Bool}{pb:Pb}{cF:Nat}
  (hp:cF<=p.1.length) (hlt:i<cF) (hr:Vals 4 regs) (nc:Wi5 reads) (du:reads.length<=x.reads.length+1) (zG:Wi5 writes) (pR:writes.length<=x.writes.length+1) (cJ:undos.length<=x.undos.length+1) (hm:RMk p.1 cF marks reads.length writes.length undos.length) (hb:busy=true->Wll pb=true):
  RLive p n {x with regs:=regs,reads:=reads,writes:=writes,marks:=marks,undos:=undos,busy:=busy,pb:=pb,pc:=(cF:Int)} where
 pc:=by show(0:Int)<=(cF:Int)/\(cF:Int)<=_;omega
 spare:=h.spare
 rv:=h.rv
 regs:=hr
 reads:=nc
 rl:=by
  have h2:=h.rl;have h3:=WhL p.1 (show i<=cF by omega);rw[aS,Xj]at h2;show(reads.length:Int)<=(cF:Int)+72*(frk p.1 ((cF:Nat):Int).toNat:Int);rw[Xj];omega
 writes:=zG
 wl:=by have:=h.wl;show(writes.length:Int)<=(cF:Int)+8;omega
 ul:=by have:=h.ul;show(undos.length:Int)<=(cF:Int);omega
 marks:=by show RMk p.1 ((cF:Nat):Int).toNat _ _ _ _;rw[Xj];exact hm
 pb:=hb
 fork:=λh2=>by(change x.phase=2 at h2;omega)
 back:=λh2=>by(change x.phase=3\/x.phase=4 at h2;omega)
 newRv:=h.newRv
 pos:=λh2=>by(change x.phase=4 at h2;omega)
 unw:=λh2=>by(change x.phase=4 at h2;omega)
theorem Vals.le4{r:List Int}(h:Vals 4 r):r.length<=4:=Nat.le_of_eq h.len
theorem We8(h:ROk p n x):ROk p n (WcI x) where
 phase:=by show(0:Int)<=6/\(6:Int)<=8;omega
 tries:=h.tries
 live:=λh=>by(change (1:Int)<=6/\(6:Int)<=4 at h;omega)
 comm:=λh=>by(change (6:Int)=5 at h;omega)
 undos:=h.undos
 ul:=h.ul
 rg:=by show([]:List Int).length<=4;simp
 ord:=by show([]:List Int).length<=3;simp
theorem Who(h:ROk p n x)(hl:RLive p n x):ROk p n (WA x):=by
 unfold WA;split
 .exact We8 h
 .rename_i hc;exact{h with
   phase:=by show(0:Int)<=3/\(3:Int)<=8;omega
   live:=λ_=>{hl with
    spare:=by have:=hl.spare;show 0<=x.spare+1/\x.spare+1<=2;omega
    pb:=λh=>by cases h
    fork:=λh=>by(change (3:Int)=2 at h;omega)
    back:=λ_=>by show x.marks.length≠0;omega
    pos:=λh=>by(change (3:Int)=4 at h;omega)
    unw:=λh=>by(change (3:Int)=4 at h;omega)}
   comm:=λh=>by(change (3:Int)=5 at h;omega)}
structure QOk(p:Pg)(n:Int)(w:Wo)(q:Wo×Rt):Prop where
 root:ROk p n q.2
 mem:WZ q.1.mem=true
 shelf:ShOk q.1.shelf
 holds:HOk q.1.holds
 hist:q.1.hist.length<=w.hist.length+1
 histE:∀h∈q.1.hist,h∈w.hist\/HE h
 roots:q.1.roots=w.roots
 now:q.1.now=w.now
structure GOk(w:Wo):Prop where
 mem:WZ w.mem=true
 shelf:ShOk w.shelf
 holds:HOk w.holds
theorem GOk.st(h:GOk w){y:Rt}(hy:ROk p n y):QOk p n w (w,y):=⟨hy,h.mem,h.shelf,h.holds,by simp,λ_ hh=>.inl hh,rfl,rfl⟩
theorem GOk.qt(h:GOk w){y:Rt}(hy:ROk p n y)(t:Int):QOk p n w ({w with token:=t},y):=⟨hy,h.mem,h.shelf,h.holds,by simp,λ_ hh=>.inl hh,rfl,rfl⟩
theorem Wrq(h:GOk w)(hx:ROk p n x):QOk p n w (WjJ w x k):=by
 unfold WjJ;refine h.qt ?_ _;exact{hx with
  phase:=by show(0:Int)<=8/\(8:Int)<=8;omega
  live:=λh=>by(change (1:Int)<=8/\(8:Int)<=4 at h;omega)
  comm:=λh=>by(change (8:Int)=5 at h;omega)
  undos:=λu hu=>by cases hu
  ul:=by simp}
theorem WlW(h:GOk w)(hx:ROk p n x)(kY:0<=x.rv/\x.rv<=1000000)(hk:k<=8){out:Int}:QOk p n w (Wao w x k out):=by
 unfold Wao;simp only;generalize (if out=2 then []else x.writes)=rows;split
 .exact Wrq (x:={x with fate:=out,stamp:=x.rv}) h
   {phase:=hx.phase,tries:=hx.tries,live:=λhh=>{hx.live hh with},comm:=hx.comm,undos:=hx.undos,ul:=hx.ul,rg:=hx.rg,ord:=hx.ord}
 .refine h.st ?_;exact{hx with
   phase:=by show(0:Int)<=5/\(5:Int)<=8;omega
   live:=λh=>by(change (1:Int)<=5/\(5:Int)<=4 at h;omega)
   comm:=λ_=>Wlt (by omega) kY}
theorem Wf7{α:Type}{l:List α}(h:l.length≠0)(d:α):Wg2 l d∈l:=by
 unfold Wg2;rw[Wf (show l.length-1<l.length by omega)];exact Xx _
theorem Wln(h:GOk w)(hx:ROk p n x)(hz:x.undos.length≠0)(aD:1<=x.phase/\x.phase<=4->CC p.1/\(x.marks.length≠0->x.last.2.2.2.1<x.undos.length)):QOk p n w (Wdv w x):=by
 unfold Wdv;refine⟨?_,h.mem,WpJ h.shelf (hx.undos _ (Wf7 hz _)),h.holds,by simp,λ_ hh=>.inl hh,rfl,rfl⟩;have hdl:x.undos.dropLast.length=x.undos.length-1:=List.length_dropLast;exact{hx with
  live:=λhh=>by
   have hl:=hx.live hh;obtain⟨c1,c2⟩:=aD hh;exact{hl with
    ul:=by have:=hl.ul;show(x.undos.dropLast.length:Int)<=x.pc;omega
    unw:=λh4=>by have:=hl.unw h4;show(x.undos.dropLast.length:Int)<=x.last.2.2.2.1;omega
    marks:=by
     show RMk p.1 x.pc.toNat x.marks x.reads.length x.writes.length x.undos.dropLast.length;by_cases hm:x.marks.length=0
     .have:x.marks= []:=Xw hm;have hM:=hl.marks;rw[this]at hM⊢;exact⟨hM.pcs,(λq hq=>by cases hq),hM.up⟩
     .obtain⟨m,q,e1,e2,⟨hY,iC⟩,e4,e5,e6,e7,e8,e9,jt,jY,kG,kH,ju⟩:=hl.mk24 c1 hm;have:=c2 hm;exact hl.marks.cut e1 jt.2.2 jY.2.2 (by omega)}
  undos:=λu hu=>hx.undos u (by rw[List.dropLast_eq_take]at hu;exact Xco hu)
  ul:=by have:=hx.ul;show x.undos.dropLast.length<=24;omega}
theorem Wua(aD:CC p.1)(h:GOk w)(hx:ROk p n x)(hl:RLive p n x)(h1:x.phase=1){i:Nat}(hi:i<p.1.length)(aS:x.pc=i)(h5:p.1[i].1=5):ROk p n (Wc2 w x p.1[i]):=by
 have aH:=WvX (aD.ok i hi).1 h5;have hB:0<=p.1[i].2.2.1/\p.1[i].2.2.1<=7:=by have:=aH.2;unfold W5 at this;simpa using this
 have hM:=hl.marks;rw[aS,Xj]at hM;have aQ:stk p.1 (i+1)=stk p.1 i:=Wgh hi (by omega) (by omega);have bX:x.pc+1=((i+1:Nat):Int):=by omega
 unfold Wc2;cases hlr:Wbk x.writes p.1[i].2.2.1 with
 |some v=>
  have hv:=hl.writes _ (Wih hlr).2;simp only[bX];exact{hx with rg:=Vals.le4 (hl.regs.set _ hv.2),live:=λ_=>RLive.on aD hl h1 hi aS (by omega) (by omega) (hl.regs.set _ hv.2) hl.reads (by omega) hl.writes (by omega) (by omega) (hM.mono aQ (by omega) (by omega) (by omega)) hl.pb}
 |none=>
  simp only;have bQ:=WmL (rv:=x.rv) h.mem (Wq7 hl.pb hB);generalize W0 w.mem x.rv (if x.busy=true then x.pb else(p.1[i].2.2.1,0,0,0))=b at*;have hp:=We7.1 bQ.1;have xT:RLive p n {x with busy:=true,pb:=b}:={hl with pb:=λ_=>bQ.1};have xU:ROk p n {x with busy:=true,pb:=b}:={hx with live:=λ_=>xT};split
  .exact Who xU xT
  .split
   .simp only[bX];refine{hx with rg:=Vals.le4 (hl.regs.set _ hp.2.2.2),live:=λ_=>RLive.on aD hl h1 hi aS (by omega) (by omega) (hl.regs.set _ hp.2.2.2) (λr hr=>?_) (by simp) hl.writes (by omega) (by omega) (hM.mono aQ (by simp) (by omega) (by omega)) (λh=>by cases h)};rcases Xm.1 hr with hr|hr
    .exact hl.reads r hr
    .rw[Xac]at hr;subst hr;exact⟨hB,hp.2.2.2⟩
   .exact xU
theorem Wsn(aD:CC p.1)(h:GOk w)(hx:ROk p n x)(hl:RLive p n x)(h1:x.phase=1)(hk:k<=8){i:Nat}(hi:i<p.1.length)(aS:x.pc=i):QOk p n w (WbT w x k p.1):=by
 have hM:=hl.marks;rw[aS,Xj]at hM;unfold WbT;split
 .exact WlW h hx hl.rv hk
 .rename_i hz;obtain⟨m,q,e1,e2,⟨hY,iC⟩,e4,e5,e6,e7,e8,e9,jt,jY,kG,kH,ju⟩:=hl.mk24 aD hz;split
  .exact Wln h hx (by omega) λ_=>⟨aD,λ_=>by omega⟩
  .refine h.st ?_;rw[e8];simp only[e2,Xj,←Int.natCast_succ];have hlen:=e5.len;have ht:(Xau x.last.2.2.1.toNat x.writes).length=x.last.2.2.1.toNat:=by rw[Xap];omega
   refine{hx with rg:=Vals.le4 (e9.set _ (by omega)),live:=λ_=>RLive.on aD hl h1 hi aS (cF:=Wie p.1 m+1) (by omega) (by omega) (e9.set _ (by omega)) hl.reads (by omega) (λr hr=>hl.writes r (Xco hr)) (by omega) (by omega) ?_ hl.pb};exact hM.drop e1 (by rw[e5.st,e7,aS];rfl) (by omega) (by rw[ht];omega) (by omega)
theorem Wsl(aD:CC p.1)(h:GOk w)(hx:ROk p n x)(hl:RLive p n x)(h1:x.phase=1)(hk:k<=8){i:Nat}(hi:i<p.1.length)(aS:x.pc=i)(eB:12<=p.1[i].1):QOk p n w (Wbr w x k p.1[i]):=by
 have ho:=(aD.ok i hi).1;have hM:=hl.marks;rw[aS,Xj]at hM;have aQ:stk p.1 (i+1)=stk p.1 i:=Wgh hi (by omega) (by omega);have bX:x.pc+1=((i+1:Nat):Int):=by omega
 have cJ:=hl.ul;have hcl:=aD.len;have sZ:(0<=(Waz p.1[i]).1/\(Waz p.1[i]).1<=8)/\1<=(Waz p.1[i]).2/\(Waz p.1[i]).2<=2:=by
  unfold Waz;have kF:=WnL ho;split
  .rename_i h;have:WbZ p.1[i].2.1=true:=by
    rcases h with h|h
    .exact(Ws0 ho h).1
    .exact(WtT ho h).1
   rw[Wbs]at this;simp only;omega
  .split
   .have:=(Wve ho ‹_›).2;rw[Wbs]at this;simp only;omega
   .split<;>(simp only;omega)
 unfold Wbr;cases ha:Wak w.holds ((k:Int)+1) (Waz p.1[i]).1 (Waz p.1[i]).2 with
 |none=>exact h.st (Who hx hl)
 |some hs=>
  have zH:HOk hs:=by
   unfold Wak at ha;split at ha
   .injection ha with ha;subst ha;exact Wjv h.holds (by omega) sZ.1 sZ.2 ‹_›
   .cases ha
  obtain⟨b1,b2,b3,b4⟩:=WpY h.shelf hl.regs ho eB;simp only[bX];refine⟨?_,h.mem,b1,zH,by simp,λ_ hh=>.inl hh,rfl,rfl⟩;by_cases hz:(WaN w.shelf p.1[i] x.regs).2.2.1=0
  .simp only[if_pos hz];exact{hx with rg:=Vals.le4 b2,live:=λ_=>RLive.on aD hl h1 hi aS (by omega) (by omega) b2 hl.reads (by omega) hl.writes (by omega) (by omega) (hM.mono aQ (by omega) (by omega) (by omega)) hl.pb}
  .simp only[if_neg hz];refine{hx with rg:=Vals.le4 b2,live:=λ_=>RLive.on aD hl h1 hi aS (by omega) (by omega) b2 hl.reads (by omega) hl.writes (by omega) (by simp) (hM.mono aQ (by omega) (by omega) (by simp)) hl.pb,undos:=λu hu=>?_,ul:=by simp;omega};rcases Xm.1 hu with hu|hu
   .exact hx.undos u hu
   .rw[Xac]at hu;subst hu;exact b3 hz
theorem Wvt(hp:POk p)(h:GOk w)(hx:ROk p n x)(h1:x.phase=1)(hk:k<=8)(hn:0<=n):QOk p n w (Wfi w x k p):=by
 have hl:=hx.live (by omega);have aD:=hp.code;unfold Wfi;split
 .exact WlW h hx hl.rv hk
 .obtain⟨i,hi,aS,ho⟩:=Wft (l:=p.1) hl.pc.1 (by have:=hl.pc;omega);simp only[ho];obtain⟨ok,o1,iT⟩:=aD.ok i hi;have hM:=hl.marks;rw[aS,Xj]at hM;have bX:x.pc+1=((i+1:Nat):Int):=by omega
  have du:=hl.rl;have pR:=hl.wl;have cJ:=hl.ul;rw[aS,Xj]at du;split
  .exact h.st (Wua aD h hx hl h1 hi aS ‹_›)
  .split
   .exact Wsn aD h hx hl h1 hk hi aS
   .split
    .rename_i dj;refine h.st ?_;exact{hx with
      phase:=by show(0:Int)<=2/\(2:Int)<=8;omega
      live:=λ_=>{hl with
       fork:=λ_=>⟨by show x.pc<p.1.length;omega,by show(opN p.1 x.pc).1=11;rw[ho];exact dj,Wq8 hl.regs hn⟩
       back:=λh=>by(change (2:Int)=3\/(2:Int)=4 at h;omega)
       pos:=λh=>by(change (2:Int)=4 at h;omega)
       unw:=λh=>by(change (2:Int)=4 at h;omega)}
      comm:=λh=>by(change (2:Int)=5 at h;omega)}
    .split
     .exact Wsl aD h hx hl h1 hk hi aS (by omega)
     .split
      .refine h.st ?_;have hk:=WwQ ok ‹_›;have aQ:stk p.1 (i+1)=stk p.1 i:=Wgh hi (by omega) (by omega);simp only[bX];refine{hx with live:=λ_=>RLive.on aD hl h1 hi aS (by omega) (by omega) hl.regs hl.reads (by omega) (λr hr=>?_) (by simp) (by omega) (hM.mono aQ (by omega) (by simp) (by omega)) hl.pb};rcases Xm.1 hr with hr|hr
       .exact hl.writes r hr
       .rw[Xac]at hr;subst hr;have:=hk.1;unfold W5 at this;exact⟨by simpa using this,hl.regs.get _⟩
      .split
       .refine h.st ?_;obtain⟨s1,s2⟩:=aD.sk i hi ‹_›;have hk:=WvV ok ‹_›;have aQ:stk p.1 (i+1)=stk p.1 i:=Wgh hi (by omega) (by omega);have pT:stk p.1 (i+1+p.1[i].2.2.1.toNat)=stk p.1 i:=by rw[←aQ];exact Wpp (by omega) s1 s2
        by_cases hg:WbL x.regs p.1[i].2.1 0=0
        .simp only[if_pos hg,show x.pc+p.1[i].2.2.1+1=((i+1+p.1[i].2.2.1.toNat:Nat):Int) by omega];exact{hx with live:=λ_=>RLive.on aD hl h1 hi aS s1 (by omega) hl.regs hl.reads (by omega) hl.writes (by omega) (by omega) (hM.mono pT (by omega) (by omega) (by omega)) hl.pb}
        .simp only[if_neg hg,bX];exact{hx with live:=λ_=>RLive.on aD hl h1 hi aS (by omega) (by omega) hl.regs hl.reads (by omega) hl.writes (by omega) (by omega) (hM.mono aQ (by omega) (by omega) (by omega)) hl.pb}
       .split
        .refine h.st ?_;simp only[bX];rw[aS];exact{hx with live:=λ_=>RLive.on aD hl h1 hi aS (by omega) (by omega) hl.regs hl.reads (by omega) hl.writes (by omega) (by omega) (hM.begin hi ‹_› hl.regs (by omega) (by omega) (by omega)) hl.pb}
        .split
         .rename_i h9;refine h.st ?_;have hz:x.marks.length≠0:=λhz=>by
           have h1:=congrArg Xa hM.pcs;simp only[Xaj,hz]at h1;have h2:=WbI aD.up i (by omega);have h3:=aD.up i hi;rw[WaF hi,Wlp h9]at h3;omega
          obtain⟨m,q,e1,e2,⟨hY,iC⟩,e4,e5,e6,e7,e8,e9,jt,jY,kG,kH,ju⟩:=hl.mk24 aD hz;simp only[bX];rw[e8];exact{hx with rg:=Vals.le4 (hl.regs.set _ (by omega)),live:=λ_=>RLive.on aD hl h1 hi aS (by omega) (by omega) (hl.regs.set _ (by omega)) hl.reads (by omega) hl.writes (by omega) (by omega) (hM.drop e1 (Wkn hi h9) (by omega) (by omega) (by omega)) hl.pb}
         .refine h.st ?_;have aQ:stk p.1 (i+1)=stk p.1 i:=Wgh hi (by omega) (by omega);simp only[bX];exact{hx with rg:=Vals.le4 (WkD ok (by omega) (by omega) hl.regs),live:=λ_=>RLive.on aD hl h1 hi aS (by omega) (by omega) (WkD ok (by omega) (by omega) hl.regs) hl.reads (by omega) hl.writes (by omega) (by omega) (hM.mono aQ (by omega) (by omega) (by omega)) hl.pb}
theorem Wtb(h:GOk w)(hx:ROk p n x)(hu:x.phase=0)(hcl:0<=(p.1.length:Int)):QOk p n w (Wdk w x k):=by
 have lw:=WD h.mem;unfold Wdk;split
 .exact h.st hx
 .split
  .exact h.qt hx _
  .split
   .exact h.st hx
   .refine h.st ?_;exact{
     phase:=by show(0:Int)<=1/\(1:Int)<=8;omega
     tries:=hx.tries
     live:=λ_=>{
      pc:=by show(0:Int)<=0/\(0:Int)<=_;omega
      spare:=by show(0:Int)<=0/\(0:Int)<=2;omega
      rv:=⟨lw.2.1,lw.2.2.1⟩
      regs:=⟨rfl,λv hv=>by simp at hv;omega⟩
      reads:=λr hr=>by cases hr
      rl:=by simp;omega
      writes:=λr hr=>by cases hr
      wl:=by simp
      ul:=by simp
      marks:=⟨by simp[stk],(λq hq=>by cases hq),List.Pairwise.nil⟩
      pb:=λh=>by cases h
      fork:=λh=>by(change (1:Int)=2 at h;omega)
      back:=λh=>by(change (1:Int)=3\/(1:Int)=4 at h;omega)
      newRv:=by show(0:Int)<=0/\(0:Int)<=1000000;omega
      pos:=λh=>by(change (1:Int)=4 at h;omega)
      unw:=λh=>by(change (1:Int)=4 at h;omega)}
     comm:=λh=>by(change (1:Int)=5 at h;omega)
     undos:=λu hu=>by cases hu
     ul:=by simp
     rg:=by simp
     ord:=by simp}
theorem Wnb{codes:List (List Opn)}{f:Fm}(h:FOk codes n f):Wi5 (WgV f)/\(WgV f).length<=8:=by
 refine⟨λr hr=>?_,by unfold WgV;rw[Xaj];exact h.buf8⟩;obtain⟨e,he,rfl⟩:=Xu.1 hr;have:=h.bufE e he;exact⟨this.1,this.2.1⟩
theorem WjV{codes:List (List Opn)}{f:Fm}(h:FOk codes n f)(h3:codes.length<=3):Vals 4 (Wh2 f):=by
 have hl:=h.len;have hr:=h.regs;unfold Wh2;rw[if_pos ⟨WeR.2 hr,by omega⟩];refine⟨by simp[hr.len];omega,λv hv=>?_⟩;rcases Xm.1 hv with hv|hv
 .obtain⟨y,hy,rfl⟩:=Xu.1 hv;unfold Wur;split
  .rename_i hc;exact(WeR.1 hc.2).get _
  .omega
 .exact hr.val v (List.mem_of_mem_drop hv)
theorem Wtq(hp:POk p)(hx:ROk p n x)(h2:x.phase=2):ROk p n (WbY x):=by
 have hl:=hx.live (by omega);have aD:=hp.code;obtain⟨f1,f2,f3⟩:=hl.fork h2;obtain⟨i,hi,aS,ho⟩:=Wft (l:=p.1) hl.pc.1 f1;rw[ho]at f2;have hM:=hl.marks;have du:=hl.rl;have cJ:=hl.ul;rw[aS,Xj]at hM du;unfold WbY;split
 .exact We8 hx
 .split
  .have hz:x.marks= []:=by
    have h1:=congrArg Xa hM.pcs;simp only[Xaj]at h1;have h3:=WbI aD.up i (by omega);have h4:=(aD.fk i hi f2).1;exact Xw (by omega)
   have aQ:stk p.1 (i+1)=stk p.1 i:=Wgh hi (by omega) (by omega);have xV:=Wnb f3;have pU:=f3.len3 hp.k3;have zI:=f3.readsL;have tP:frk p.1 (i+1)=frk p.1 i+1:=by rw[WdZ hi];simp[f2]
   exact{hx with
    phase:=by show(0:Int)<=1/\(1:Int)<=8;omega
    rg:=(WjV f3 hp.k3).le4
    ord:=pU
    live:=λ_=>{hl with
     pc:=by show 0<=x.pc+1/\x.pc+1<=_;omega
     regs:=WjV f3 hp.k3
     reads:=λr hr=>by
      rcases Xm.1 hr with hr|hr
      .exact hl.reads r hr
      .exact f3.readsE r hr
     rl:=by
      show((x.reads++x.fam.reads).length:Int)<=x.pc+1+72*(frk p.1 (x.pc+1).toNat:Int);rw[show(x.pc+1).toNat=i+1 by omega,tP,List.length_append];omega
     writes:=xV.1
     wl:=by have:=xV.2;show((WgV x.fam).length:Int)<=x.pc+1+8;omega
     ul:=by show(x.undos.length:Int)<=x.pc+1;omega
     marks:=by
      show RMk p.1 (x.pc+1).toNat x.marks _ _ _;rw[show(x.pc+1).toNat=i+1 by omega];rw[hz]at hM⊢;exact⟨by rw[aQ];exact hM.pcs,(λq hq=>by cases hq),List.Pairwise.nil⟩
     fork:=λh=>by(change (1:Int)=2 at h;omega)
     back:=λh=>by(change (1:Int)=3\/(1:Int)=4 at h;omega)
     pos:=λh=>by(change (1:Int)=4 at h;omega)
     unw:=λh=>by(change (1:Int)=4 at h;omega)}
    comm:=λh=>by(change (1:Int)=5 at h;omega)}
  .exact hx
theorem Wqe(hp:POk p)(h:GOk w)(hx:ROk p n x)(h3:x.phase=3):QOk p n w (WaT w x):=by
 have hl:=hx.live (by omega);have hz:=hl.back (.inl h3);obtain⟨m,q,e1,e2,⟨hY,iC⟩,e4,e5,e6,e7,e8,e9,jt,jY,kG,kH,ju⟩:=hl.mk24 hp.code hz;have lw:=WD h.mem;unfold WaT;split
 .exact Wln h hx (by omega) λ_=>⟨hp.code,λ_=>by omega⟩
 .refine h.st ?_;exact{hx with
   phase:=by show(0:Int)<=4/\(4:Int)<=8;omega
   live:=λ_=>{hl with
    fork:=λh=>by(change (4:Int)=2 at h;omega)
    back:=λ_=>hz
    newRv:=⟨lw.2.1,lw.2.2.1⟩
    pos:=λ_=>by(show(0:Int)<=0/\(0:Int)<=x.last.2.1;omega)
    unw:=λ_=>by(show(x.undos.length:Int)<=x.last.2.2.2.1;omega)}
   comm:=λh=>by(change (4:Int)=5 at h;omega)}
theorem Wp0(hp:POk p)(h:GOk w)(hx:ROk p n x)(h4:x.phase=4):ROk p n (WaG w x):=by
 have hl:=hx.live (by omega);have hz:=hl.back (.inr h4);have bQ:=hl.pos h4;obtain⟨m,q,e1,e2,⟨hY,iC⟩,e4,e5,e6,e7,e8,e9,jt,jY,kG,kH,ju⟩:=hl.mk24 hp.code hz;unfold WaG;split
 .simp only;split
  .exact We8 hx
  .exact{hx with live:=λ_=>{hl with pos:=λ_=>by(show 0<=x.pos+1/\x.pos+1<=x.last.2.1;omega)}}
 .rename_i gd;have aQ:stk p.1 (m+1)=stk p.1 x.pc.toNat:=by
   have zJ:=hl.pc;rw[Wjj hY iC,e7];rcases Wcc (stk p.1 x.pc.toNat)with h0|⟨t,j,ht⟩
   .have h1:=congrArg Xa hl.marks.pcs;rw[h0]at h1;simp at h1;exact absurd h1 (by intro hh;rw[hh]at hz;simp at hz)
   .have h1:=hl.marks.pcs;rw[e1,ht]at h1;simp only[Xp,List.map_cons,List.map_nil]at h1;have h2:=(List.append_inj' h1 rfl).2;injection h2 with h2;rw[e2]at h2;rw[ht,List.dropLast_concat,show m=j by omega]
  have uN:=WhL p.1 (show m<=m+1 by omega);rw[e2,Xj]at jt;have bX:x.last.1+1=((m+1:Nat):Int):=by omega
  have t1:(Xau x.last.2.1.toNat x.reads).length=x.last.2.1.toNat:=by rw[Xap];omega
  have t2:(Xau x.last.2.2.1.toNat x.writes).length=x.last.2.2.1.toNat:=by rw[Xap];omega
  exact{hx with
   phase:=by show(0:Int)<=1/\(1:Int)<=8;omega
   rg:=e9.le4
   live:=λ_=>{hl with
    pc:=by show 0<=x.last.1+1/\x.last.1+1<=_;omega
    rv:=hl.newRv
    regs:=e9
    reads:=λr hr=>hl.reads r (Xco hr)
    rl:=by
     show((Xau x.last.2.1.toNat x.reads).length:Int)<=x.last.1+1+72*(frk p.1 (x.last.1+1).toNat:Int);rw[bX,Xj,t1];omega
    writes:=λr hr=>hl.writes r (Xco hr)
    wl:=by show((Xau x.last.2.2.1.toNat x.writes).length:Int)<=x.last.1+1+8;rw[t2];omega
    ul:=by
     show(x.undos.length:Int)<=x.last.1+1;have:=hl.unw h4;omega
    marks:=by
     show RMk p.1 (x.last.1+1).toNat x.marks (Xau x.last.2.1.toNat x.reads).length (Xau x.last.2.2.1.toNat x.writes).length x.undos.length;rw[bX,Xj,t1,t2];exact(hl.marks.cut e1 (by omega) (by omega) ju).mono aQ (Xn _) (Xn _) (Xn _)
    fork:=λh=>by(change (1:Int)=2 at h;omega)
    back:=λh=>by(change (1:Int)=3\/(1:Int)=4 at h;omega)
    newRv:=by show(0:Int)<=0/\(0:Int)<=1000000;omega
    pos:=λh=>by(change (1:Int)=4 at h;omega)
    unw:=λh=>by(change (1:Int)=4 at h;omega)}
   comm:=λh=>by(change (1:Int)=5 at h;omega)}
end
end
section
section
variable{N:Nat}{w:Wo}{k:Nat}{x:Rt}{p:Pg}{n:Int}{ps:List Pg}
theorem Wqx(h:GOk w)(hx:ROk p n x)(h5:x.phase=5)(hk:k<=8):QOk p n w (Wal w x k):=by
 have hc:=hx.comm h5;unfold Wal;split
 .split
  .exact h.st (We8 hx)
  .refine h.st ?_;exact{hx with live:=λhh=>by(change 1<=x.phase/\x.phase<=4 at hh;omega),comm:=λ_=>Wp4 hc}
 .have aQ:=Wl9 hc h.mem;obtain⟨m',c',hq⟩:∃m' c',WB w.mem x.cm=(m',c'):=⟨_,_,rfl⟩;simp only[hq]at aQ⊢;refine⟨?_,aQ.2,h.shelf,h.holds,?_,?_,rfl,rfl⟩
  .have hy:ROk p n {x with cm:=c'}:={hx with live:=λhh=>by(change 1<=x.phase/\x.phase<=4 at hh;omega),comm:=λ_=>aQ.1};unfold Wbh;simp only;split
   .exact We8 hy
   .split
    .have aV:(if x.fate=2 then(6:Int)else 7)=6\/(if x.fate=2 then(6:Int)else 7)=7:=by split<;>simp
     generalize (if x.fate=2 then(6:Int)else 7)=ph at*;exact{hx with
      phase:=by show 0<=ph/\ph<=8;omega
      live:=λhh=>by(change 1<=ph/\ph<=4 at hh;omega)
      comm:=λhh=>by(change ph=5 at hh;omega)}
    .exact hy
  .simp only;split<;>simp
  .simp only;intro h hh;split at hh
   .rcases Xm.1 hh with hh|hh
    .exact .inl hh
    .rw[Xac]at hh;subst hh;exact .inr ⟨aQ.1.plen,aQ.1.rows,by simp only;omega,by simp only;omega⟩
   .exact .inl hh
theorem WhM(hp:POk p)(h:GOk w)(hx:ROk p n x)(hk:k<=8)(hn:0<=n):QOk p (n+1) w (W2 w x k p):=by
 have eT:=hx.wk (show n<=n+1 by omega);unfold W2;by_cases hd:x.doomed=true/\1<=x.phase/\x.phase<=4
 .rw[if_pos hd];exact h.st (We8 eT)
 rw[if_neg hd];by_cases h0:x.phase=0
 .rw[if_pos h0];exact Wtb h eT h0 (by omega)
 rw[if_neg h0];by_cases h1:x.phase=1
 .rw[if_pos h1];exact Wvt hp h eT h1 hk (by omega)
 rw[if_neg h1];by_cases h2:x.phase=2
 .rw[if_pos h2];exact h.st (Wtq hp eT h2)
 rw[if_neg h2];by_cases h3:x.phase=3
 .rw[if_pos h3];exact Wqe hp h eT h3
 rw[if_neg h3];by_cases h4:x.phase=4
 .rw[if_pos h4];exact h.st (Wp0 hp h eT h4)
 rw[if_neg h4];by_cases h5:x.phase=5
 .rw[if_pos h5];exact Wqx h eT h5 hk
 rw[if_neg h5];by_cases h6:x.phase=6
 .rw[if_pos h6];by_cases hz:x.undos.length>0
  .rw[if_pos hz];exact Wln h eT (by omega) λhh=>by omega
  .rw[if_neg hz];refine h.st ?_;exact{eT with
    phase:=by show(0:Int)<=7/\(7:Int)<=8;omega
    live:=λhh=>by(change (1:Int)<=7/\(7:Int)<=4 at hh;omega)
    comm:=λhh=>by(change (7:Int)=5 at hh;omega)}
 rw[if_neg h6];by_cases h7:x.phase=7
 .rw[if_pos h7];have hg:GOk {w with holds:=WV w.holds ((k:Int)+1)}:=⟨h.mem,h.shelf,Wiz h.holds⟩;by_cases hf:x.fate=0
  .rw[if_pos hf];refine⟨?_,h.mem,h.shelf,Wiz h.holds,by simp,λ_ hh=>.inl hh,rfl,rfl⟩;exact{
    phase:=by show(0:Int)<=0/\(0:Int)<=8;omega
    tries:=by have:=hx.tries;show 0<=x.tries+1/\x.tries+1<=n+1;omega
    live:=λhh=>by(change (1:Int)<=0/\(0:Int)<=4 at hh;omega)
    comm:=λhh=>by(change (0:Int)=5 at hh;omega)
    undos:=λu hu=>by cases hu
    ul:=by simp
    rg:=by simp
    ord:=by simp}
  .rw[if_neg hf];have:=Wrq (k:=k) hg eT;exact⟨this.root,this.mem,this.shelf,this.holds,this.hist,this.histE,this.roots,this.now⟩
 .rw[if_neg h7];exact h.st eT
theorem Ws1(hk:k<w.roots.length)(aC:w.roots[k]=x)(iY:w.roots.length<=8)(hp:POk p)(h:GOk w)(hx:ROk p n x)(hn:n<=200000)(hh:w.hist.length<=500000)(hN:1048576<N):
  Zgw N w.e (k:Int) p=some (((Wo.put (W2 w x k p) k).e,()),()):=by
 obtain⟨g1,g2,g3,g4,g5⟩:=woG hk aC;obtain⟨r0,r1,r2,r3,r4,r5,r6,r7,r8,jZ,jv,iA,iB,iW,iX,kK,kL,j8,j9,kM,kN,kO⟩:=rtP x;have mp:k<=8:=by omega
 have eO:=Wph hk aC;have nf:=hx.tries;have zK:=hx.ul;have tB:=Wld h.holds;unfold Zgw W2;simp only[Wt];rw[show P5 w.e=w.roots.map Rt.e from rfl,g4,g2,WcG (by omega),WcG (show 0<=x.e.2.1/\x.e.2.1<=1000000 by show 0<=x.tries/\x.tries<=_;omega)];simp(maxSteps:=4000000) only[g3,r0,r7,jZ,iX,cond_true,Wk,ret,Xc,We3,Wu,Wav,show w.e.2.2.1.1=w.mem.1 from rfl,Wb,show P4 w.e=w.holds from rfl];rw[WhF h.holds (by omega) hN];simp only[ret,Xc];have hS4:S4 (WV w.holds ((k:Int)+1)) w.e=Wo.e {w with holds:=WV w.holds ((k:Int)+1)}:=rfl;have zL:S5 (Xl (w.roots.map Rt.e) (Xb (k:Int)) x.e) (S4 (WV w.holds ((k:Int)+1)) w.e)=Wo.e {w with holds:=WV w.holds ((k:Int)+1)}:=(woG (w:={w with holds:=WV w.holds ((k:Int)+1)}) hk aC).2.2.1;rw[zL,WqO (w:={w with holds:=WV w.holds ((k:Int)+1)}) hk aC (by omega),Wts hk aC iY hN];have dP:∀(A:Option ((Y_World×Unit)×Unit)),A=some (((Wo.put (
   if x.phase=0 then Wdk w x k else
   if x.phase=1 then Wfi w x k p else
   if x.phase=2 then(w,WbY x)else
   if x.phase=3 then WaT w x else
   if x.phase=4 then(w,WaG w x)else
   if x.phase=5 then Wal w x k else
   if x.phase=6 then(if x.undos.length>0 then Wdv w x else(w,{x with phase:=7}))else
   if x.phase=7 then
    (if x.fate=0 then({w with holds:=WV w.holds ((k:Int)+1)},{tries:=x.tries+1})
     else WjJ {w with holds:=WV w.holds ((k:Int)+1)} x k)
   else(w,x)) k).e,()),())->¬(x.doomed=true/\1<=x.phase/\x.phase<=4)->A=some (((Wo.put (
   if x.doomed=true/\1<=x.phase/\x.phase<=4 then(w,WcI x)else
   if x.phase=0 then Wdk w x k else
   if x.phase=1 then Wfi w x k p else
   if x.phase=2 then(w,WbY x)else
   if x.phase=3 then WaT w x else
   if x.phase=4 then(w,WaG w x)else
   if x.phase=5 then Wal w x k else
   if x.phase=6 then(if x.undos.length>0 then Wdv w x else(w,{x with phase:=7}))else
   if x.phase=7 then
    (if x.fate=0 then({w with holds:=WV w.holds ((k:Int)+1)},{tries:=x.tries+1})
     else WjJ {w with holds:=WV w.holds ((k:Int)+1)} x k)
   else(w,x)) k).e,()),()):=λA hA hn=>by rw[if_neg hn];exact hA
 have ng:(if x.phase=0 then(some (((Wo.put (Wdk w x k) k).e,()),()):Option ((Y_World×Unit)×Unit)).bind (λo6=>some ((o6.1.1,()),()))
   else if x.phase=1 then(Zhg N w.e (k:Int) p).bind (λo7=>some ((o7.1.1,()),()))
   else if x.phase=2 then(Zhh N x.e).bind (λo8=>some ((S5 (Xl (w.roots.map Rt.e) (Xb (k:Int)) o8.1.1) w.e,()),()))
   else if x.phase=3 then(Zdk N x.e).bind (λo9=>if(x.undos.length:Int)>o9.2.1.2.2.2 then(Zcc N w.e (Xb (k:Int))).bind (λca=>some ((ca.1.1,()),()))else some ((S5 (Xl (w.roots.map Rt.e) (Xb (k:Int)) (S6 0 (S5 w.mem.1 (S0 4 x.e)))) w.e,()),()))
   else if x.phase=4 then(Zfs N w.e (Xb (k:Int))).bind (λiS=>some ((iS.1.1,()),()))
   else if x.phase=5 then(Zft N w.e (k:Int)).bind (λew=>some ((ew.1.1,()),()))
   else if x.phase=6 then(if(x.undos.length:Int)>0 then(Zcc N w.e (Xb (k:Int))).bind (λcG=>some ((cG.1.1,()),()))else some ((S5 (Xl (w.roots.map Rt.e) (Xb (k:Int)) (7,x.e.2)) w.e,()),()))
   else if x.phase=7 then(if x.fate=0 then some ((S5 (Xl (w.roots.map Rt.e) (Xb (k:Int)) ((0:Int),(x.e.2.1+1,((0:Int),((0:Int),((0:Int),((0:Int),((0:Int),((0:Int),((0:Int),((0:Int),((0:Int),(false,(([]:List Int),(([]:List Kc),(([]:List Kc),(([]:List Kj),(([]:List Kb),(([]:List Int),(false,(((0:Int),((0:Int),((0:Int),(0:Int)))),(((0:Int),((0:Int),((0:Int),((0:Int),((0:Int),(([]:List Kc),([]:List Int))))))),d_Family)))))))))))))))))))))) (S4 (WV w.holds ((k:Int)+1)) w.e),()),())else(some (((Wo.put (WjJ {w with holds:=WV w.holds ((k:Int)+1)} x k) k).e,()),()):Option ((Y_World×Unit)×Unit)).bind (λmN=>some ((mN.1.1,()),())))
   else some ((w.e,()),()))=some (((Wo.put (
   if x.phase=0 then Wdk w x k else
   if x.phase=1 then Wfi w x k p else
   if x.phase=2 then(w,WbY x)else
   if x.phase=3 then WaT w x else
   if x.phase=4 then(w,WaG w x)else
   if x.phase=5 then Wal w x k else
   if x.phase=6 then(if x.undos.length>0 then Wdv w x else(w,{x with phase:=7}))else
   if x.phase=7 then
    (if x.fate=0 then({w with holds:=WV w.holds ((k:Int)+1)},{tries:=x.tries+1})
     else WjJ {w with holds:=WV w.holds ((k:Int)+1)} x k)
   else(w,x)) k).e,()),()):=by
  rw[Xj];by_cases h0:x.phase=0
  .rw[if_pos h0,if_pos h0];rfl
  .rw[if_neg h0,if_neg h0];by_cases h1:x.phase=1
   .rw[if_pos h1,if_pos h1,Wu2 hk aC mp hp (hx.live (by omega)) hx.undos h.mem h.shelf h.holds hN];rfl
   .rw[if_neg h1,if_neg h1];by_cases h2:x.phase=2
    .rw[if_pos h2,if_pos h2,WtW hp (hx.live (by omega)) h2 hN];exact Wc5 rfl rfl rfl
    .rw[if_neg h2,if_neg h2];by_cases h3:x.phase=3
     .have hl:=hx.live (by omega);obtain⟨z1,z2,z3,z4,z5,z6⟩:=hl.sz hp.code;rw[if_pos h3,if_pos h3,WlI (hl.back (.inl h3)) (by omega)];simp only[Xc];have gJ:=(hl.mk24 hp.code (hl.back (.inl h3)));obtain⟨m,q,e1,e2,_,_,_,_,_,_,_,_,_,ju⟩:=gJ;unfold WaT;by_cases hgt:(x.undos.length:Int)>x.last.2.2.2.1
      .rw[if_pos hgt,if_pos hgt,WkZ hk aC (by omega) (by omega) hx.undos h.shelf hN];rfl
      .rw[if_neg hgt,if_neg hgt];exact Wc5 rfl rfl rfl
     .rw[if_neg h3,if_neg h3];by_cases h4:x.phase=4
      .rw[if_pos h4,if_pos h4,WpT hk aC hp (hx.live (by omega)) h4 h.mem];rfl
      .rw[if_neg h4,if_neg h4];by_cases h5:x.phase=5
       .rw[if_pos h5,if_pos h5,Wp8 hk aC mp (hx.comm h5) h.mem hh hN];rfl
       .rw[if_neg h5,if_neg h5];by_cases h6:x.phase=6
        .rw[if_pos h6,if_pos h6];by_cases hz:x.undos.length>0
         .rw[if_pos (by omega),if_pos hz,WkZ hk aC (by omega) (by omega) hx.undos h.shelf hN];rfl
         .rw[if_neg (by omega),if_neg hz];exact Wc5 rfl rfl rfl
        .rw[if_neg h6,if_neg h6];by_cases h7:x.phase=7
         .rw[if_pos h7,if_pos h7];by_cases hf:x.fate=0
          .rw[if_pos hf,if_pos hf,hS4];exact Wc5 (w:=w) (w':={w with holds:=WV w.holds ((k:Int)+1)}) (x':={tries:=x.tries+1}) rfl rfl rfl
          .rw[if_neg hf,if_neg hf];rfl
         .rw[if_neg h7,if_neg h7,eO]
 rw[WhJ];by_cases hd:x.doomed=true
 .rw[if_pos hd];by_cases aV:1<=x.phase/\x.phase<=4
  .rw[decide_eq_true aV.1,decide_eq_true aV.2,if_pos (show x.doomed=true/\1<=x.phase/\x.phase<=4 from⟨hd,aV⟩),Xj];exact Wc5 rfl rfl rfl
  .have hb:(decide (1<=x.phase)&&decide (x.phase<=4))=false:=by
    rw[Xcn,decide_eq_false_iff_not,decide_eq_false_iff_not];omega
   rw[hb];exact dP _ ng (λhc=>aV hc.2)
 .rw[if_neg hd];exact dP _ ng (λhc=>hd hc.1)
end
end
section
noncomputable def Wmc(p:Pg):Bool:=p.2.all WgX&&(WoX p.1&&(decide (p.2.length<=3)&&beq (p.1.any λo=>o.1==11) (decide (p.2.length>0))))
noncomputable def WjB(s:Sc):Bool:=WtL s.1&&(decide (s.2.1.length<=4)&&(decide (s.2.2.length<=400)&&s.2.1.all Wmc))
structure PB(p:Pg):Prop where
 code:p.1.length<=1000
 kids:p.2.length<=1000
 each:∀c∈p.2,c.length<=1000
structure SB(s:Sc):Prop where
 cells:s.1.1.length<=100
 map:s.1.2.1.length<=100
 progs:s.2.1.length<=100
 each:∀p∈s.2.1,PB p
 acts:s.2.2.length<=1000
variable{N:Nat}{s:Sc}{p:Pg}{w:Wo}{n:Int}{a:Ac}
theorem WvD(h:Wmc p=true):POk p:=by
 unfold Wmc at h;simp only[Xh,Xae,decide_eq_true_eq]at h;exact⟨Wwd h.2.1,λc hc=>WwR (h.1 c hc),h.2.2.1⟩
theorem WeG(h:WjB s=true):ThOk s.1/\s.2.1.length<=4/\s.2.2.length<=400/\∀p∈s.2.1,POk p:=by
 unfold WjB at h;simp only[Xh,Xae,decide_eq_true_eq]at h;exact⟨Wpf.1 h.1,h.2.1,h.2.2.1,λp hp=>WvD (h.2.2.2 p hp)⟩
theorem Won{α:Type}(l:List α)(k:Nat):decide ((Wb l)<=(k:Int))=decide (l.length<=k):=by
 unfold Wb;by_cases h:l.length<=k
 .rw[decide_eq_true h,decide_eq_true (by omega)]
 .rw[decide_eq_false h,decide_eq_false (by omega)]
theorem Wij{α:Type}(l:List α)(k:Nat):decide ((Wb l)>(k:Int))=decide (l.length>k):=by
 unfold Wb;by_cases h:l.length>k
 .rw[decide_eq_true h,decide_eq_true (by omega)]
 .rw[decide_eq_false h,decide_eq_false (by omega)]
theorem Wip(l k:Nat):decide (l>k)= !decide (l<=k):=by
 by_cases h:l<=k
 .rw[decide_eq_true h,decide_eq_false (by omega)];rfl
 .rw[decide_eq_false h,decide_eq_true (by omega)];rfl
theorem Wng{l:List Opn}(hl:l.length<=1048576)(hN:1048576<N):Zg2 N l=ret (l.any λo=>o.1==11):=by
 unfold Zg2 Za0 Z4;have h1:=Wly (l:=l) (p:=λo=>o.1==11) (N:=N) (lp:=λn j=>Zl N l (λaL=>(some ((),(aL,())))) (λaO bh=>(some ((),((-1:Int),())))) n j) (K0:=λj=>some ((),(j,()))) (K1:=some ((),((-1:Int),()))) (by omega) (by omega)
  (λn j hj=>by
   simp only[Zl,Waf hj,Wn hj,Wq hj,Wg (show j<4611686018427387904 by omega),cond_true,Zmk,Xc])
  (λn=>by simp only[Zl,Waw (Xn _),cond_false])
 rw[h1];have h2:=Wkd (p:=λo:Opn=>o.1==11) l 0;cases hf:fnd (λo:Opn=>o.1==11) l 0 with
 |some r=>
  rw[hf]at h2;simp only[Xc,decide_eq_true (show((r.1:Int)>=0) by omega),ret];rw[←h2];rfl
 |none=>
  rw[hf]at h2;rw[←h2];rfl
theorem Wl8(h:PB p)(hN:1048576<N):Zhz N p=ret (Wmc p):=by
 have hc:=h.code;have hk:=h.kids;unfold Zhz Wmc;have h1:=WE (l:=p.2) (V:=Unit) (R:=Unit×Ko) (lp:=λn j v=>Zc7 N p.2 p (some ((),(false,()))) (λaL aO=>
  ((Zcu N p.1).bind λcG=>
 (bif cG.2.1 then
 (bif decide ((Wb p.2)<=(3:Int))then
 ((Zg2 N p.1).bind λdU=>
 (some ((),(beq dU.2.1 (decide ((Wb p.2)>(0:Int))),()))))
 else
 (some ((),(false,()))))
 else
 (some ((),(false,())))))) n j) (n:=N) (by omega)
  (body:=λj x v k=>(Zha N x).bind λo=>bif !o.2.1 then some ((),(false,()))else k v) (K:=λ_ v=>((Zcu N p.1).bind λcG=>
 (bif cG.2.1 then
 (bif decide ((Wb p.2)<=(3:Int))then
 ((Zg2 N p.1).bind λdU=>
 (some ((),(beq dU.2.1 (decide ((Wb p.2)>(0:Int))),()))))
 else
 (some ((),(false,()))))
 else
 (some ((),(false,()))))))
  (λn i v hi=>by simp only[Zc7,Waf hi,Wn hi,Wq hi,Wg (show i<4611686018427387904 by omega),cond_true])
  (λn v=>by simp only[Zc7,Waw (Xn p.2.length),cond_false]) ()
 refine h1.trans ?_;rw[WaE (p:=λx=>!WgX x) (E:=λ_=>some ((),(false,()))) p.2 0 () (λj x v k hx=>by rw[Wof (by have:=h.each x hx;omega) hN];rfl),Wcx,Whe (by omega) hN,Wng (by omega) hN];simp only[ret,Xc];rw[show(3:Int)=((3:Nat):Int)from rfl,Won,show(0:Int)=((0:Nat):Int)from rfl,Wij];cases p.2.all WgX<;>cases WoX p.1<;>cases decide (p.2.length<=3)<;>rfl
theorem Wl6(h:PB p)(hN:1048576<N):Zgt N p=ret (Wmc p):=by
 have hc:=h.code;have hk:=h.kids;unfold Zgt Wmc;have h1:=WE (l:=p.2) (V:=Unit) (R:=Unit×Ko) (lp:=λn j v=>Zcb N p (some ((),(false,()))) (λkZ aL=>(some ((),(true,())))) n j) (n:=N) (by omega)
  (body:=λj x v k=>(Zg9 N x).bind λo=>bif !o.2.1 then some ((),(false,()))else k v) (K:=λ_ v=>some ((),(true,())))
  (λn i v hi=>by simp only[Zcb,Waf hi,Wn hi,Wq hi,Wg (show i<4611686018427387904 by omega),cond_true])
  (λn v=>by simp only[Zcb,Waw (Xn p.2.length),cond_false]) ()
 have h2:Zcb N p (some ((),(false,()))) (λkZ aL=>(some ((),(true,())))) N 0=ret (p.2.all WgX):=by
  refine h1.trans ?_;rw[WaE (p:=λx=>!WgX x) (E:=λ_=>some ((),(false,()))) p.2 0 () (λj x v k hx=>by rw[Wnt (by have:=h.each x hx;omega) hN];rfl),Wcx];cases p.2.all WgX<;>rfl
 rw[h2,Whh (by omega) hN,Whq (by omega) hN];simp only[ret,Xc];rw[show(3:Int)=((3:Nat):Int)from rfl,Wij,Wip,show(0:Int)=((0:Nat):Int)from rfl,Wij];generalize beq (p.1.any λo=>o.1==11) (decide (p.2.length>0))=b;cases p.2.all WgX<;>cases WoX p.1<;>cases decide (p.2.length<=3)<;>cases b<;>rfl
theorem Wjb{t:List Int×List Int×Int}(h1:t.1.length<=1048576)(h2:t.2.1.length<=1048576)(hN:1048576<N):Zgk N t=ret (WtL t):=by
 unfold Zgk WtL Wl4;have e:((Wb t.2.1) !=(8:Int))= !decide (t.2.1.length=8):=by
  by_cases h:t.2.1.length=8
  .simp[Wb,h]
  .simp[Wb,h];omega
 have h3:=WE (l:=t.2.1) (V:=Unit) (R:=Unit×Ko) (lp:=λn j v=>Zbr N t (some ((),(false,()))) (λkZ aL=>(some ((),(true,())))) n j) (n:=N) (by omega)
  (body:=λj x v k=>bif !(decide (0<=x)&&decide (x<=65536))then some ((),(false,()))else k v) (K:=λ_ v=>some ((),(true,())))
  (λn i v hi=>by simp only[Zbr,Waf hi,Wn hi,Wq hi,Wg (show i<4611686018427387904 by omega),cond_true,Wdz,ret,Xc])
  (λn v=>by simp only[Zbr,Waw (Xn t.2.1.length),cond_false]) ()
 have h4:Zbr N t (some ((),(false,()))) (λkZ aL=>(some ((),(true,())))) N 0=ret (t.2.1.all λx=>decide (0<=x)&&decide (x<=65536)):=by
  refine h3.trans ?_;rw[WaE (p:=λx=>!(decide (0<=x)&&decide (x<=65536))) (E:=λ_=>some ((),(false,()))) t.2.1 0 () (λj x v k _=>rfl),Wcx];cases t.2.1.all _<;>rfl
 rw[WmZ h1 hN,e,WM,h4];cases WeD t.1<;>cases decide (t.2.1.length=8)<;>cases Wbi t.2.2<;>cases t.2.1.all _<;>rfl
theorem Wi8(h:SB s)(hN:1048576<N):Zgl N s=ret (WjB s):=by
 have h1:=h.cells;have h2:=h.map;have h3:=h.progs;unfold Zgl WjB;have h4:=WE (l:=s.2.1) (V:=Unit) (R:=Unit×Ko) (lp:=λn j v=>Zbs N s (some ((),(false,()))) (λi9 aA=>(some ((),(true,())))) n j) (n:=N) (by omega)
  (body:=λj x v k=>(Zgt N x).bind λo=>bif !o.2.1 then some ((),(false,()))else k v) (K:=λ_ v=>some ((),(true,())))
  (λn i v hi=>by simp only[Zbs,Waf hi,Wn hi,Wq hi,Wg (show i<4611686018427387904 by omega),cond_true])
  (λn v=>by simp only[Zbs,Waw (Xn s.2.1.length),cond_false]) ()
 have h5:Zbs N s (some ((),(false,()))) (λi9 aA=>(some ((),(true,())))) N 0=ret (s.2.1.all Wmc):=by
  refine h4.trans ?_;rw[WaE (p:=λx=>!Wmc x) (E:=λ_=>some ((),(false,()))) s.2.1 0 () (λj x v k hx=>by rw[Wl6 (h.each x hx) hN];rfl),Wcx];cases s.2.1.all Wmc<;>rfl
 rw[h5,Wjb (by omega) (by omega) hN];simp only[ret,Xc];rw[show(4:Int)=((4:Nat):Int)from rfl,Wij,Wip,show(400:Int)=((400:Nat):Int)from rfl,Wij,Wip];cases WtL s.1<;>cases decide (s.2.1.length<=4)<;>cases decide (s.2.2.length<=400)<;>rfl
theorem Wfo(h:SB s)(hN:1048576<N):Zh7 N s=ret (WjB s):=by
 have h1:=h.cells;have h2:=h.map;have h3:=h.progs;unfold Zh7 WjB Zap Zx;have h4:=WE (l:=s.2.1) (V:=Unit) (R:=Unit×Kh) (lp:=λn j v=>Ze N s.2.1 (λaL=>(some ((),(aL,())))) (λaO bh=>(some ((),((-1:Int),())))) n j) (n:=N) (by omega)
  (body:=λj x v k=>(Zin N x).bind λo=>bif o.2.1 then some ((),(j,()))else k v) (K:=λ_ v=>some ((),((-1:Int),())))
  (λn i v hi=>by simp only[Ze,Waf hi,Wn hi,Wq hi,Wg (show i<4611686018427387904 by omega),cond_true])
  (λn v=>by simp only[Ze,Waw (Xn s.2.1.length),cond_false]) ()
 have h5:((Ze N s.2.1 (λaL=>(some ((),(aL,())))) (λaO bh=>(some ((),((-1:Int),())))) N 0).bind λo2=>some ((),(decide (o2.2.1>=(0:Int)),())))=ret (!s.2.1.all Wmc):=by
  have h6:=h4;rw[h6,Wgs (p:=λx=>!Wmc x) (E:=λj _=>some ((),(j,()))) s.2.1 0 () (λj x v k hx=>by unfold Zin;rw[Wl8 (h.each x hx) hN];rfl)];have h7:=Wkd (p:=λx=>!Wmc x) s.2.1 0;rw[Wcx]at h7;rw[←h7];cases hf:fnd (λx=>!Wmc x) s.2.1 0 with
  |some r=>simp only[Xc,decide_eq_true (show((r.1:Int)>=0) by omega)];rfl
  |none=>rfl
 rw[Wi9 (by omega) (by omega) hN];simp only[ret,Xc];rw[h5,show(4:Int)=((4:Nat):Int)from rfl,Won,show(400:Int)=((400:Nat):Int)from rfl,Won];cases WtL s.1<;>cases decide (s.2.1.length<=4)<;>cases decide (s.2.2.length<=400)<;>cases s.2.1.all Wmc<;>rfl
end
section
variable{N:Nat}{s:Sc}{p:Pg}{w:Wo}{n:Int}{a:Ac}{k:Nat}
theorem WgA{ps:List Pg}(h:∀p∈ps,POk p)(hk:k<ps.length):POk (ps.getD k pg0):=by
 rw[Wf hk];exact h _ (Xx hk)
theorem WOk.tick(h:WOk s.2.1 n w):WOk s.2.1 (n+1) {w with now:=w.now+1}:=
 {h with now:=by(have:=h.now;show w.now+1=n+1;omega),n0:=by have:=h.n0;omega,hist:=by(have:=h.hist;show(w.hist.length:Int)<=n+1;omega),root:=λk hk=>(h.root k hk).wk (by omega)}
theorem WOk.putQ{q:Wo×Rt}{w0:Wo}(h:WOk s.2.1 (n+1) {w0 with now:=w0.now+1})(hh:(w0.hist.length:Int)<=n)(hk:k<w0.roots.length)(hq:QOk (s.2.1.getD k pg0) (n+1) {w0 with now:=w0.now+1} q):WOk s.2.1 (n+1) (Wo.put q k):=by
 have hr:q.1.roots=w0.roots:=hq.roots;exact{
  len:=by show(q.1.roots.set k q.2).length=_;rw[Xaa,hr];exact h.len
  l4:=h.l4
  progs:=h.progs
  now:=hq.now.trans h.now
  n0:=h.n0
  mem:=hq.mem
  shelf:=hq.shelf
  holds:=hq.holds
  histE:=λe he=>(hq.histE e he).elim (h.histE e) id
  hist:=by have:=hq.hist;show(q.1.hist.length:Int)<=n+1;(change q.1.hist.length<=w0.hist.length+1 at this);omega
  root:=λi hi=>by
   change i<(q.1.roots.set k q.2).length at hi;rw[Xaa,hr]at hi;show ROk _ _ ((q.1.roots.set k q.2)[i]);rw[Xam];by_cases he:k=i
   .subst he;rw[if_pos rfl];exact hq.root
   .rw[if_neg he];have:=h.root i hi;simp only[hr];exact this}
theorem Wcy(h:WOk s.2.1 n w):WOk s.2.1 (n+1) (Wc6 s w a):=by
 have ht:=h.tick;unfold Wc6;simp only;split
 .rename_i hb;have hk:a.2.1.toNat<w.roots.length:=by omega
  have hx:=ht.root a.2.1.toNat hk;have tQ:=h.root a.2.1.toNat hk;have hg:GOk {w with now:=w.now+1}:=⟨h.mem,h.shelf,h.holds⟩;have hp:=WgA h.progs (show a.2.1.toNat<s.2.1.length by rw[←h.len];exact hk);have iY:w.roots.length<=4:=by rw[h.len];exact h.l4
  rw[Wf hk];split
  .unfold Wje;rw[Wf (show a.2.1.toNat<({w with now:=w.now+1}:Wo).roots.length from hk)];exact ht.putQ h.hist hk (WhM hp hg tQ (by omega) h.n0)
  .split
   .split
    .rename_i hf;refine ht.putQ h.hist hk (hg.st ?_);have hl:=tQ.live (by omega);obtain⟨f1,f2,f3⟩:=hl.fork hf.1;have hj:a.2.2.toNat<(s.2.1.getD a.2.1.toNat pg0).2.length:=by omega
     have dp:a.2.2.toNat<w.roots[a.2.1.toNat].fam.kids.length:=by rw[f3.len];exact hj
     have bg:KC ((s.2.1.getD a.2.1.toNat pg0).2.getD a.2.2.toNat []):=by rw[Wf hj];exact hp.kids _ (Xx hj)
     exact{hx with live:=λ_=>{hl.wk (show n<=n+1 by omega)with fork:=λ_=>⟨f1,f2,WkU dp h.mem bg f3 rfl⟩}}
    .exact ht
   .split
    .split
     .refine ht.putQ h.hist hk (hg.st ?_);exact{hx with live:=λhh=>{hx.live hh with}}
     .exact ht
    .exact ht
 .exact ht
theorem Wn6(h:WOk s.2.1 n w)(hn:n<=99999)(hN:1048576<N):Zf1 N w.e s a=some (((Wc6 s w a).e,()),()):=by
 have ht:=h.tick;have pX:=h.now;have ue:=h.n0;have iY:w.roots.length<=4:=by rw[h.len];exact h.l4
 unfold Zf1 Wc6;simp only[Wt];rw[show P5 w.e=w.roots.map Rt.e from rfl,show w.e.1=w.now from rfl,WcG (by omega)];have hlen:Wb (w.roots.map Rt.e)=(w.roots.length:Int):=by unfold Wb;simp
 rw[hlen,Wan (by unfold I64;omega)];simp only[Wk,ret,Xc];by_cases hb:0<=a.2.1/\a.2.1<w.roots.length
 .rw[if_pos hb,decide_eq_true hb.1,decide_eq_true (show a.2.1<=(w.roots.length:Int) -1 by omega)];obtain⟨k,zM⟩:∃k:Nat,a.2.1=k:=⟨a.2.1.toNat,by omega⟩;have hk:k<w.roots.length:=by omega
  obtain⟨x,aC⟩:∃x,w.roots[k]=x:=⟨_,rfl⟩;have hx:=h.root k hk;rw[aC]at hx;have kU:k<s.2.1.length:=by rw[←h.len];exact hk
  have hp:=WgA h.progs kU;obtain⟨g1,g2,g3,g4,g5⟩:=woG hk aC;obtain⟨r0,r1,r2,r3,r4,r5,r6,r7,r8,jZ,jv,iA,iB,iW,iX,kK,kL,j8,j9,kM,kN,kO⟩:=rtP x;have eO:∀y:Rt,(w.now+1,S4 (Xl (w.roots.map Rt.e) k y.e) w.e.2)=Wo.e (Wo.put ({w with now:=w.now+1},y) k):=λy=>by
   unfold Wo.put Wo.e;simp only[List.map_set];rfl
  have bo:Wo.put ({w with now:=w.now+1},x) k={w with now:=w.now+1}:=by unfold Wo.put;simp only;rw[←aC,Xbe]
  simp only[zM,Xj,Xbu,Xab,cond_false];rw[g1,g4,Wf hk,aC];simp only[cond_true,r0,j8,j9,eO,bo,show w.e.2.2.1=w.mem from rfl];rw[W7,decide_eq_true kU];have zN:Xd s.2.1 k (([]:List Ka),([]:List Kx))=s.2.1.getD k pg0:=rfl;rw[zN];generalize gg:s.2.1.getD k pg0=p at*;have hg:GOk {w with now:=w.now+1}:=⟨h.mem,h.shelf,h.holds⟩;simp only[cond_true,Wu];have aQ:Zgw N (Wo.e {w with now:=w.now+1}) (k:Int) p=some (((Wo.put (W2 {w with now:=w.now+1} x k p) k).e,()),()):=
   Ws1 (w:={w with now:=w.now+1}) hk aC (by show w.roots.length<=8;omega) hp hg hx (by omega) (by have:=h.hist;show w.hist.length<=500000;omega) hN
  rw[aQ];by_cases h1:a.1=1
  .rw[if_pos h1,if_pos h1];unfold Wje;rw[Wf (show k<({w with now:=w.now+1}:Wo).roots.length from hk)];simp only[aC,Xc]
  .rw[if_neg h1,if_neg h1];by_cases h2:a.1=2
   .rw[if_pos h2,if_pos h2];by_cases hf:x.phase=2
    .rw[if_pos hf,Wan (by have:=hp.k3;unfold I64 Wb;omega),show Wb p.2=(p.2.length:Int)from rfl];by_cases hj:0<=a.2.2/\a.2.2<p.2.length
     .rw[decide_eq_true hj.1,decide_eq_true (show a.2.2<=(p.2.length:Int) -1 by omega),if_pos (show x.phase=2/\0<=a.2.2/\a.2.2<p.2.length from⟨hf,hj⟩)];obtain⟨j,nD⟩:∃j:Nat,a.2.2=j:=⟨a.2.2.toNat,by omega⟩;have hj':j<p.2.length:=by omega
      simp only[nD,Xj,Xbu,cond_true];rw[W7,decide_eq_true hj'];obtain⟨f1,f2,f3⟩:=(hx.live (by omega)).fork hf;have bg:KC (p.2.getD j []):=by rw[Wf hj'];exact hp.kids _ (Xx hj')
      rw[Wkk (code:=p.2.getD j []) (by rw[f3.len];exact hj') (by rw[f3.len];exact hp.k3) h.mem bg f3 rfl (by omega) hN];simp only[Xc,cond_true];have:U21 (Wcz w.mem x.fam j (p.2.getD j [])).e x.e=Rt.e {x with fam:=Wcz w.mem x.fam j (p.2.getD j [])}:=rfl;rw[this,eO];unfold WwU;rfl
     .rw[if_neg (show¬(x.phase=2/\0<=a.2.2/\a.2.2<p.2.length)fromλhc=>hj hc.2)];have mz:(decide (0<=a.2.2)&&decide (a.2.2<=(p.2.length:Int) -1))=false:=by
       rw[Xcn,decide_eq_false_iff_not,decide_eq_false_iff_not];omega
      rw[mz];rfl
    .rw[if_neg hf,if_neg (show¬(x.phase=2/\0<=a.2.2/\a.2.2<p.2.length)fromλhc=>hf hc.1)]
   .rw[if_neg h2,if_neg h2];by_cases h3:a.1=3
    .rw[if_pos h3,if_pos h3];have hd:S11 true x.e=Rt.e {x with doomed:=true}:=rfl;simp only[hd,eO,show(Cm.e x.cm).2.2.1=x.cm.phase from rfl,Wav];by_cases aV:1<=x.phase/\x.phase<=4
     .rw[decide_eq_true aV.1,decide_eq_true aV.2,if_pos (show(1<=x.phase/\x.phase<=4)\/(x.phase=5/\x.cm.phase<=3)from .inl aV)];rfl
     .have mz:(decide (1<=x.phase)&&decide (x.phase<=4))=false:=by
       rw[Xcn,decide_eq_false_iff_not,decide_eq_false_iff_not];omega
      rw[mz];simp only[cond_false];by_cases h5:x.phase=5
      .rw[if_pos h5];by_cases hc:x.cm.phase<=3
       .rw[if_pos hc,if_pos (show(1<=x.phase/\x.phase<=4)\/(x.phase=5/\x.cm.phase<=3)from .inr ⟨h5,hc⟩)]
       .rw[if_neg hc,if_neg (show¬((1<=x.phase/\x.phase<=4)\/(x.phase=5/\x.cm.phase<=3)) by omega)]
      .rw[if_neg h5,if_neg (show¬((1<=x.phase/\x.phase<=4)\/(x.phase=5/\x.cm.phase<=3)) by omega)]
    .rw[if_neg h3,if_neg h3]
 .rw[if_neg hb];have mz:(decide (0<=a.2.1)&&decide (a.2.1<=(w.roots.length:Int) -1))=false:=by
   rw[Xcn,decide_eq_false_iff_not,decide_eq_false_iff_not];omega
  rw[mz];rfl
theorem WiG(h:WjB s=true):WOk s.2.1 0 (WfH s):=by
 obtain⟨h1,h2,h3,h4⟩:=WeG h;exact{
  len:=by simp[WfH]
  l4:=h2
  progs:=h4
  now:=rfl
  n0:=Xv _
  mem:=by
   show WZ (Wmp s.1.1)=true;have:=h1.cells.len;unfold WZ Wmp;simp only[Xaj,this,decide_true,Xbq,Xh,decide_eq_true_eq,Xae];refine⟨by omega,λw hw=>?_⟩;obtain⟨v,hv,rfl⟩:=Xu.1 hw;have:=h1.cells.val v hv;rw[Wdt];unfold wd0;simp only;omega
  shelf:=⟨Wrf h1.map.1 h1.map.2,h1.cnt⟩
  holds:=⟨(λh hh=>by cases hh),List.Pairwise.nil⟩
  hist:=by simp[WfH]
  histE:=λh hh=>by cases hh
  root:=λk hk=>by
   simp only[WfH,Xbg];exact{
    phase:=by simp
    tries:=by simp
    live:=λhh=>by simp at hh
    comm:=λhh=>by simp at hh
    undos:=λu hu=>by cases hu
    ul:=by simp
    rg:=by simp
    ord:=by simp}}
theorem Wrn:∀(l:List Ac) (n:Int) (w:Wo),WOk s.2.1 n w->WOk s.2.1 (n+l.length) (l.foldl (Wc6 s) w)
 | [],n,w,h=>by simpa using h
 |a::l,n,w,h=>by
  have:=Wrn l (n+1) _ (Wcy (a:=a) h);rw[Xdh,List.length_cons];rw[show n+((l.length+1:Nat):Int)=n+1+l.length by omega];exact this
theorem WkA(h:WjB s=true):WOk s.2.1 s.2.2.length (Web s):=by
 have:=Wrn s.2.2 0 _ (WiG h);rw[Int.zero_add]at this;exact this
end
section
section
variable{N:Nat}{c:Cur}
theorem WgY{b7:Int}{l8:List Int}(h8:l8.length=8):∀(n i:Nat) (c:Cur) (l:List Int),8-i<n->i<=8->WaH c->l.length=i->
  Drw (λv:Kf×Unit=>v.1.1.length=8/\v.1.2.1.length=8) (Zch N b7 l8 (λy7 gR u6 cM=>(some ((u6,()),((l8,(cM,b7)),())))) n (i:Int) c l)
 |0,i,c,l,h,_,_,_=>by omega
 |n+1,i,c,l,h,hi,hc,hl=>by
  unfold Zch;refine .bif (λh0=>?_) λh0=>.ok hc ⟨h8,?_⟩
  .have h0:(i:Int)<8:=of_decide_eq_true h0;have e:We .i64 (i:Int) 1=((i+1:Nat):Int):=Wg (by omega);simp only[e];refine(WdY 2 hc).bind λc b hc _=>.bif (λ_=>?_) λ_=>?_
   .exact(WwJ hc).bind λc v hc hv=>.bifT (Ws (by simp;omega)) (WgY h8 n (i+1) c _ (by omega) (by omega) hc (by simp[Xaf];omega))
   .exact .bifT (Ws (by simp;omega)) (WgY h8 n (i+1) c _ (by omega) (by omega) hc (by simp[Xaf];omega))
  .have h0:¬(i:Int)<8:=of_decide_eq_false h0;simp only;omega
theorem WqS(hN:1048576<N)(hc:WaH c):Drw (λv:Kf×Unit=>v.1.1.length=8/\v.1.2.1.length=8) (Zex N c):=by
 unfold Zex;exact(Ww7 hN hc).bind λc v hc hv=>(WwJ hc).bind λc w hc hw=>WgY hv N 0 c [] (by omega) (by omega) hc rfl
theorem Wqr(hN:1048576<N)(hc:WaH c):Drw (λv:Kf×Unit=>v.1.1.length<=100/\v.1.2.1.length<=100) (Zh6 N c):=by
 unfold Zh6;refine(WqS hN hc).bind λc t hc ht=>(War 16 hc).bind λc v hc hv=>.bif (λ_=>?_) λ_=>.bif (λ_=>?_) λ_=>.bif (λ_=>.ok hc (by simp only;omega)) λ_=>.bif (λ_=>?_) λ_=>.bif (λ_=>?_) λ_=>.ok hc (by simp only;omega)
 .refine .bifT (by rw[ht.1];rfl) (.ok hc ?_);simp only[Xap];omega
 .refine(War 8 hc).bind λc k hc hk=>?_;have hk:=hk.2 (by decide);refine .bifT (by unfold inb;rw[ht.2];simp;omega) (.ok hc ?_);simp only[Xaa];omega
 .refine .bifT (by rw[ht.2];rfl) (.ok hc ?_);simp only[Xap];omega
 .refine(War 8 hc).bind λc k hc hk=>?_;have hk:=hk.2 (by decide);refine .bifT (by unfold inb;rw[ht.1];simp;omega) (.ok hc ?_);simp only[Xaa];omega
theorem WuW{p:Pg}(h:p.1.length<=300/\p.2.length<=100/\∀x∈p.2,x.length<=200):PB p:=⟨by omega,by omega,λx hx=>by have:=h.2.2 x hx;omega⟩
theorem Wtn(hN:1048576<N)(hc:WaH c):Drw (λv:Pg×Unit=>PB v.1) (Zje N c):=by
 unfold Zje;refine(WdY 2 hc).bind λc b hc _=>(Wws hN hc).bind λc p hc hp=>(War 10 hc).bind λc v hc hv=>.bif (λ_=>?_) λ_=>.bif (λ_=>.bif (λh0=>?_) λ_=>.ok hc (WuW hp)) λ_=>.bif (λ_=>?_) λ_=>.bif (λ_=>.ok hc ⟨by have:=hp.1;simp only;omega,by simp,by simp⟩) λ_=>.ok hc (WuW hp)
 .exact(Wwu hN hc (by have:=hp.1;simp only;omega)).bind λc w hc hw=>.ok hc ⟨by simp only;omega,by have:=hp.2.1;simp only;omega,λx hx=>by have:=hp.2.2 x hx;omega⟩
 .have h0:Wb p.1.2>0:=of_decide_eq_true h0;refine(War (Wb p.1.2) hc).bind λc k hc hk=>?_;have hk:=hk.2 h0;unfold Wb at hk;have jw:inb k.1 p.1.2.length=true:=by unfold inb;simp;omega
  refine .bifT jw ((Wwu hN hc ?_).bind λc w hc hw=>.bifT jw (.ok hc ⟨by have:=hp.1;simp only;omega,by have:=hp.2.1;simp only[Xaa];omega,λx hx=>?_⟩))
  .rw[Wf (show k.1.toNat<p.1.2.length by omega)];have:=hp.2.2 _ (Xx (show k.1.toNat<p.1.2.length by omega));omega
  .rcases Xcw hx with hx|hx
   .have:=hp.2.2 x hx;omega
   .subst hx;show w.1.length<=1000;omega
 .refine .bifT (Ws (by have:=hp.2.1;simp;omega)) (.ok hc ⟨by have:=hp.1;simp only;omega,by have:=hp.2.1;simp[Xaf];omega,λx hx=>?_⟩);simp[Xaf]at hx;rcases hx with hx|hx
  .have:=hp.2.2 x hx;omega
  .subst hx;simp
theorem Wow{n4 aB:Int}(hm:aB<=600):∀(n i:Nat) (who:Int) (c:Cur) (l:List Ac),1000-i<n->i<=700->WaH c->l.length=i->
  Drw (λv:List Ac×Unit=>v.1.length<=700) (Zz N n4 aB (λmT xK t45 cH l0=>(some ((cH,()),(l0,())))) n who (i:Int) c l)
 |0,i,who,c,l,h,_,_,_=>by omega
 |n+1,i,who,c,l,h,hi,hc,hl=>by
  unfold Zz;refine .bif (λh0=>?_) λh0=>.ok hc (by simp only;omega);have h0:(i:Int)<aB:=of_decide_eq_true h0;have e:We .i64 (i:Int) 1=((i+1:Nat):Int):=Wg (by omega);simp only[e];have hr:∀(a:Ac),Wy (l.length+ [a].length)=true:=λa=>Ws (by simp;omega);have aW:∀(who:Int) (c:Cur) (a:Ac),WaH c->Drw (λv:List Ac×Unit=>v.1.length<=700) (Zz N n4 aB (λmT xK t45 cH l0=>(some ((cH,()),(l0,())))) n who ((i+1:Nat):Int) c (List.append l [a])):=λwho c a hc=>Wow hm n (i+1) who c _ (by omega) (by omega) hc (by simp[Xaf];omega);refine(WdY 3 hc).bind λc b hc _=>.bif (λ_=>?_) λ_=>?_
  .refine(War n4 hc).bind λc k hc _=>(WdY 2 hc).bind λc b hc _=>.bif (λ_=>?_) λ_=>?_
   .refine(War 3 hc).bind λc j hc _=>(WdY 2 hc).bind λc b hc _=>.bif (λ_=>?_) λ_=>?_
    .exact(WdY 40 hc).bind λc b hc _=>.bif (λ_=>.bifT (hr _) (aW _ _ _ hc)) λ_=>.bifT (hr _) (aW _ _ _ hc)
    .exact(WdY 40 hc).bind λc b hc _=>.bif (λ_=>.bifT (hr _) (aW _ _ _ hc)) λ_=>.bifT (hr _) (aW _ _ _ hc)
   .exact(WdY 40 hc).bind λc b hc _=>.bif (λ_=>.bifT (hr _) (aW _ _ _ hc)) λ_=>.bifT (hr _) (aW _ _ _ hc)
  .refine(WdY 2 hc).bind λc b hc _=>.bif (λ_=>?_) λ_=>?_
   .refine(War 3 hc).bind λc j hc _=>(WdY 2 hc).bind λc b hc _=>.bif (λ_=>?_) λ_=>?_
    .exact(WdY 40 hc).bind λc b hc _=>.bif (λ_=>.bifT (hr _) (aW _ _ _ hc)) λ_=>.bifT (hr _) (aW _ _ _ hc)
    .exact(WdY 40 hc).bind λc b hc _=>.bif (λ_=>.bifT (hr _) (aW _ _ _ hc)) λ_=>.bifT (hr _) (aW _ _ _ hc)
   .exact(WdY 40 hc).bind λc b hc _=>.bif (λ_=>.bifT (hr _) (aW _ _ _ hc)) λ_=>.bifT (hr _) (aW _ _ _ hc)
theorem Ww5(hN:1048576<N){n4 aB:Int}(hm:aB<=600)(hc:WaH c):Drw (λv:List Ac×Unit=>v.1.length<=700) (Zfw N c n4 aB):=by
 unfold Zfw;exact Wow hm N 0 0 c [] (by omega) (by omega) hc rfl
structure SD(s:Sc):Prop where
 cells:s.1.1.length=8
 map:s.1.2.1.length=8
 progs:1<=s.2.1.length/\s.2.1.length<=10
 each:∀p∈s.2.1,PB p
 acts:s.2.2.length<=700
theorem Wj5(hN:1048576<N){n8 bK bv:Int}{aK bb:List Int}(hm:0<=bv/\bv<=500)(jA:aK.length=8)(na:bb.length=8)(h8:1<=n8/\n8<=4):∀(n i:Nat) (c:Cur) (l:List Pg),10-i<n->i<=4->WaH c->l.length=i->(∀p∈l,PB p)->
  Drw (λv:Sc×Unit=>SD v.1) (Zbk N 0 bv n8 bK aK bb (λy9 za u7 jT=>
  ((Zb N u7 (We .i64 bv (1:Int))).bind λjR=>
 ((Zfw N jR.1.1 n8 jR.2.1).bind λjS=>
 (some ((jS.1.1,()),(((aK,(bb,bK)),(jT,jS.2.1)),())))))) n (i:Int) c l)
 |0,i,c,l,h,_,_,_,_=>by omega
 |n+1,i,c,l,h,hi,hc,hl,hx=>by
  unfold Zbk;refine .bif (λh0=>?_) λh0=>?_
  .have h0:(i:Int)<n8:=of_decide_eq_true h0;have e:We .i64 (i:Int) 1=((i+1:Nat):Int):=Wg (by omega);simp only[e,show((0:Int)==2)=false from rfl,show((0:Int)==0)=true from rfl,cond_false,cond_true];refine(WdY 3 hc).bind λc b hc _=>(Wws hN hc).bind λc p hc hp=>.bifT (Ws (by simp;omega)) (Wj5 hN hm jA na h8 n (i+1) c _ (by omega) (by omega) hc (by simp[Xaf];omega) λq hq=>?_);simp[Xaf]at hq;rcases hq with hq|hq
   .exact hx q hq
   .subst hq;exact WuW hp
  .have h0:¬(i:Int)<n8:=of_decide_eq_false h0;have e:We .i64 bv 1=bv+1:=Wp (by unfold I64;omega);simp only[e];refine(War (bv+1) hc).bind λc k hc hk=>?_;have hk:=hk.2 (by omega);refine(Ww5 (aB:=k.1) hN (by omega) hc).bind λc a hc ha=>.ok hc ⟨jA,na,by simp only;omega,hx,ha⟩
theorem WuR(hN:1048576<N){most:Int}(hm:0<=most/\most<=500)(hc:WaH c):Drw (λv:Sc×Unit=>SD v.1) (Zfx N c 0 most):=by
 unfold Zfx;refine(WqS hN hc).bind λc t hc ht=>(War 4 hc).bind λc k hc hk=>?_;have hk:=hk.2 (by decide);have e:We .i64 1 k.1=1+k.1:=Wp (by unfold I64;omega);simp only[e];exact Wj5 hN hm ht.1 ht.2 (by omega) N 0 c [] (by omega) (by omega) hc rfl (by simp)
theorem SD.sb{s:Sc}(h:SD s):SB s:=⟨by have:=h.cells;omega,by have:=h.map;omega,by have:=h.progs;omega,h.each,by have:=h.acts;omega⟩
theorem Wpg{b7:Cur}{b9:Int}{jr ao:List Int}{aK:List Ac}(hb:WaH b7)(ch:jr.length=8)(dj:ao.length=8)(jA:aK.length<=700):∀(n:Nat) (l:List Pg),20-l.length<n->l.length<=11->(∀p∈l,PB p)->
  Drw (λv:Sc×Unit=>SB v.1) (Zfc N b7 b9 jr ao aK (λij dg=>(some ((b7,()),(((jr,(ao,b9)),(dg,aK)),())))) n l)
 |0,l,h,_,_=>by omega
 |n+1,l,h,hl,hx=>by
  unfold Zfc;refine .bif (λh0=>?_) λh0=>.ok hb ⟨by simp only;omega,by simp only;omega,by simp only;omega,hx,by simp only;omega⟩;have h0:Wb l<5:=of_decide_eq_true h0;unfold Wb at h0;refine .bifT (Ws (by simp;omega)) (Wpg hb ch dj jA n _ (by simp[Xaf];omega) (by simp[Xaf];omega) λq hq=>?_);simp[Xaf]at hq;rcases hq with hq|hq
  .exact hx q hq
  .subst hq;exact⟨by simp,by simp,by simp⟩
theorem Wo0{dF:Int}{cX bU:List Int}{cM:List Pg}(zO:cX.length=8)(vS:bU.length=8)(vY:cM.length<=11)(hx:∀p∈cM,PB p):∀(n:Nat) (c:Cur) (l:List Ac),1000-l.length<n->WaH c->l.length<=800->
  Drw (λv:Sc×Unit=>SB v.1) (Zfd N dF cX bU cM (λzb cy cZ=>(some ((cy,()),(((cX,(bU,dF)),(cM,cZ)),())))) n c l)
 |0,c,l,h,_,_=>by omega
 |n+1,c,l,h,hc,hl=>by
  unfold Zfd;refine(War 2 hc).bind λc v hc hv=>?_;have hv:=hv.2 (by decide);have e:We .i64 400 v.1=400+v.1:=Wp (by unfold I64;omega);simp only[e];refine .bif (λh0=>?_) λh0=>.ok hc ⟨by simp only;omega,by simp only;omega,by simp only;omega,hx,by simp only;omega⟩;have h0:Wb l<400+v.1:=of_decide_eq_true h0;unfold Wb at h0;exact .bifT (Ws (by simp;omega)) (Wo0 zO vS vY hx n c _ (by simp[Xaf];omega) hc (by simp[Xaf];omega))
theorem Wwp(hN:1048576<N){most:Int}(hm:0<=most/\most<=500)(hc:WaH c):Drw (λv:Sc×Unit=>SB v.1) (Zhy N c most):=by
 unfold Zhy;refine(WuR hN hm hc).bind λc s hc hs=>(War 30 hc).bind λc v hc hv=>.bif (λ_=>?_) λ_=>.bif (λ_=>?_) λ_=>.bif (λ_=>?_) λ_=>.bif (λ_=>?_) λ_=>.bif (λ_=>?_) λ_=>.ok hc hs.sb
 .exact(Wqr hN hc).bind λc t hc ht=>.ok hc ⟨ht.1,ht.2,by have:=hs.progs;simp only;omega,hs.each,by have:=hs.acts;simp only;omega⟩
 .refine(Wtn hN hc).bind λc p hc hp=>.bifT (by unfold inb;have:=hs.progs;simp;omega) (.ok hc ⟨by have:=hs.cells;simp only;omega,by have:=hs.map;simp only;omega,by have:=hs.progs;simp only[Xaa];omega,λq hq=>?_,by have:=hs.acts;simp only;omega⟩);rcases Xcw hq with hq|hq
  .exact hs.each q hq
  .subst hq;exact hp
 .exact Wpg hc hs.cells hs.map hs.acts N s.1.2.1 (by omega) (by have:=hs.progs;omega) hs.each
 .exact .bifT (Ws (by have:=hs.acts;simp;omega)) (.ok hc ⟨by have:=hs.cells;simp only;omega,by have:=hs.map;simp only;omega,by have:=hs.progs;simp only;omega,hs.each,by have:=hs.acts;simp[Xaf];omega⟩)
 .exact Wo0 hs.cells hs.map (cM:=s.1.2.1) (by have:=hs.progs;omega) hs.each N c s.1.2.2 (by omega) hc (by have:=hs.acts;omega)
theorem Ws7{code:List Int}(h:code.length<=1048576):∃v,Zmb N code 200=ret v/\0<=v/\v<=200:=by
 unfold Zmb;have e:WqD .i64 (Wb code) 20=((code.length/20:Nat):Int):=by
  unfold WqD Wb;rw[Int.tdiv_eq_ediv_of_nonneg (by omega),WvH (by unfold I64;omega)];omega
 rw[e,Wp (by unfold I64;omega),show inz (20:Int)=true from rfl];simp only[cond_true,Wav];by_cases h:2+((code.length/20:Nat):Int)>200
 .rw[if_pos h];exact⟨_,rfl,by omega,by omega⟩
 .rw[if_neg h];exact⟨_,rfl,by omega,by omega⟩
theorem Wm1(hN:1048576<N){code:List Int}(h:code.length<=1048576):∃s:Sc,Zkj N code=ret s/\SB s:=by
 unfold Zkj;obtain⟨c,hc,e0⟩:=Wto h hN;obtain⟨v,e1,hv⟩:=Ws7 (N:=N) h;have e2:We .i64 60 v=60+v:=Wp (by unfold I64;omega);obtain⟨c1,s,e3,ny,hs⟩:=Wwp (most:=60+v) hN (by omega) hc;simp only[e0,e1,ret,Xc,e2,e3];exact⟨_,rfl,hs⟩
end
end
section
theorem Wlq{N:Nat}{a:List Int}(ha:a.length<=1048576)(hN:1048576<N):Zde N a a=ret true:=by
 unfold Zde;have e:(Wb a !=Wb a)=false:=by simp
 rw[e];simp only[cond_false];have h1:=WE (l:=a) (V:=Unit) (R:=Unit×Ko) (lp:=λn j _=>Zcj N a a (some ((),(false,()))) (λi8 t9=>some ((),(true,()))) n j) (n:=N) (by omega)
  (body:=λj x v k=>k v) (K:=λ_ v=>some ((),(true,())))
  (λn i v hi=>by
   have e2:(a[i] !=a[i])=false:=by simp
   simp only[Zcj,Waf hi,Wn hi,Wq hi,Wg (show i<4611686018427387904 by omega),cond_true,e2,cond_false])
  (λn v=>by simp only[Zcj,Waw (Xn a.length),cond_false]) ()
 refine h1.trans ?_;rw[WeX (f:=λv _=>v) a 0 () (λj x v k _=>rfl)]
theorem Wwj{N:Nat}{code:List Int}(hw:∀x∈code,0<=x/\x<=255)(hl:code.length<=1048576){i:Nat}(hi:i<=1000):∃v,Zej N code (i:Int)=ret v/\0<=v/\v<=255:=by
 unfold Zej;by_cases h:i<code.length
 .have hx:=hw _ (Xx h);refine⟨code[i],?_,hx⟩;simp only[Waf h,Wn h,Wq h,cond_true];rw[wrap_i64 (by unfold I64;omega)]
 .have e:decide ((i:Int)<Wb code)=false:=by simp[Wb];omega
  have m1:Weg .i64 (i:Int) 37=(i:Int)*37:=Wdi (by unfold I64;omega);have m2:Weg .i64 (Wb code) 11=(code.length:Int)*11:=Wdi (by unfold I64 Wb;omega);have m3:We .i64 ((i:Int)*37) ((code.length:Int)*11)=(i:Int)*37+(code.length:Int)*11:=Wp (by unfold I64;omega);rw[e,m1,m2,m3];refine⟨_,rfl,?_⟩;have:WcC ((i:Int)*37+(code.length:Int)*11) 256=((i:Int)*37+(code.length:Int)*11)%256:=by unfold WcC;exact Int.tmod_eq_emod_of_nonneg (by omega)
  rw[this];omega
end
section
def stl(x:Rt):Bool:=decide (x.phase=8)||((decide (x.phase=5)&&(decide (x.cm.phase=4)||decide (x.cm.phase=5)))||((decide (x.phase=6)||decide (x.phase=7))&&decide (x.fate≠0)))
def Wf9(x:Rt):Int:=if stl x=true then(if x.phase=5 then x.cm.wv else x.stamp)else 0
theorem Wcd{x:Rt}:stl x=true↔x.phase=8\/(x.phase=5/\(x.cm.phase=4\/x.cm.phase=5))\/((x.phase=6\/x.phase=7)/\x.fate≠0):=by
 unfold stl;simp only[Bool.or_eq_true,Xh,decide_eq_true_eq]
structure RX(x:Rt):Prop where
 doom:x.doomed=true->(1<=x.phase/\x.phase<=4)\/(x.phase=5/\x.cm.phase<=3)
 fate:x.phase=5->x.fate≠0
structure Stay(x y:Rt):Prop where
 tries:x.tries<=y.tries
 st:stl x=true->stl y=true/\Wf9 y=Wf9 x/\y.fate=x.fate/\y.regs=x.regs/\y.order=x.order
structure RG(w:Wo)(x:Rt)(q:Wo×Rt):Prop where
 doom:q.2.doomed=false
 fate:q.2.phase=5->q.2.fate≠0
 tries:q.2.tries=x.tries
 mem:q.1.mem=w.mem
 hist:q.1.hist=w.hist
section
variable{w:Wo}{x y z:Rt}{k:Nat}{p:Pg}{n:Int}{o:Opn}
theorem Stay.refl(x:Rt):Stay x x:=⟨Xv _,λh=>⟨h,rfl,rfl,rfl,rfl⟩⟩
theorem Stay.trans(h:Stay x y)(h':Stay y z):Stay x z:=
 ⟨Xew h.tries h'.tries,λhs=>by
  obtain⟨a,b,c,d,e⟩:=h.st hs;obtain⟨a',b',c',d',e'⟩:=h'.st a;exact⟨a',b'.trans b,c'.trans c,d'.trans d,e'.trans e⟩⟩
theorem Stay.un(h:stl x=false)(ht:x.tries<=y.tries):Stay x y:=⟨ht,λhs=>by rw[h]at hs;cases hs⟩
theorem RG.same(hd:x.doomed=false){z:Rt}(h1:z.doomed=false)(h2:z.phase≠5)(h3:z.tries=x.tries):RG w x (w,z):=⟨h1,λh=>absurd h h2,h3,rfl,rfl⟩
theorem WfO(hd:x.doomed=false):(WA x).doomed=false/\(WA x).phase≠5/\(WA x).tries=x.tries:=by
 unfold WA WcI;split
 .exact⟨rfl,by simp,rfl⟩
 .exact⟨hd,by simp,rfl⟩
theorem Wop(hd:x.doomed=false){out:Int}(ho:out≠0):RG w x (Wao w x k out):=by
 unfold Wao WjJ;simp only;generalize (if out=2 then []else x.writes)=rows;split
 .exact⟨rfl,by simp,rfl,rfl,rfl⟩
 .exact⟨hd,λ_=>ho,rfl,rfl,rfl⟩
theorem Wr5(hd:x.doomed=false)(h5:x.phase≠5):RG w x (Wdv w x):=⟨hd,λh=>absurd h h5,rfl,rfl,rfl⟩
theorem Wsu(hd:x.doomed=false)(h5:x.phase≠5):(Wc2 w x o).doomed=false/\(Wc2 w x o).phase≠5/\(Wc2 w x o).tries=x.tries:=by
 unfold Wc2;cases Wbk x.writes o.2.2.1 with
 |some v=>exact⟨hd,h5,rfl⟩
 |none=>
  simp only;generalize W0 w.mem x.rv _=b;split
  .exact WfO (x:={x with busy:=true,pb:=b}) hd
  .split
   .exact⟨hd,h5,rfl⟩
   .exact⟨hd,h5,rfl⟩
theorem WtN(hd:x.doomed=false)(h5:x.phase≠5){code:List Opn}:RG w x (WbT w x k code):=by
 unfold WbT;split
 .exact Wop hd (by omega)
 .split
  .exact Wr5 hd h5
  .exact⟨hd,λh=>absurd h h5,rfl,rfl,rfl⟩
theorem WtC(hd:x.doomed=false)(h5:x.phase≠5):RG w x (Wbr w x k o):=by
 unfold Wbr;cases Wak w.holds ((k:Int)+1) (Waz o).1 (Waz o).2 with
 |none=>
  obtain⟨a,b,c⟩:=WfO hd;exact⟨a,λh=>absurd h b,c,rfl,rfl⟩
 |some hs=>exact⟨hd,λh=>absurd h h5,rfl,rfl,rfl⟩
theorem WwB(hd:x.doomed=false)(h5:x.phase≠5):RG w x (Wfi w x k p):=by
 unfold Wfi;split
 .exact Wop hd (by omega)
 .simp only;generalize opN p.1 x.pc=o;split
  .obtain⟨a,b,c⟩:=Wsu (w:=w) (o:=o) hd h5;exact⟨a,λh=>absurd h b,c,rfl,rfl⟩
  .split
   .exact WtN hd h5
   .split
    .exact⟨hd,λh=>by(change (2:Int)=5 at h;omega),rfl,rfl,rfl⟩
    .split
     .exact WtC hd h5
     .repeat' split
      all_goals exact⟨hd,λh=>absurd h h5,rfl,rfl,rfl⟩
theorem Wu4(hd:x.doomed=false)(h5:x.phase≠5):RG w x (Wdk w x k):=by
 unfold Wdk
 repeat' split
 all_goals first|exact⟨hd,λh=>absurd h h5,rfl,rfl,rfl⟩|exact⟨rfl,λh=>by(change (1:Int)=5 at h;omega),rfl,rfl,rfl⟩
theorem WrJ(hd:x.doomed=false)(h5:x.phase≠5):RG w x (w,WbY x):=by
 unfold WbY;split
 .exact⟨rfl,λh=>by(change (6:Int)=5 at h;omega),rfl,rfl,rfl⟩
 .split
  .exact⟨hd,λh=>by(change (1:Int)=5 at h;omega),rfl,rfl,rfl⟩
  .exact⟨hd,λh=>absurd h h5,rfl,rfl,rfl⟩
theorem WiR(hd:x.doomed=false)(h5:x.phase≠5):RG w x (WaT w x):=by
 unfold WaT;split
 .exact Wr5 hd h5
 .exact⟨hd,λh=>by(change (4:Int)=5 at h;omega),rfl,rfl,rfl⟩
theorem Wmr(hd:x.doomed=false)(h5:x.phase≠5):RG w x (w,WaG w x):=by
 unfold WaG;split
 .simp only;split
  .exact⟨rfl,λh=>by(change (6:Int)=5 at h;omega),rfl,rfl,rfl⟩
  .exact⟨hd,λh=>absurd h h5,rfl,rfl,rfl⟩
 .exact⟨hd,λh=>by(change (1:Int)=5 at h;omega),rfl,rfl,rfl⟩
theorem Why(m:Mm)(c:Cm):m.1<=(WB m c).1.1:=by
 have hs:∀i w,(WqF m i w).1=m.1:=λ_ _=>rfl;unfold WB Wem Wb5 WnN tick;simp only
 repeat' split
 all_goals first|exact Xv _|(simp only[hs];omega)|(simp only;omega)
structure RS(w:Wo)(x:Rt)(q:Wo×Rt):Prop where
 rx:RX q.2
 stay:Stay x q.2
 clock:w.mem.1<=q.1.mem.1
 hist:∃l,q.1.hist=w.hist++l
theorem RG.rs{q:Wo×Rt}(h:RG w x q)(hs:stl x=false):RS w x q:=⟨⟨(λhd=>by rw[h.doom]at hd;cases hd),h.fate⟩,Stay.un hs (by rw[h.tries];omega),by rw[h.mem];omega,[],by rw[h.hist];simp⟩
theorem WuD(c:Cm):Wa9 c 6=6:=by unfold Wa9;rw[if_neg (by omega),if_neg (by omega)]
theorem WuP(c:Cm):Wa9 c 5=5:=by unfold Wa9;rw[if_neg (by omega),if_neg (by omega)]
theorem Wo6{c:Cm}{ph:Int}(h:ph=5\/ph=6):(WQ c ph).wv=c.wv/\((WQ c ph).phase=c.phase\/(WQ c ph).phase=ph):=by
 unfold WQ;split
 .refine⟨rfl,.inr ?_⟩;show Wa9 c ph=ph;rcases h with rfl|rfl
  .exact WuP c
  .exact WuD c
 .exact⟨rfl,.inl rfl⟩
theorem WqJ(hx:RX x)(h5:x.phase=5):RS w x (Wal w x k):=by
 unfold Wal;split
 .rename_i hd;have h3:x.cm.phase<=3:=by rcases hx.doom hd with h|h<;>omega
  have ka:stl x=false:=by rw[Xby,Ne,Wcd];omega
  split
  .exact⟨⟨(λhd=>by cases hd),λh=>by(change (6:Int)=5 at h;omega)⟩,Stay.un ka (Xv _),Xv _,[],by simp⟩
  .exact⟨⟨(λhd=>by cases hd),hx.fate⟩,Stay.un ka (Xv _),Xv _,[],by simp⟩
 .rename_i hd;have gD:x.doomed=false:=by simpa using hd
  have vZ:=Why w.mem x.cm;have hf:=hx.fate h5;simp only;refine⟨?_,?_,vZ,?_⟩
  .unfold Wbh WcI;simp only;split
   .exact⟨(λhd=>by cases hd),λh=>by(change (6:Int)=5 at h;omega)⟩
   .split
    .have aV:(if x.fate=2 then(6:Int)else 7)≠5:=by split<;>omega
     exact⟨(λhd=>by(change x.doomed=true at hd;rw[gD]at hd;cases hd)),λh=>absurd h aV⟩
    .exact⟨(λhd=>by(change x.doomed=true at hd;rw[gD]at hd;cases hd)),λ_=>hf⟩
  .have nf:(Wbh {x with cm:=(WB w.mem x.cm).2}).tries=x.tries:=by
    unfold Wbh WcI;simp only;split
    .rfl
    .split<;>rfl
   refine⟨by rw[nf];omega,λhs=>?_⟩;have zP:=Wcd.1 hs;have aQ:Wf9 x=x.cm.wv:=by unfold Wf9;rw[if_pos hs,if_pos h5]
   have key:(WB w.mem x.cm).2.wv=x.cm.wv/\((WB w.mem x.cm).2.phase=4\/(WB w.mem x.cm).2.phase=5\/(WB w.mem x.cm).2.phase=6):=by
    unfold WB;simp only;have e45:=zP;rcases(show x.cm.phase=4\/x.cm.phase=5 by omega)with h4|h4
    .rw[if_neg (by omega),if_neg (by omega),if_neg (by omega),if_pos h4];have:=Wo6 (c:=x.cm) (ph:=5) (.inl rfl);exact⟨this.1,by show(WQ x.cm 5).phase=4\/(WQ x.cm 5).phase=5\/(WQ x.cm 5).phase=6;omega⟩
    .rw[if_neg (by omega),if_neg (by omega),if_neg (by omega),if_neg (by omega),if_pos h4];have:=Wo6 (c:=x.cm) (ph:=6) (.inr rfl);exact⟨this.1,by show(WQ x.cm 6).phase=4\/(WQ x.cm 6).phase=5\/(WQ x.cm 6).phase=6;omega⟩
   obtain⟨k1,k2⟩:=key;rw[aQ];generalize (WB w.mem x.cm).2=c at*;unfold Wbh;simp only;rw[if_neg (by omega)];by_cases h6:c.phase=6
   .rw[if_pos h6];have aV:(if x.fate=2 then(6:Int)else 7)=6\/(if x.fate=2 then(6:Int)else 7)=7:=by split<;>simp
    generalize (if x.fate=2 then(6:Int)else 7)=ph at*;have iZ:stl {x with stamp:=c.wv,cm:={},phase:=ph}=true:=Wcd.2 (.inr (.inr ⟨aV,hf⟩));refine⟨iZ,?_,rfl,rfl,rfl⟩;unfold Wf9;rw[if_pos iZ,if_neg (by show¬ph=5;omega)];exact k1
   .rw[if_neg h6];have iZ:stl {x with cm:=c}=true:=Wcd.2 (.inr (.inl ⟨h5,by show c.phase=4\/c.phase=5;omega⟩));refine⟨iZ,?_,rfl,rfl,rfl⟩;unfold Wf9;rw[if_pos iZ,if_pos h5];exact k1
  .split
   .exact⟨_,rfl⟩
   .exact⟨[],by simp⟩
theorem Wvo(hx:RX x)(aV:0<=x.phase/\x.phase<=8):RS w x (W2 w x k p):=by
 have ka:x.phase<=4->stl x=false:=λh=>by rw[Xby,Ne,Wcd];omega
 unfold W2;by_cases hd:x.doomed=true/\1<=x.phase/\x.phase<=4
 .rw[if_pos hd];exact⟨⟨(λhd=>by cases hd),λh=>by(change (6:Int)=5 at h;omega)⟩,Stay.un (ka (by omega)) (Xv _),Xv _,[],by simp⟩
 rw[if_neg hd];have gD:x.phase≠5->x.doomed=false:=λh5=>by
  rw[Xby];intro h;rcases hx.doom h with h1|h1
  .exact hd ⟨h,h1⟩
  .exact h5 h1.1
 by_cases h0:x.phase=0
 .rw[if_pos h0];exact(Wu4 (gD (by omega)) (by omega)).rs (ka (by omega))
 rw[if_neg h0];by_cases h1:x.phase=1
 .rw[if_pos h1];exact(WwB (gD (by omega)) (by omega)).rs (ka (by omega))
 rw[if_neg h1];by_cases h2:x.phase=2
 .rw[if_pos h2];exact(WrJ (gD (by omega)) (by omega)).rs (ka (by omega))
 rw[if_neg h2];by_cases h3:x.phase=3
 .rw[if_pos h3];exact(WiR (gD (by omega)) (by omega)).rs (ka (by omega))
 rw[if_neg h3];by_cases h4:x.phase=4
 .rw[if_pos h4];exact(Wmr (gD (by omega)) (by omega)).rs (ka (by omega))
 rw[if_neg h4];by_cases h5:x.phase=5
 .rw[if_pos h5];exact WqJ hx h5
 rw[if_neg h5];have rj:=gD h5;by_cases h6:x.phase=6
 .rw[if_pos h6];have zQ:∀ph,ph≠5->RX {x with phase:=ph}:=λph hp=>⟨(λhd=>by(change x.doomed=true at hd;rw[rj]at hd;cases hd)),λh=>absurd h hp⟩;by_cases hz:x.undos.length>0
  .rw[if_pos hz];refine⟨⟨(λhd=>by(change x.doomed=true at hd;rw[rj]at hd;cases hd)),λh=>absurd h h5⟩,⟨Xv _,λhs=>?_⟩,Xv _,[],by simp[Wdv]⟩;have iZ:stl (Wdv w x).2=true:=by
    have:=Wcd.1 hs;rw[Wcd];show x.phase=8\/(x.phase=5/\_)\/((x.phase=6\/x.phase=7)/\x.fate≠0);omega
   refine⟨iZ,?_,rfl,rfl,rfl⟩;unfold Wf9;rw[if_pos iZ,if_pos hs];rfl
  .rw[if_neg hz];refine⟨zQ 7 (by omega),⟨Xv _,λhs=>?_⟩,Xv _,[],by simp⟩;have iZ:stl {x with phase:=7}=true:=by
    have:=Wcd.1 hs;exact Wcd.2 (.inr (.inr ⟨.inr rfl,by show x.fate≠0;omega⟩))
   refine⟨iZ,?_,rfl,rfl,rfl⟩;unfold Wf9;rw[if_pos iZ,if_pos hs,if_neg h5,if_neg (by show¬(7:Int)=5;omega)]
 rw[if_neg h6];by_cases h7:x.phase=7
 .rw[if_pos h7];by_cases hf:x.fate=0
  .rw[if_pos hf];have nB:stl x=false:=by rw[Xby,Ne,Wcd];omega
   exact⟨⟨(λhd=>by cases hd),λh=>by(change (0:Int)=5 at h;omega)⟩,Stay.un nB (by show x.tries<=x.tries+1;omega),Xv _,[],by simp⟩
  .rw[if_neg hf];refine⟨⟨(λhd=>by cases hd),λh=>by(change (8:Int)=5 at h;omega)⟩,⟨Xv _,λhs=>?_⟩,Xv _,[],by simp[WjJ]⟩;have iZ:stl (WjJ {w with holds:=WV w.holds ((k:Int)+1)} x k).2=true:=Wcd.2 (.inl rfl);refine⟨iZ,?_,rfl,rfl,rfl⟩;unfold Wf9;rw[if_pos iZ,if_pos hs,if_neg h5];rfl
 .rw[if_neg h7];exact⟨hx,Stay.refl x,Xv _,[],by simp⟩
end
def WX(w:Wo):Prop:=∀(i:Nat) (h:i<w.roots.length),RX w.roots[i]
structure WStay(w v:Wo):Prop where
 len:w.roots.length=v.roots.length
 root:∀(i:Nat) (h:i<w.roots.length) (h':i<v.roots.length),Stay w.roots[i] v.roots[i]
 hist:∃l,v.hist=w.hist++l
 clock:w.mem.1<=v.mem.1
section
variable{s:Sc}{w v u:Wo}{n:Int}{a:Ac}{k:Nat}
theorem WStay.refl(w:Wo):WStay w w:=⟨rfl,λi h h'=>Stay.refl _,⟨[],by simp⟩,Xv _⟩
theorem WStay.trans(h:WStay w v)(h':WStay v u):WStay w u:=by
 obtain⟨l,hl⟩:=h.hist;obtain⟨l',cP⟩:=h'.hist;exact⟨h.len.trans h'.len,λi a b=>(h.root i a (by rw[←h.len];exact a)).trans (h'.root i (by rw[←h.len];exact a) b),⟨l++l',by rw[cP,hl,List.append_assoc]⟩,Xew h.clock h'.clock⟩
theorem WkQ{q:Wo×Rt}{w0:Wo}(hx:WX w0)(hk:k<w0.roots.length)(hr:q.1.roots=w0.roots)(hq:RS w0 w0.roots[k] q):WX (Wo.put q k)/\WStay w0 (Wo.put q k):=by
 have hlen:(q.1.roots.set k q.2).length=w0.roots.length:=by rw[Xaa,hr]
 refine⟨λi hi=>?_,hlen.symm,λi hi jk=>?_,hq.hist,hq.clock⟩
 .change i<(q.1.roots.set k q.2).length at hi;show RX (q.1.roots.set k q.2)[i];rw[Xam];by_cases he:k=i
  .rw[if_pos he];exact hq.rx
  .rw[if_neg he];simp only[hr];exact hx i (by rw[←hlen];exact hi)
 .have zR:i<(q.1.roots.set k q.2).length:=jk;show Stay _ ((q.1.roots.set k q.2)[i]'zR);rw[Xam];by_cases he:k=i
  .subst he;rw[if_pos rfl];exact hq.stay
  .rw[if_neg he];simp only[hr];exact Stay.refl _
theorem Wh0(h:WOk s.2.1 n w)(hk:k<w.roots.length):(W2 {w with now:=w.now+1} w.roots[k] k (s.2.1.getD k pg0)).1.roots=w.roots:=
 (WhM (w:={w with now:=w.now+1}) (k:=k) (WgA h.progs (by rw[←h.len];exact hk)) ⟨h.mem,h.shelf,h.holds⟩ (h.root k hk) (by have:=h.l4;have:=h.len;omega) h.n0).roots
theorem Wgo(h:WOk s.2.1 n w)(hx:WX w):WX (Wc6 s w a)/\WStay w (Wc6 s w a):=by
 have cC:WX {w with now:=w.now+1}:=hx;have mq:WStay w {w with now:=w.now+1}:=⟨rfl,λi h h'=>Stay.refl _,⟨[],by simp⟩,Xv _⟩;unfold Wc6;simp only;split
 .rename_i hb;have hk:a.2.1.toNat<w.roots.length:=by omega
  rw[Wf hk];have tR:=hx _ hk;split
  .unfold Wje;rw[Wf (show a.2.1.toNat<({w with now:=w.now+1}:Wo).roots.length from hk)];obtain⟨c,d⟩:=WkQ (w0:={w with now:=w.now+1}) cC hk (Wh0 h hk) (Wvo tR (h.root _ hk).phase);exact⟨c,mq.trans d⟩
  .split
   .split
    .rename_i hf;have aV:=hf.1;obtain⟨c,d⟩:=WkQ (w0:={w with now:=w.now+1}) (q:=({w with now:=w.now+1},{w.roots[a.2.1.toNat]with fam:=Wcz w.mem w.roots[a.2.1.toNat].fam a.2.2.toNat ((s.2.1.getD a.2.1.toNat pg0).2.getD a.2.2.toNat [])})) cC hk rfl
      ⟨⟨tR.doom,tR.fate⟩,Stay.un (by rw[Xby,Ne,Wcd,aV];omega) (Xv _),Xv _,[],by simp⟩
     exact⟨c,mq.trans d⟩
    .exact⟨cC,mq⟩
   .split
    .split
     .rename_i hf;have nB:stl w.roots[a.2.1.toNat]=false:=by rw[Xby,Ne,Wcd];omega
      obtain⟨c,d⟩:=WkQ (w0:={w with now:=w.now+1}) (q:=({w with now:=w.now+1},{w.roots[a.2.1.toNat]with doomed:=true})) cC hk rfl
       ⟨⟨λ_=>hf,tR.fate⟩,Stay.un nB (Xv _),Xv _,[],by simp⟩
      exact⟨c,mq.trans d⟩
     .exact⟨cC,mq⟩
    .exact⟨cC,mq⟩
 .exact⟨cC,mq⟩
theorem Wm2:∀(l:List Ac) (n:Int) (w:Wo),WOk s.2.1 n w->WX w->WX (l.foldl (Wc6 s) w)/\WStay w (l.foldl (Wc6 s) w)
 | [],n,w,h,hx=>⟨hx,WStay.refl w⟩
 |a::l,n,w,h,hx=>by
  obtain⟨c,d⟩:=Wgo (a:=a) h hx;obtain⟨e,f⟩:=Wm2 l (n+1) _ (Wcy (a:=a) h) c;exact⟨e,d.trans f⟩
theorem WuF:WX (WfH s):=λi h=>by
 simp only[WfH,Xbg];exact⟨(λhd=>by cases hd),λh=>by(change (0:Int)=5 at h;omega)⟩
end
end
section

end
section
section
variable{N:Nat}{s:Sc}{p:Pg}{w:Wo}{n:Int}{a:Ac}{k:Nat}
theorem WtD{R:Type}{K0:Int->Bool->Int->Int->Int->Int->Kr->Ki->Kr->(List Y_Root)->Kaa->Option R}(hl:s.2.2.length<=1000)(hN:1048576<N):
  ∀(d j n:Nat) (m:Int) (w:Wo),j+d=s.2.2.length->d<n->WOk s.2.1 m w->m+d<=90000->
  Zbb N s.2.2 s K0 n (j:Int) w.now w.token w.mem.1 w.shelf.2 w.mem.2 w.shelf.1 w.holds (w.roots.map Rt.e) w.hist=
   (λv:Wo=>K0 (s.2.2.length:Int) false v.now v.token v.mem.1 v.shelf.2 v.mem.2 v.shelf.1 v.holds (v.roots.map Rt.e) v.hist) ((s.2.2.drop j).foldl (Wc6 s) w):=by
 intro d
 induction d with
 |zero=>
  intro j n m w hj hn h hm;obtain⟨n,rfl⟩:∃n',n=n'+1:=⟨n-1,by omega⟩;have:j=s.2.2.length:=by omega
  subst this;simp only[Zbb,Waw (Xn _),cond_false,Xdp,List.foldl_nil]
 |succ d ih=>
  intro j n m w hj hn h hm;obtain⟨n,rfl⟩:∃n',n=n'+1:=⟨n-1,by omega⟩;have hlt:j<s.2.2.length:=by omega
  have hw:(w.now,(w.token,((w.mem.1,w.mem.2),((w.shelf.1,w.shelf.2),(w.holds,(w.roots.map Rt.e,w.hist))))))=w.e:=rfl;simp only[Zbb,Waf hlt,Wn hlt,Wq hlt,Wg (show j<4611686018427387904 by omega),cond_true,hw];rw[Wn6 h (by omega) hN,Xcc hlt,Xdh];exact ih (j+1) n (m+1) _ (by omega) (by omega) (Wcy h) (by omega)
theorem WqN(hb:SB s)(hN:1048576<N):Zj9 N s=ret (if WjB s=true then(Web s).e else d_World):=by
 unfold Zj9;rw[Wfo hb hN];simp only[ret,Xc];cases hs:WjB s with
 |false=>rfl
 |true=>
  obtain⟨h1,h2,h3,h4⟩:=WeG hs;have h0:=WiG hs;have q9:=Wu7 s.2.1 (by omega);simp only[Xab,cond_false,if_true];rw[WgK h1.map.1 h1.map.2 hN,Wi0 (WoV.2 h1.cells) hN];simp only[ret,Xc,q9,cond_true,WgH];have ep:=WtD (s:=s) (N:=N) (K0:=λoG vc oH oI cU ck cx oJ oK oL oM=>(some ((),((oH,(oI,((cU,cx),((oJ,ck),(oK,(oL,oM)))))),())):Option (Unit×(Y_World×Unit)))) (by have:=hb.acts;omega) hN s.2.2.length 0 N 0 (WfH s) (by omega) (by omega) h0 (by omega);rw[WpR];have pY:((WfH s).roots.map Rt.e)=Xt s.2.1.length d_Root:=by
   unfold WfH;simp only[List.map_replicate];rfl
  rw[pY]at ep;refine ep.trans ?_;rw[Xce];rfl
end
variable{N:Nat}{s:Sc}{w:Wo}{n:Int}{a:Ac}
end
section
def lkA(c:Cm)(j:Nat):Prop:=(c.phase=1/\(j:Int)<c.pos)\/c.phase=2\/c.phase=3\/c.phase=4\/(c.phase=5/\c.pos<=j)\/(c.phase=7/\(j:Int)<=c.pos)
def lkd(c:Cm)(i:Int):Prop:=∃(j:Nat) (h:j<c.puts.length),c.puts[j].1=i/\lkA c j
def owner(m:Mm)(i:Int):Int:=(WN m i).2.2
structure CmLk(m:Mm)(c:Cm):Prop where
 own:∀i,0<=i->i<=7->(owner m i=c.who↔lkd c i)
 ver:c.phase=3\/c.phase=4\/c.phase=5->c.wv<=m.1/\∀i,lkd c i->(WN m i).2.1<=c.wv
section
variable{m:Mm}{c c':Cm}{i j:Int}{w:Wd}
theorem We2(hm:WZ m=true)(hi:0<=i/\i<=7)(hj:0<=j/\j<=7):WN (WqF m i w) j=if j=i then w else WN m j:=by
 have h8:=(WD hm).1;unfold WN WqF WlR WbL;simp only;rw[Wf (show j.toNat<(m.2.set i.toNat w).length by rw[Xaa];omega),Xam];by_cases h:j=i
 .subst h;rw[if_pos rfl,if_pos rfl]
 .rw[if_neg (by omega),if_neg h,Wf (show j.toNat<m.2.length by omega)]
theorem Wek(hp:c'.puts=c.puts)(h:∀j:Nat,j<c.puts.length->(lkA c' j↔lkA c j)):lkd c' i↔lkd c i:=by
 unfold lkd;rw[hp];exact⟨λ⟨j,hj,a,b⟩=>⟨j,hj,a,(h j hj).1 b⟩,λ⟨j,hj,a,b⟩=>⟨j,hj,a,(h j hj).2 b⟩⟩
theorem Wuc(h:CmOk c){a b:Nat}(ha:a<c.puts.length)(hb:b<c.puts.length)(e:c.puts[a].1=c.puts[b].1):a=b:=by
 have hp:=List.pairwise_iff_getElem.1 h.pup;rcases Nat.lt_trichotomy a b with h1|h1|h1
 .have:=hp a b ha hb h1;omega
 .exact h1
 .have:=hp b a hb ha h1;omega
theorem CmLk.same(h:CmLk m c)(hp:c'.puts=c.puts)(hw:c'.who=c.who)(hv:c'.wv=c.wv)(ha:∀j:Nat,j<c.puts.length->(lkA c' j↔lkA c j))(aV:c'.phase=3\/c'.phase=4\/c'.phase=5->c.phase=3\/c.phase=4\/c.phase=5):CmLk m c':=
 ⟨λi h0 h7=>by rw[hw,h.own i h0 h7,Wek hp ha],λh3=>by
  obtain⟨a,b⟩:=h.ver (aV h3);rw[hv];exact⟨a,λi hi=>b i ((Wek hp ha).1 hi)⟩⟩
theorem Wkm(n:Int)(j:Nat)(hn:0<=n):lkA (Waq c n) j↔(j:Int)<n:=by
 by_cases h:n=0
 .have:Waq c n={c with phase:=8,pos:=0}:=by unfold Waq;rw[if_pos h]
  rw[this];unfold lkA;simp only;omega
 .have:Waq c n={c with phase:=7,pos:=n-1}:=by unfold Waq;rw[if_neg h]
  rw[this];unfold lkA;simp only;constructor
  .intro hz;omega
  .intro hz;right;right;right;right;right;exact⟨trivial,by omega⟩
theorem Wct(c:Cm)(ph:Int):(WQ c ph).puts=c.puts/\(WQ c ph).who=c.who/\(WQ c ph).wv=c.wv:=by
 unfold WQ Wdm;split<;>exact⟨rfl,rfl,rfl⟩
theorem Wck(c:Cm)(n:Int):(Waq c n).puts=c.puts/\(Waq c n).who=c.who/\(Waq c n).wv=c.wv:=by
 unfold Waq;split<;>exact⟨rfl,rfl,rfl⟩
theorem WnK(c:Cm)(n:Int):(Waq c n).phase=7\/(Waq c n).phase=8:=by unfold Waq;split<;>simp
theorem WjQ(m:Mm)(c:Cm):(WB m c).2.who=c.who:=by
 unfold WB;simp only;have h1:=λph=>(Wct c ph).2.1;have h2:=λn=>(Wck c n).2.1
 repeat' split
 all_goals first|exact h1 _|exact h2 _|rfl
theorem Wrg(h:CmOk c)(hm:WZ m=true)(hc:CmLk m c):CmLk (WB m c).1 (WB m c).2:=by
 have bQ:=h.pos;have aQ:c.phase=1\/c.phase=4\/c.phase=5\/c.phase=7->c.steps=c.puts.length:=λhp=>by unfold Cm.steps;rw[if_pos hp]
 have hw:=h.who;have fJ:∀n:Int,0<=n->(∀j:Nat,j<c.puts.length->((j:Int)<n↔lkA c j))->CmLk m (Waq c n):=λn h0 hn=>by
  obtain⟨p1,p2,p3⟩:=Wck c n;refine hc.same p1 p2 p3 (λj hj=>by rw[Wkm n j h0];exact hn j hj) λh3=>?_;rcases WnK c n with h|h<;>omega
 unfold WB;simp only;by_cases h1:c.phase=1
 .rw[if_pos h1];obtain⟨j,hj,e1,e2,e3,e4⟩:=h.put (by omega);have hs:=aQ (by omega);rw[e2];by_cases ho:(WN m c.puts[j].1).2.2=0
  .rw[if_pos ho];obtain⟨p1,p2,p3⟩:=Wct c 2;have aV:∀l:Nat,l<c.puts.length->(lkA (WQ c 2) l↔lkA c l\/l=j):=λl hl=>by
    unfold WQ;by_cases gJ:c.pos+1=c.steps
    .rw[if_pos gJ];have:(Wdm c 2).phase=2:=by show Wa9 c 2=2;unfold Wa9;rw[if_neg (by omega),if_neg (by omega)]
     unfold lkA;rw[this];omega
    .rw[if_neg gJ];unfold lkA;simp only;omega
   refine⟨λi h0 h7=>?_,λh3=>?_⟩
   .rw[p2];have hcl:=hc.own i h0 h7;unfold owner WnN at*;rw[We2 hm e3 ⟨h0,h7⟩];by_cases hi:i=c.puts[j].1
    .rw[if_pos hi];refine⟨λ_=>⟨j,by rw[p1];exact hj,by simp only[p1];exact hi.symm,(aV j hj).2 (.inr rfl)⟩,λ_=>rfl⟩
    .rw[if_neg hi,hcl];refine⟨λ⟨l,hl,a,b⟩=>⟨l,by rw[p1];exact hl,by simp only[p1];exact a,(aV l hl).2 (.inl b)⟩,λ⟨l,hl,a,b⟩=>?_⟩;simp only[p1]at hl a;rcases(aV l hl).1 b with b|b
     .exact⟨l,hl,a,b⟩
     .subst b;exact absurd a.symm hi
   .exfalso;have nw:(WQ c 2).phase=1\/(WQ c 2).phase=2:=by
     unfold WQ;split
     .right;show Wa9 c 2=2;unfold Wa9;rw[if_neg (by omega),if_neg (by omega)]
     .left;exact h1
    change (WQ c 2).phase=3\/(WQ c 2).phase=4\/(WQ c 2).phase=5 at h3;omega
  .rw[if_neg ho];exact fJ _ (by omega) λl hl=>by unfold lkA;omega
 rw[if_neg h1];by_cases h2:c.phase=2
 .rw[if_pos h2];have ht:=Wod hm;by_cases hz:(tick m).2=0
  .rw[if_pos hz,ht.2.2.2.2 hz];exact fJ _ (by omega) λl hl=>by unfold lkA;omega
  .rw[if_neg hz];obtain⟨t1,t2⟩:=ht.2.2.2.1 hz;have aP:∀i,WN (tick m).1 i=WN m i:=λi=>by rw[t2];rfl
   have aV:∀l:Nat,l<c.puts.length->(lkA (Wdm {c with wv:=(tick m).2} 3) l↔lkA c l):=λl hl=>by
    have eU:c.puts.length≠0:=by omega
    change l<c.puts.length at hl;have:(Wdm {c with wv:=(tick m).2} 3).phase=3\/(Wdm {c with wv:=(tick m).2} 3).phase=4:=by
     show Wa9 {c with wv:=(tick m).2} 3=3\/Wa9 {c with wv:=(tick m).2} 3=4;unfold Wa9;rw[if_neg (λhz=>eU hz.2)];split<;>simp
    unfold lkA;omega
   refine⟨λi h0 h7=>?_,λh3=>⟨by show(tick m).2<=(tick m).1.1;rw[t2];simp only;omega,λi hi=>?_⟩⟩
   .unfold owner;rw[aP];exact(hc.own i h0 h7).trans (Wek (c':=Wdm {c with wv:=(tick m).2} 3) (c:=c) rfl aV).symm
   .rw[aP];obtain⟨l,hl,a,b⟩:=hi;change l<c.puts.length at hl;change c.puts[l].1=i at a;have hr:=h.rows _ (Xx hl);have hcl:=Wdt.1 (We4 hm hr.1);rw[←a];show(WN m c.puts[l].1).2.1<=(tick m).2;omega
 rw[if_neg h2];by_cases h3:c.phase=3
 .rw[if_pos h3];split
  .exact fJ _ (by omega) λl hl=>by unfold lkA;omega
  .obtain⟨p1,p2,p3⟩:=Wct c 4;refine hc.same p1 p2 p3 (λl hl=>?_) λ_=>.inl h3;unfold WQ;split
   .have:(Wdm c 4).phase=4:=by show Wa9 c 4=4;unfold Wa9;rw[if_neg (λhz=>by have:=hz.2;omega),if_neg (by omega)]
    show lkA (Wdm c 4) l↔lkA c l;unfold lkA;omega
   .unfold lkA;simp only;omega
 rw[if_neg h3];by_cases h4:c.phase=4
 .rw[if_pos h4];obtain⟨j,hj,e1,e2,e3,e4⟩:=h.put (by omega);have hs:=aQ (by omega);rw[e2];obtain⟨p1,p2,p3⟩:=Wct c 5;have aP:∀i,0<=i->i<=7->(WN (Wem m c.puts[j].1 c.who c.puts[j].2) i).2=(WN m i).2:=λi h0 h7=>by
   unfold Wem;split
   .rw[We2 hm e3 ⟨h0,h7⟩];split
    .rename_i hi;rw[hi]
    .rfl
   .rfl
  have aV:∀l:Nat,l<c.puts.length->(lkA (WQ c 5) l↔lkA c l):=λl hl=>by
   unfold WQ;split
   .have:(Wdm c 5).phase=5/\(Wdm c 5).pos=0:=⟨WuP c,rfl⟩;unfold lkA;omega
   .unfold lkA;simp only;omega
  refine⟨λi h0 h7=>?_,λ_=>?_⟩
  .unfold owner;rw[aP i h0 h7,p2,Wek p1 aV];exact hc.own i h0 h7
  .obtain⟨v1,v2⟩:=hc.ver (.inr (.inl h4));rw[p3];refine⟨by unfold Wem;split<;>exact v1,λi hi=>?_⟩;have jk:=(Wek p1 aV).1 hi;obtain⟨l,hl,a,b⟩:=jk;have hr:=h.rows _ (Xx hl);rw[aP i (by omega) (by omega)];exact v2 i ⟨l,hl,a,b⟩
 rw[if_neg h4];have s8:∀(ver:Int) (j:Nat) (hj:j<c.puts.length),0<=c.puts[j].1/\c.puts[j].1<=7->lkA c j->(WN m c.puts[j].1).2.1<=ver->ver<=m.1->Wb5 m c.puts[j].1 c.who ver=WqF m c.puts[j].1 ((WN m c.puts[j].1).1,ver,0):=λver j hj s9 hl tu gO=>by
  have ho:=(hc.own c.puts[j].1 s9.1 s9.2).2 ⟨j,hj,rfl,hl⟩;unfold owner at ho;unfold Wb5;rw[if_pos ⟨ho,tu,gO⟩]
 have ji:∀(ver:Int) (c':Cm) (j:Nat) (hj:j<c.puts.length),0<=c.puts[j].1/\c.puts[j].1<=7->c'.puts=c.puts->c'.who=c.who->c'.wv=c.wv->(∀l:Nat,l<c.puts.length->(lkA c' l↔lkA c l/\l≠j))->(c'.phase=3\/c'.phase=4\/c'.phase=5->c.phase=3\/c.phase=4\/c.phase=5)->CmLk (WqF m c.puts[j].1 ((WN m c.puts[j].1).1,ver,0)) c':=λver c' j hj s9 p1 p2 p3 aV v6=>by
  have xW:∀i,lkd c' i↔lkd c i/\i≠c.puts[j].1:=λi=>by
   unfold lkd;rw[p1];refine⟨λ⟨l,hl,a,b⟩=>?_,λ⟨⟨l,hl,a,b⟩,hne⟩=>?_⟩
   .have:=(aV l hl).1 b;exact⟨⟨l,hl,a,this.1⟩,λhe=>this.2 (Wuc h hl hj (a.trans he))⟩
   .exact⟨l,hl,a,(aV l hl).2 ⟨b,λhe=>hne (by subst he;exact a.symm)⟩⟩
  refine⟨λi h0 h7=>?_,λh3=>?_⟩
  .unfold owner;rw[We2 hm s9 ⟨h0,h7⟩,p2,xW];by_cases hi:i=c.puts[j].1
   .rw[if_pos hi];exact⟨λhz=>by(change (0:Int)=c.who at hz;omega),λhz=>absurd hi hz.2⟩
   .rw[if_neg hi];exact⟨λhz=>⟨(hc.own i h0 h7).1 hz,hi⟩,λhz=>(hc.own i h0 h7).2 hz.1⟩
  .obtain⟨v1,v2⟩:=hc.ver (v6 h3);rw[p3];refine⟨v1,λi hi=>?_⟩;have jk:=(xW i).1 hi;obtain⟨⟨l,hl,a,b⟩,hne⟩:=jk;have hr:=h.rows _ (Xx hl);rw[We2 hm s9 (by rw[←a];exact hr.1),if_neg hne];exact v2 i ⟨l,hl,a,b⟩
 by_cases h5:c.phase=5
 .rw[if_pos h5];obtain⟨j,hj,e1,e2,e3,e4⟩:=h.put (by omega);have hs:=aQ (by omega);rw[e2];obtain⟨v1,v2⟩:=hc.ver (.inr (.inr h5));have tS:lkA c j:=by unfold lkA;omega
  rw[s8 c.wv j hj e3 tS (v2 _ ⟨j,hj,rfl,tS⟩) v1];obtain⟨p1,p2,p3⟩:=Wct c 6;refine ji c.wv (WQ c 6) j hj e3 p1 p2 p3 (λl hl=>?_) λ_=>.inr (.inr h5);unfold WQ;split
  .have:(Wdm c 6).phase=6:=WuD c;unfold lkA;omega
  .unfold lkA;simp only;omega
 rw[if_neg h5];by_cases h7:c.phase=7
 .rw[if_pos h7];obtain⟨j,hj,e1,e2,e3,e4⟩:=h.put (by omega);have hs:=aQ (by omega);rw[e2];have tS:lkA c j:=by unfold lkA;omega
  have hcl:=Wdt.1 (We4 hm e3);rw[s8 _ j hj e3 tS (Xv _) hcl.2.1.2];obtain⟨p1,p2,p3⟩:=Wck c c.pos;refine ji _ (Waq c c.pos) j hj e3 p1 p2 p3 (λl hl=>?_) λh3=>?_
  .rw[Wkm _ _ (by omega)];unfold lkA;omega
  .rcases WnK c c.pos with h|h<;>omega
 .rw[if_neg h7];exact hc
theorem Wqg(h:CmOk c)(hc:CmLk m c):CmLk m (Wag c):=by
 have bQ:=h.pos;have fJ:∀n:Int,0<=n->(∀j:Nat,j<c.puts.length->((j:Int)<n↔lkA c j))->CmLk m (Waq c n):=λn h0 hn=>by
  obtain⟨p1,p2,p3⟩:=Wck c n;refine hc.same p1 p2 p3 (λj hj=>by rw[Wkm n j h0];exact hn j hj) λh3=>?_;rcases WnK c n with h|h<;>omega
 unfold Wag;split
 .exact fJ _ (by omega) λl hl=>by unfold lkA;omega
 .split
  .exact fJ _ (by omega) λl hl=>by unfold lkA;omega
  .exact hc
theorem WnW(c:Cm):(Wag c).who=c.who:=by
 have h2:=λn=>(Wck c n).2.1;unfold Wag
 repeat' split
 all_goals first|exact h2 _|rfl
theorem WjN(h:CmOk c)(hm:WZ m=true){who:Int}(h1:who≠c.who)(h0:who≠0)(hi:0<=i/\i<=7):(owner (WB m c).1 i=who↔owner m i=who)/\(owner m i=who->WN (WB m c).1 i=WN m i):=by
 have bo:(owner m i=who↔owner m i=who)/\(owner m i=who->WN m i=WN m i):=⟨Iff.rfl,λ_=>rfl⟩;have dX:∀(a:Int) (wd:Wd),0<=a/\a<=7->(WN m a).2.2≠who->wd.2.2≠who->(owner (WqF m a wd) i=who↔owner m i=who)/\(owner m i=who->WN (WqF m a wd) i=WN m i):=λa wd ha hne hw=>by
  unfold owner;rw[We2 hm ha hi];by_cases hia:i=a
  .subst hia;rw[if_pos rfl];exact⟨⟨λhz=>absurd hz hw,λhz=>absurd hz hne⟩,λhz=>absurd hz hne⟩
  .rw[if_neg hia];exact⟨Iff.rfl,λ_=>rfl⟩
 unfold WB;simp only;by_cases p1:c.phase=1
 .rw[if_pos p1];obtain⟨j,hj,e1,e2,e3,e4⟩:=h.put (by omega);rw[e2];by_cases ho:(WN m c.puts[j].1).2.2=0
  .rw[if_pos ho];exact dX _ _ e3 (by omega) (by show c.who≠who;omega)
  .rw[if_neg ho];exact bo
 rw[if_neg p1];by_cases p2:c.phase=2
 .rw[if_pos p2];have ht:=Wod hm;by_cases hz:(tick m).2=0
  .rw[if_pos hz];simp only;rw[ht.2.2.2.2 hz];exact bo
  .rw[if_neg hz];simp only;rw[(ht.2.2.2.1 hz).2];exact bo
 rw[if_neg p2];by_cases p3:c.phase=3
 .rw[if_pos p3];split<;>exact bo
 rw[if_neg p3];by_cases p4:c.phase=4
 .rw[if_pos p4];obtain⟨j,hj,e1,e2,e3,e4⟩:=h.put (by omega);rw[e2];unfold Wem;split
  .rename_i ho;exact dX _ _ e3 (by omega) (by show(WN m c.puts[j].1).2.2≠who;omega)
  .exact bo
 rw[if_neg p4];by_cases p5:c.phase=5
 .rw[if_pos p5];obtain⟨j,hj,e1,e2,e3,e4⟩:=h.put (by omega);rw[e2];unfold Wb5;split
  .rename_i ho;exact dX _ _ e3 (by omega) (by show(0:Int)≠who;omega)
  .exact bo
 rw[if_neg p5];by_cases p7:c.phase=7
 .rw[if_pos p7];obtain⟨j,hj,e1,e2,e3,e4⟩:=h.put (by omega);rw[e2];unfold Wb5;split
  .rename_i ho;exact dX _ _ e3 (by omega) (by show(0:Int)≠who;omega)
  .exact bo
 .rw[if_neg p7];exact bo
end
end
section
structure LB(w:Wo)(k:Nat)(x:Rt):Prop where
 cm:x.phase=5->x.cm.who=(k:Int)+1/\CmLk w.mem x.cm
 no:x.phase≠5->∀i,0<=i->i<=7->owner w.mem i≠(k:Int)+1
 hd:∀h∈w.holds,h.1=(k:Int)+1->x.phase≠0/\x.phase≠8
 tk:w.token=(k:Int)+1->x.tries>=3/\x.phase≠8
structure LQ(w:Wo)(k:Nat)(q:Wo×Rt):Prop where
 b:LB q.1 k q.2
 oth:∀who,who≠(k:Int)+1->who≠0->∀i,0<=i->i<=7->(owner q.1.mem i=who↔owner w.mem i=who)/\(owner w.mem i=who->WN q.1.mem i=WN w.mem i)
 clk:w.mem.1<=q.1.mem.1
 hdo:∀h∈q.1.holds,h.1≠(k:Int)+1->∃h'∈w.holds,h'.1=h.1
 tko:q.1.token≠0->q.1.token≠(k:Int)+1->q.1.token=w.token
section
variable{w:Wo}{x:Rt}{k:Nat}{p:Pg}{q:Wo×Rt}{o:Opn}{n:Int}
theorem LQ.of(hm:q.1.mem=w.mem)(hh:q.1.holds=w.holds)(ht:q.1.token=w.token)(hb:LB q.1 k q.2):LQ w k q:=
 ⟨hb,λwho h1 h0 i a b=>by rw[hm];exact⟨Iff.rfl,λ_=>rfl⟩,by rw[hm];omega,λh fm _=>⟨h,by rw[←hh];exact fm,rfl⟩,λ_ _=>ht⟩
theorem LQ.keep(hb:LB w k x)(hm:q.1.mem=w.mem)(hh:q.1.holds=w.holds)(ht:q.1.token=w.token)(h5:x.phase≠5)(hp:q.2.phase≠0/\q.2.phase≠5/\q.2.phase≠8)(nf:q.2.tries=x.tries):LQ w k q:=
 LQ.of hm hh ht ⟨λh=>absurd h hp.2.1,λ_=>by rw[hm];exact hb.no h5,λh fm hk=>⟨hp.1,hp.2.2⟩,λh=>by rw[ht]at h;rw[nf];exact⟨(hb.tk h).1,hp.2.2⟩⟩
theorem WdP:(WA x).phase≠0/\(WA x).phase≠5/\(WA x).phase≠8:=by
 unfold WA WcI;split<;>simp
theorem Wnj(h1:x.phase=1):(Wc2 w x o).phase≠0/\(Wc2 w x o).phase≠5/\(Wc2 w x o).phase≠8:=by
 unfold Wc2;cases Wbk x.writes o.2.2.1 with
 |some v=>simp only;omega
 |none=>
  simp only;generalize W0 w.mem x.rv _=b;split
  .exact WdP
  .split<;>(simp only;omega)
theorem WiS{l:List Hd}{who:Int}(h:(WeO l who).length=0):∀e∈l,e.1≠who:=λe he hw=>by
 have:e.2.1∈WeO l who:=Xu.2 ⟨e,Xar.2 ⟨he,by simpa using hw⟩,rfl⟩;rw[Xw h]at this;cases this
theorem WuH(dQ:∀i,0<=i->i<=7->owner w.mem i≠(k:Int)+1)(hh:∀e∈w.holds,e.1≠(k:Int)+1):LQ w k (WjJ w x k):=by
 unfold WjJ;refine⟨⟨λh=>by(change (8:Int)=5 at h;omega),λ_=>dQ,λh fm hk=>absurd hk (hh h fm),λh=>?_⟩,λwho h1 h0 i a b=>⟨Iff.rfl,λ_=>rfl⟩,Xv _,λh fm _=>⟨h,fm,rfl⟩,λh0 h1=>?_⟩
 .change (if w.token=(k:Int)+1 then 0 else w.token)=(k:Int)+1 at h;split at h<;>omega
 .change (if w.token=(k:Int)+1 then 0 else w.token)≠0 at h0;show(if w.token=(k:Int)+1 then 0 else w.token)=w.token;split
  .rename_i hc;rw[if_pos hc]at h0;exact absurd rfl h0
  .rfl
theorem Wo7(hb:LB w k x)(h1:x.phase=1){out:Int}:LQ w k (Wao w x k out):=by
 have dQ:=hb.no (by omega);unfold Wao;simp only;generalize hr:(if out=2 then []else x.writes)=rows;split
 .rename_i hc;exact WuH dQ (WiS hc.2)
 .refine LQ.of rfl rfl rfl ⟨λ_=>⟨rfl,?_⟩,λh=>absurd rfl h,λh hh hk=>by(show(5:Int)≠0/\(5:Int)≠8;omega),λh=>⟨(hb.tk h).1,by show(5:Int)≠8;omega⟩⟩;have v7:∀i,¬lkd (Wbc ((k:Int)+1) x.rv rows x.reads) i:=λi ⟨j,hj,a,b⟩=>by
   change j<(Wc3 rows).length at hj;have aV:(Wbc ((k:Int)+1) x.rv rows x.reads).phase=1:=by show(if(Wc3 rows).length=0 then(2:Int)else 1)=1;rw[if_neg (by omega)]
   have bQ:(Wbc ((k:Int)+1) x.rv rows x.reads).pos=0:=rfl;unfold lkA at b;omega
  refine⟨λi h0 h7=>⟨λh=>absurd h (dQ i h0 h7),λh=>absurd h (v7 i)⟩,λh3=>?_⟩;have aV:(Wbc ((k:Int)+1) x.rv rows x.reads).phase=1\/(Wbc ((k:Int)+1) x.rv rows x.reads).phase=2:=by
   show(if(Wc3 rows).length=0 then(2:Int)else 1)=1\/(if(Wc3 rows).length=0 then(2:Int)else 1)=2;split<;>simp
  exfalso;change (Wbc ((k:Int)+1) x.rv rows x.reads).phase=3\/(Wbc ((k:Int)+1) x.rv rows x.reads).phase=4\/(Wbc ((k:Int)+1) x.rv rows x.reads).phase=5 at h3;omega
theorem Ws6(hb:LB w k x)(h1:x.phase=1){code:List Opn}:LQ w k (WbT w x k code):=by
 unfold WbT;split
 .exact Wo7 hb h1
 .split
  .exact LQ.keep hb rfl rfl rfl (by omega) (by unfold Wdv;simp only;omega) rfl
  .exact LQ.keep hb rfl rfl rfl (by omega) (by simp only;omega) rfl
theorem Wtl(hd:x.doomed=false)(hb:LB w k x)(h1:x.phase=1)(hH:HOk w.holds):LQ w k (Wbr w x k o):=by
 unfold Wbr;cases ha:Wak w.holds ((k:Int)+1) (Waz o).1 (Waz o).2 with
 |none=>exact LQ.keep hb rfl rfl rfl (by omega) WdP (WfO hd).2.2
 |some hs=>
  have hmem:∀e∈hs,e.1≠(k:Int)+1->e∈w.holds:=λe he hne=>by
   unfold Wak at ha;split at ha
   .injection ha with ha;subst ha;unfold WfL at he;rcases(Wbu Wni hH.ris).1 he with rfl|he
    .exact absurd rfl hne
    .exact he.1
   .cases ha
  exact⟨⟨λh=>by(change x.phase=5 at h;omega),λ_=>hb.no (by omega),λh hh hk=>by(show x.phase≠0/\x.phase≠8;omega),λh=>⟨(hb.tk h).1,by show x.phase≠8;omega⟩⟩,
   λwho h1 h0 i a b=>⟨Iff.rfl,λ_=>rfl⟩,Xv _,λh hh hne=>⟨h,hmem h hh hne,rfl⟩,λ_ _=>rfl⟩
theorem Wwi(hd:x.doomed=false)(hb:LB w k x)(h1:x.phase=1)(hH:HOk w.holds):LQ w k (Wfi w x k p):=by
 unfold Wfi;split
 .exact Wo7 hb h1
 .simp only;generalize opN p.1 x.pc=o;split
  .exact LQ.keep hb rfl rfl rfl (by omega) (Wnj h1) (Wsu hd (by omega)).2.2
  .split
   .exact Ws6 hb h1
   .split
    .exact LQ.keep hb rfl rfl rfl (by omega) (by simp only;omega) rfl
    .split
     .exact Wtl hd hb h1 hH
     .repeat' split
      all_goals exact LQ.keep hb rfl rfl rfl (by omega) (by simp only;omega) rfl
theorem Wvg(hb:LB w k x)(h0:x.phase=0):LQ w k (Wdk w x k):=by
 unfold Wdk;split
 .exact LQ.of rfl rfl rfl hb
 .split
  .rename_i hc;exact⟨⟨hb.cm,hb.no,hb.hd,λ_=>⟨hc.1,by show x.phase≠8;omega⟩⟩,λwho h1 h0 i a b=>⟨Iff.rfl,λ_=>rfl⟩,Xv _,λh hh _=>⟨h,hh,rfl⟩,λ_ hne=>absurd rfl hne⟩
  .split
   .exact LQ.of rfl rfl rfl hb
   .exact LQ.keep hb rfl rfl rfl (by omega) (by simp only;omega) rfl
theorem Wsb(hb:LB w k x)(h5:x.phase=5)(hc:CmOk x.cm)(hm:WZ w.mem=true):LQ w k (Wal w x k):=by
 obtain⟨hw,hcl⟩:=hb.cm h5;have nh:∀c:Cm,c.phase=6\/c.phase=8->∀i,¬lkd c i:=λc aV i ⟨j,hj,a,b⟩=>by unfold lkA at b;omega
 unfold Wal;split
 .have xX:=Wqg hc hcl;have xY:=WnW x.cm;split
  .rename_i h8;refine LQ.of rfl rfl rfl ⟨λh=>by(change (6:Int)=5 at h;omega),λ_ i a b=>?_,λh hh hk=>by(show(6:Int)≠0/\(6:Int)≠8;omega),λh=>⟨(hb.tk h).1,by show(6:Int)≠8;omega⟩⟩;intro ho;exact nh _ (.inr h8) i ((xX.own i a b).1 (by rw[xY,hw];exact ho))
  .exact LQ.of rfl rfl rfl ⟨λ_=>⟨by show(Wag x.cm).who=_;rw[xY,hw],xX⟩,λh=>absurd h5 h,hb.hd,hb.tk⟩
 .have hs:=Wrg hc hm hcl;have tT:=WjQ w.mem x.cm;have ge:=λwho (a:who≠(k:Int)+1) (b:who≠0) (i:Int) (c:0<=i) (d:i<=7)=>WjN (i:=i) hc hm (who:=who) (by rw[hw];exact a) b ⟨c,d⟩;have vZ:=Why w.mem x.cm;simp only;refine⟨?_,ge,vZ,λh hh _=>⟨h,hh,rfl⟩,λ_ _=>rfl⟩;have dQ:(WB w.mem x.cm).2.phase=6\/(WB w.mem x.cm).2.phase=8->∀i,0<=i->i<=7->owner (WB w.mem x.cm).1 i≠(k:Int)+1:=λaV i a b ho=>nh _ aV i ((hs.own i a b).1 (by rw[tT,hw];exact ho));generalize (WB w.mem x.cm).1=m' at*;generalize (WB w.mem x.cm).2=c' at*;unfold Wbh;simp only;by_cases h8:c'.phase=8
  .rw[if_pos h8];exact⟨λh=>by(change (6:Int)=5 at h;omega),λ_=>dQ (.inr h8),λh hh hk=>by(show(6:Int)≠0/\(6:Int)≠8;omega),λh=>⟨(hb.tk h).1,by show(6:Int)≠8;omega⟩⟩
  .rw[if_neg h8];by_cases h6:c'.phase=6
   .rw[if_pos h6];have aV:(if x.fate=2 then(6:Int)else 7)=6\/(if x.fate=2 then(6:Int)else 7)=7:=by split<;>simp
    generalize (if x.fate=2 then(6:Int)else 7)=ph at*;exact⟨λh=>by(change ph=5 at h;omega),λ_=>dQ (.inl h6),λh hh hk=>by(show ph≠0/\ph≠8;omega),λh=>⟨(hb.tk h).1,by show ph≠8;omega⟩⟩
   .rw[if_neg h6];exact⟨λ_=>⟨by show c'.who=_;rw[tT,hw],hs⟩,λh=>absurd h5 h,hb.hd,hb.tk⟩
theorem WvQ(hx:RX x)(ho:ROk p n x)(hg:GOk w)(hb:LB w k x):LQ w k (W2 w x k p):=by
 have aV:=ho.phase;unfold W2;by_cases hd:x.doomed=true/\1<=x.phase/\x.phase<=4
 .rw[if_pos hd];exact LQ.keep hb rfl rfl rfl (by omega) (by unfold WcI;simp) rfl
 rw[if_neg hd];have gD:x.phase≠5->x.doomed=false:=λh5=>by
  rw[Xby];intro h;rcases hx.doom h with h1|h1
  .exact hd ⟨h,h1⟩
  .exact h5 h1.1
 by_cases h0:x.phase=0
 .rw[if_pos h0];exact Wvg hb h0
 rw[if_neg h0];by_cases h1:x.phase=1
 .rw[if_pos h1];exact Wwi (gD (by omega)) hb h1 hg.holds
 rw[if_neg h1];by_cases h2:x.phase=2
 .rw[if_pos h2];refine LQ.keep hb rfl rfl rfl (by omega) ?_ (WrJ (w:=w) (gD (by omega)) (by omega)).tries;unfold WbY WcI
  repeat' split
  all_goals(simp only;omega)
 rw[if_neg h2];by_cases h3:x.phase=3
 .rw[if_pos h3];refine LQ.keep hb (WiR (gD (by omega)) (by omega)).mem ?_ ?_ (by omega) ?_ (WiR (gD (by omega)) (by omega)).tries
  all_goals(unfold WaT Wdv;split<;>first|rfl|(simp only;omega))
 rw[if_neg h3];by_cases h4:x.phase=4
 .rw[if_pos h4];refine LQ.keep hb rfl rfl rfl (by omega) ?_ (Wmr (w:=w) (gD (by omega)) (by omega)).tries;unfold WaG WcI;simp only
  repeat' split
  all_goals(simp only;omega)
 rw[if_neg h4];by_cases h5:x.phase=5
 .rw[if_pos h5];exact Wsb hb h5 (ho.comm h5) hg.mem
 rw[if_neg h5];by_cases h6:x.phase=6
 .rw[if_pos h6];by_cases hz:x.undos.length>0
  .rw[if_pos hz];exact LQ.keep hb rfl rfl rfl (by omega) (by unfold Wdv;simp only;omega) rfl
  .rw[if_neg hz];exact LQ.keep hb rfl rfl rfl (by omega) (by simp only;omega) rfl
 rw[if_neg h6];by_cases h7:x.phase=7
 .rw[if_pos h7];have hfree:∀e∈WV w.holds ((k:Int)+1),e.1≠(k:Int)+1/\e∈w.holds:=λe he=>by
   have:=Xar.1 he;exact⟨by simpa using this.2,this.1⟩
  have dQ:=hb.no (by omega);by_cases hf:x.fate=0
  .rw[if_pos hf];refine⟨⟨λh=>by(change (0:Int)=5 at h;omega),λ_=>dQ,λh hh hk=>absurd hk (hfree h hh).1,λh=>⟨?_,by show(0:Int)≠8;omega⟩⟩,λwho h1 h0 i a b=>⟨Iff.rfl,λ_=>rfl⟩,Xv _,λh hh _=>⟨h,(hfree h hh).2,rfl⟩,λ_ _=>rfl⟩;have:=(hb.tk h).1;show x.tries+1>=3;omega
  .rw[if_neg hf];have:=WuH (w:={w with holds:=WV w.holds ((k:Int)+1)}) (x:=x) dQ (λe he=>(hfree e he).1);exact⟨this.b,this.oth,this.clk,λh hh hne=>by obtain⟨h',a,b⟩:=this.hdo h hh hne;exact⟨h',(hfree h' a).2,b⟩,this.tko⟩
 .rw[if_neg h7];exact LQ.of rfl rfl rfl hb
end
structure LX(w:Wo):Prop where
 root:∀(k:Nat) (h:k<w.roots.length),LB w k w.roots[k]
 ow:∀i,0<=i->i<=7->owner w.mem i=0\/∃k:Nat,k<w.roots.length/\owner w.mem i=(k:Int)+1
 hd:∀h∈w.holds,∃k:Nat,k<w.roots.length/\h.1=(k:Int)+1
 tk:w.token=0\/∃k:Nat,k<w.roots.length/\w.token=(k:Int)+1
section
variable{s:Sc}{w v:Wo}{n:Int}{a:Ac}{k:Nat}{q:Wo×Rt}
theorem LB.other{j:Nat}{y:Rt}(h:LB w j y)(hq:LQ w k q)(hne:j≠k)(hc:y.phase=5->CmOk y.cm):LB q.1 j y:=by
 have hw:((j:Int)+1)≠(k:Int)+1:=by omega
 have ho:=hq.oth ((j:Int)+1) hw (by omega);refine⟨λh5=>?_,λh5 i a b hz=>h.no h5 i a b ((ho i a b).1.1 hz),λe he hk=>?_,λhz=>?_⟩
 .obtain⟨c1,c2⟩:=h.cm h5;refine⟨c1,λi a b=>?_,λh3=>?_⟩
  .rw[c1,(ho i a b).1,←c1];exact c2.own i a b
  .obtain⟨v1,v2⟩:=c2.ver h3;refine⟨Xew v1 hq.clk,λi hi=>?_⟩;obtain⟨l,hl,e1,e2⟩:=hi;have hr:=(hc h5).rows _ (Xx hl);have jk:lkd y.cm i:=⟨l,hl,e1,e2⟩;have hown:=(c2.own i (by omega) (by omega)).2 jk;rw[(ho i (by omega) (by omega)).2 (by rw[hown,c1])];exact v2 i jk
 .obtain⟨h',a,b⟩:=hq.hdo e he (by rw[hk];exact hw);exact h.hd h' a (b.trans hk)
 .exact h.tk ((hq.tko (by omega) (by omega)).symm.trans hz)
theorem Wrh{w0:Wo}(hx:LX w0)(hk:k<w0.roots.length)(hr:q.1.roots=w0.roots)(hq:LQ w0 k q)(hc:∀(i:Nat) (h:i<w0.roots.length),w0.roots[i].phase=5->CmOk w0.roots[i].cm):LX (Wo.put q k):=by
 have hlen:(q.1.roots.set k q.2).length=w0.roots.length:=by rw[Xaa,hr]
 have hmem:∀i,owner (Wo.put q k).mem i=owner q.1.mem i:=λ_=>rfl;refine⟨λi hi=>?_,λi a b=>?_,λe he=>?_,?_⟩
 .change i<(q.1.roots.set k q.2).length at hi;have gT:i<w0.roots.length:=by rw[←hlen];exact hi
  have ja:∀y,LB q.1 i y->LB (Wo.put q k) i y:=λy hy=>⟨hy.cm,hy.no,hy.hd,hy.tk⟩;show LB (Wo.put q k) i ((q.1.roots.set k q.2)[i]'hi);rw[Xam];by_cases he:k=i
  .subst he;rw[if_pos rfl];exact ja _ hq.b
  .rw[if_neg he];simp only[hr];exact ja _ ((hx.root i gT).other hq (λh=>he h.symm) (hc i gT))
 .show owner q.1.mem i=0\/∃j:Nat,j<(q.1.roots.set k q.2).length/\owner q.1.mem i=(j:Int)+1;rw[hlen];by_cases h0:owner q.1.mem i=0
  .exact .inl h0
  .by_cases h1:owner q.1.mem i=(k:Int)+1
   .exact .inr ⟨k,hk,h1⟩
   .have:=(hq.oth _ h1 h0 i a b).1.1 rfl;rw[←this];exact hx.ow i a b
 .show∃j:Nat,j<(q.1.roots.set k q.2).length/\e.1=(j:Int)+1;rw[hlen];by_cases h1:e.1=(k:Int)+1
  .exact⟨k,hk,h1⟩
  .obtain⟨h',a,b⟩:=hq.hdo e he h1;rw[←b];exact hx.hd h' a
 .show q.1.token=0\/∃j:Nat,j<(q.1.roots.set k q.2).length/\q.1.token=(j:Int)+1;rw[hlen];by_cases h0:q.1.token=0
  .exact .inl h0
  .by_cases h1:q.1.token=(k:Int)+1
   .exact .inr ⟨k,hk,h1⟩
   .rw[hq.tko h0 h1];exact hx.tk
theorem Wob(h:WOk s.2.1 n w)(hx:WX w)(hl:LX w):LX (Wc6 s w a):=by
 have aY:LX {w with now:=w.now+1}:=⟨λk hk=>⟨(hl.root k hk).cm,(hl.root k hk).no,(hl.root k hk).hd,(hl.root k hk).tk⟩,hl.ow,hl.hd,hl.tk⟩;have hc:∀(i:Nat) (h:i<({w with now:=w.now+1}:Wo).roots.length),({w with now:=w.now+1}:Wo).roots[i].phase=5->CmOk ({w with now:=w.now+1}:Wo).roots[i].cm:=λi hi h5=>(h.root i hi).comm h5;unfold Wc6;simp only;split
 .rename_i hb;have hk:a.2.1.toNat<w.roots.length:=by omega
  have ja:=aY.root _ hk;rw[Wf hk];split
  .unfold Wje;rw[Wf (show a.2.1.toNat<({w with now:=w.now+1}:Wo).roots.length from hk)];exact Wrh aY hk (Wh0 h hk) (WvQ (n:=n) (hx _ hk) (h.root _ hk) ⟨h.mem,h.shelf,h.holds⟩ ja) hc
  .split
   .split
    .exact Wrh (w0:={w with now:=w.now+1}) aY hk rfl (LQ.of rfl rfl rfl ⟨ja.cm,ja.no,ja.hd,ja.tk⟩) hc
    .exact aY
   .split
    .split
     .exact Wrh (w0:={w with now:=w.now+1}) aY hk rfl (LQ.of rfl rfl rfl ⟨ja.cm,ja.no,ja.hd,ja.tk⟩) hc
     .exact aY
    .exact aY
 .exact aY
theorem WqY:∀(l:List Ac) (n:Int) (w:Wo),WOk s.2.1 n w->WX w->LX w->LX (l.foldl (Wc6 s) w)
 | [],n,w,h,hx,hl=>hl
 |a::l,n,w,h,hx,hl=>WqY l (n+1) _ (Wcy (a:=a) h) (Wgo (a:=a) h hx).1 (Wob h hx hl)
theorem Wrc(aH:WjB s=true):LX (WfH s):=by
 obtain⟨h1,h2,h3,h4⟩:=WeG aH;have pZ:∀i,0<=i->i<=7->owner (WfH s).mem i=0:=λi a b=>by
  unfold owner WN WbL WfH Wmp;simp only;have:=h1.cells.len;rw[Wf (show i.toNat<(s.1.1.map wd0).length by rw[Xaj];omega),Xed];rfl
 refine⟨λk hk=>?_,λi a b=>.inl (pZ i a b),(λh hh=>by cases hh),.inl rfl⟩;have hr:(WfH s).roots[k]={}:=by simp only[WfH,Xbg]
 rw[hr];exact⟨λh=>by(change (0:Int)=5 at h;omega),(λ_ i a b=>by rw[pZ i a b];omega),(λh hh=>by cases hh),λh=>by(change (0:Int)=(k:Int)+1 at h;omega)⟩
end
end
section
variable{N:Nat}{s:Sc}{w:Wo}{n:Int}
end
end Go.Sx
