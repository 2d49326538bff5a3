/- Plain laws of the Lean functions. -/
import Derived.Test.YtnkbflecplbceaaGreatMW2
open Option renaming bind_some→Xc
open Int renaming toNat_natCast→Xj,toNat→Xb,le_refl→Xw,le_trans→Xet
open List renaming take→Xar,getD→Xd,length_take→Xan,length→Xa,length_map→Xaf,drop_length→Xdk,getElem_map→Xdo,drop_eq_getElem_cons→Xby,drop_zero→Xcc,set→Xl,replicate→Xv,set_getElem_self→Xbe,getElem_mem→Xt,mem_append→Xn,pairwise_append→Xag,mem_singleton→Xac,map_append→Xp,eq_nil_of_length_eq_zero→Xy,mem_of_mem_take→Xcl,mem_map→Xu,all_eq_true→Xae,length_set→Xad,getElem_set→Xaq,getElem_replicate→Xbq,foldl_cons→Xdd,append_eq→Xah,mem_or_eq_of_mem_set→Xcu,mem_filter→Xas
open Bool renaming not_true→Xaa,true_and→Xbp,and_eq_false_iff→Xck,and_eq_true→Xh,and_self→Xbr,eq_false_iff→Xbz
open Nat renaming le_refl→Xm
namespace Go.Sx
set_option linter.unusedVariables false
set_option linter.unusedSimpArgs false
section
variable{N:Nat}{w:Wo}{k:Nat}{x:Rt}{o:Opn}{p:Pg}{n:Int}{code:List Opn}
theorem RLive.mk24(hc:CC p.1)(h:RLive p n x)(hz:x.marks.length≠0):∃(m:Nat) (q:List RM),x.marks=q++ [x.last]∧x.last.1=(m:Int)∧(∃hm:m<p.1.length,p.1[m].1=8)∧(m:Int)<x.pc∧Mate p.1 m (Wsn p.1 m)∧x.pc≤Wsn p.1 m∧stk p.1 m=(stk p.1 x.pc.toNat).dropLast∧x.marks.dropLast=q∧
  Vals 4 x.last.2.2.2.2∧(0≤x.last.2.1∧x.last.2.1≤x.last.1+72*frk p.1 x.last.1.toNat∧x.last.2.1≤x.reads.length)∧(0≤x.last.2.2.1∧x.last.2.2.1≤x.last.1+8∧x.last.2.2.1≤x.writes.length)∧0≤x.last.2.2.2.1∧x.last.2.2.2.1≤x.last.1∧x.last.2.2.2.1≤x.undos.length:=by
 have hp:=h.pc
 obtain⟨m,q,y,e1,e2,e3,e4,e5,e6,e7,e8,e9⟩:=Wrp (d:=zRM) hc (show x.pc.toNat≤p.1.length by omega) h.marks.pcs hz
 have hl:x.last=y:=e2
 have hy:=h.marks.each y (by rw[e1];simp)
 rw[hl]
 exact⟨m,q,e1,e3,e4,by omega,e6,by omega,e8,by rw[e1];simp,hy⟩
theorem abort_run(hk:k<w.roots.length)(hxe:w.roots[k]=x)(hk4:k≤8)(hc:CC p.1)(hx:RLive p n x)(hu:∀u∈x.undos,UnV u)(hs:ShOk w.shelf)(hh:HOk w.holds)(hN:1048576<N):
  Zix N w.e (k:Int) p.1=some (((Wo.put (Wfc w x k p.1) k).e,()),()):=by
 obtain⟨g1,g2,g3,g4,g5⟩:=woG hk hxe
 obtain⟨r0,r1,r2,r3,r4,r5,r6,r7,r8,r11,r12,r13,r14,r15,r16,r18,r19,r20,r21,r24,r28,r29⟩:=rtP x
 obtain⟨z1,z2,z3,z4,z5,z6⟩:=hx.sz hc
 have hcl:=hc.len
 unfold Zix Wfc
 simp only[Wq]
 rw[show P5 w.e=w.roots.map Rt.e from rfl,g4,g2]
 simp only[cond_true,Wn,r15,ilen]
 by_cases hz:x.marks.length=0
 ·rw[if_pos (by omega),if_pos hz,g3,close_run hk hxe hk4 hh hx.rv z5 z6 hN]
  rfl
 ·rw[if_neg (by omega),if_neg hz,last_run hz (by omega)]
  simp only[Xc,r16,Wbv]
  obtain⟨m,q,e1,e2,⟨hm,hm8⟩,e4,e5,e6,e7,e8,e9,e10,e11,e12,e13,e14⟩:=hx.mk24 hc hz
  by_cases hgt:(x.undos.length:Int)>x.last.2.2.2.1
  ·rw[if_pos hgt,if_pos hgt,g3,Xj,Wyo hk hxe (by omega) (by omega) hu hs hN]
   rfl
  ·rw[if_neg hgt,if_neg hgt]
   simp only[r14,r15]
   obtain⟨a,b,c,d⟩:=Wkw hz (by omega) zRM
   have d':(decide ((0:Int)≤isub .i64 (x.marks.length:Int) 1)&&decide (isub .i64 (x.marks.length:Int) 1≤(x.marks.length:Int)))=true:=d
   have c':Xar (Xb (isub .i64 (x.marks.length:Int) 1)) x.marks=x.marks.dropLast:=c
   rw[d',c',Wdx (by rw[e9.len];omega),e2,Way,decide_eq_true hm]
   have o1:Xd p.1 (Xb ((m:Nat):Int)) ((0,0,0,0):Opn)=opN p.1 (m:Int):=rfl
   have hr:=ok_8 (hc.ok m hm).1 hm8
   rw[←Wyc hm]at hr
   simp only[cond_true,ret,Xc,o1]
   rw[Wcz hr e9.len]
   have b2:(decide ((0:Int)≤x.last.2.2.1)&&decide (x.last.2.2.1≤(x.writes.length:Int)))=true:=by simp;omega
   rw[b2]
   simp only[cond_true]
   rw[Wig (by rw[Xan];omega),Wsv (by omega) hN ⟨hm,hm8⟩ e5]
   simp only[ret,Xc]
   rw[Wgr (by have:=e5.len;omega),Xj]
   exact finW rfl rfl rfl
theorem boost_run(hk:k<w.roots.length)(hxe:w.roots[k]=x)(hk4:k≤8)(hc:CC p.1)(hx:RLive p n x)(ho:opOk o=true)(h12:12≤o.1)(hs:ShOk w.shelf)(hh:HOk w.holds)(hN:1048576<N):
  Zgz N w.e (k:Int) o=some (((Wo.put (Wer w x k o) k).e,()),()):=by
 obtain⟨g1,g2,g3,g4,g5⟩:=woG hk hxe
 obtain⟨r0,r1,r2,r3,r4,r5,r6,r7,r8,r11,r12,r13,r14,r15,r16,r18,r19,r20,r21,r24,r28,r29⟩:=rtP x
 obtain⟨z1,z2,z3,z4,z5,z6⟩:=hx.sz hc
 have hhl:=hold_len hh
 have hpc:=hx.pc
 have hcl:=hc.len
 have hbm:(0≤(Wcf o).1∧(Wcf o).1≤8)∧1≤(Wcf o).2∧(Wcf o).2≤2:=by
  unfold Wcf
  have h16:=ok_16 ho
  split
  ·rename_i h
   have:Wfe o.2.1=true:=by
    rcases h with h|h
    ·exact(ok_12 ho h).1
    ·exact(ok_14 ho h).1
   rw[Wey]at this;simp only;omega
  ·split
   ·have:=(ok_13 ho ‹_›).2
    rw[Wey]at this;simp only;omega
   ·split<;>(simp only;omega)
 unfold Zgz Wer
 simp only[Wq,Wpc]
 rw[show P5 w.e=w.roots.map Rt.e from rfl,g4,g2,Wgr (by omega),Wyt ho h12,show P4 w.e=w.holds from rfl,show w.e.2.2.2.1=w.shelf from rfl]
 simp only[cond_true,Xc,Wts hh (show 1≤(k:Int)+1∧(k:Int)+1≤9 by omega) hbm.1 hbm.2 (by omega) hN,r3,r12,r16,Wkl hx.spare]
 cases ha:Wcs w.holds ((k:Int)+1) (Wcf o).1 (Wcf o).2 with
 |none=>
  simp only[Option.isSome_none,Bool.not_false,cond_true,Xj]
  exact finW rfl rfl rfl
 |some hs'=>
  simp only[Option.isSome_some,Xaa,cond_false,Option.getD_some,Xj,Wtu hs hx.regs ho h12 hN,Xc,Why]
  rw[Wgr (by omega),Ww (by simp;omega)]
  by_cases hz:(Wdo w.shelf o x.regs).2.2.1=0
  ·rw[if_pos hz,if_pos hz];exact finW rfl rfl rfl
  ·rw[if_neg hz,if_neg hz];exact finW rfl rfl rfl
theorem run_run(hk:k<w.roots.length)(hxe:w.roots[k]=x)(hk4:k≤8)(hp:POk p)(hx:RLive p n x)(hu:∀u∈x.undos,UnV u)(hm:Waq w.mem=true)(hs:ShOk w.shelf)(hh:HOk w.holds)(hN:1048576<N):
  Zh2 N w.e (k:Int) p=some (((Wo.put (rRun w x k p) k).e,()),()):=by
 obtain⟨g1,g2,g3,g4,g5⟩:=woG hk hxe
 obtain⟨r0,r1,r2,r3,r4,r5,r6,r7,r8,r11,r12,r13,r14,r15,r16,r18,r19,r20,r21,r24,r28,r29⟩:=rtP x
 have hc:=hp.code
 obtain⟨z1,z2,z3,z4,z5,z6⟩:=hx.sz hc
 have hpc:=hx.pc
 have hcl:=hc.len
 have hrl:=hx.regs.len
 unfold Zh2 rRun
 simp only[Wq]
 rw[show P5 w.e=w.roots.map Rt.e from rfl,g4,g2,g3]
 simp only[cond_true,r3,r4,r12,r13,r14,r15,r16,Wbv,Wn,show ilen p.1=(p.1.length:Int)from rfl]
 by_cases hge:x.pc≥p.1.length
 ·rw[if_pos hge,if_pos hge,close_run hk hxe hk4 hh hx.rv z5 z6 hN];rfl
 ·rw[if_neg hge,if_neg hge]
  obtain⟨j,hj,ej,eo⟩:=Wml (l:=p.1) hpc.1 (by omega)
  have eo':Xd p.1 (Xb x.pc) ((0,0,0,0):Opn)=opN p.1 x.pc:=rfl
  have hin:inb x.pc p.1.length=true:=by rw[ej,Way];exact decide_eq_true hj
  rw[hin]
  obtain⟨ok,o1,o16⟩:=hc.ok j hj
  simp only[cond_true,eo']
  rw[←eo]at ok o1 o16
  rw[Wgr (show 0≤x.pc∧x.pc≤1000000 by omega)]
  have h9pos:(opN p.1 x.pc).1=9→x.marks.length≠0:=λh9 hz=>by
   have h1:=congrArg Xa hx.marks.pcs
   simp only[Xaf,hz]at h1
   have h2:=Weg hc.up j (by omega)
   have h3:=hc.up j hj
   rw[Wbz hj,Wzk (by rw[←eo];exact h9)]at h3
   rw[ej,Xj]at h1
   omega
  generalize opN p.1 x.pc=o at*
  have c12:o.1≥12→Zgz N w.e (k:Int) o=some (((Wo.put (Wer w x k o) k).e,()),()):=λh12=>boost_run hk hxe hk4 hc hx ok h12 hs hh hN
  by_cases h5:o.1=5
  ·rw[if_pos h5,if_pos h5,Xj,read_run hk hxe hc hx hm h5 ok hN];rfl
  ·rw[if_neg h5,if_neg h5]
   by_cases h10:o.1=10
   ·rw[if_pos h10,if_pos h10,abort_run hk hxe hk4 hc hx hu hs hh hN];rfl
   ·rw[if_neg h10,if_neg h10]
    by_cases h11:o.1=11
    ·rw[if_pos h11,if_pos h11,show ilen p.2=((p.2.length:Nat):Int)from rfl,Wvn (by omega) (by omega) hp.k3 hN,Xj]
     exact finW rfl rfl rfl
    ·rw[if_neg h11,if_neg h11]
     by_cases h12:o.1≥12
     ·rw[if_pos h12]
      have hb:=c12 h12
      have:o.1=12∨o.1=13∨o.1=14∨o.1=15∨o.1=16:=by omega
      rcases this with h|h|h|h|h
      ·rw[if_pos h,if_pos h,hb];rfl
      ·rw[if_neg (by omega),if_pos h,if_pos h,hb];rfl
      ·rw[if_neg (by omega),if_neg (by omega),if_pos h,if_pos h,hb];rfl
      ·rw[if_neg (by omega),if_neg (by omega),if_neg (by omega),if_pos h,if_pos h,hb];rfl
      ·rw[if_neg (by omega),if_neg (by omega),if_neg (by omega),if_neg (by omega),if_pos h,hb];rfl
     ·rw[if_neg h12,if_neg (show¬o.1=12 by omega),if_neg (show¬o.1=13 by omega),if_neg (show¬o.1=14 by omega),if_neg (show¬o.1=15 by omega),if_neg (show¬o.1=16 by omega)]
      by_cases h6:o.1=6
      ·rw[if_pos h6,if_pos h6,Wcz (ok_6 ok h6).2 hrl,Ww (by simp;omega),Xj]
       exact finW rfl rfl rfl
      ·rw[if_neg h6,if_neg h6]
       by_cases h7:o.1=7
       ·rw[if_pos h7,if_pos h7]
        have h:=ok_7 ok h7
        rw[Wcz h.1 hrl,Wx (a:=x.pc) (b:=o.2.2.1) (by unfold I64;omega),Wgr (a:=x.pc+o.2.2.1) (by omega),Xj]
        by_cases hg:Xd x.regs (Xb o.2.1) 0=0
        ·rw[if_pos hg,if_pos (show getI x.regs o.2.1 0=0 from hg)]
         exact finW rfl rfl rfl
        ·rw[if_neg hg,if_neg (show¬getI x.regs o.2.1 0=0 from hg)]
         exact finW rfl rfl rfl
       ·rw[if_neg h7,if_neg h7]
        by_cases h8:o.1=8
        ·rw[if_pos h8,if_pos h8,Wdx (by omega)]
         simp only[ret,Xc]
         rw[Ww (by simp;omega),Xj]
         exact finW rfl rfl rfl
        ·rw[if_neg h8,if_neg h8]
         by_cases h9:o.1=9
         ·rw[if_pos h9,if_pos h9]
          have hz:=h9pos h9
          obtain⟨a,b,c,d⟩:=Wkw hz (by omega) zRM
          obtain⟨m,q,e1,e2,⟨hm',hm8⟩,e4,e5,e6,e7,e8,e9,e10,e11,e12,e13,e14⟩:=hx.mk24 hc hz
          rw[lastj_run hz (by omega)]
          simp only[Xc]
          rw[d,c,e2,Way,decide_eq_true hm']
          have o1:Xd p.1 (Xb ((m:Nat):Int)) ((0,0,0,0):Opn)=opN p.1 (m:Int):=rfl
          have hr:=ok_8 (hc.ok m hm').1 hm8
          rw[←Wyc hm']at hr
          simp only[cond_true,o1]
          rw[Wcz hr hrl,Xj]
          exact finW rfl rfl rfl
         ·rw[if_neg h9,if_neg h9,Wrk hN ok (by omega) (by omega) hx.regs,Xj]
          exact finW rfl rfl rfl
theorem idle_run(hk:k<w.roots.length)(hxe:w.roots[k]=x)(hl4:w.roots.length≤8)(hN:1048576<N):
  Zfv N w.e (k:Int)=some (((Wo.put (Wik w x k) k).e,()),()):=by
 obtain⟨g1,g2,g3,g4,g5⟩:=woG hk hxe
 have hself:=put_self hk hxe
 have hrl:(w.roots.map Rt.e).length=w.roots.length:=by simp
 unfold Zfv
 rw[show P5 w.e=w.roots.map Rt.e from rfl,g4,g2,Wgr (by omega),Xj]
 simp only[cond_true,Why,Wn,Wbv,show w.e.2.1=w.token from rfl,show x.e.2.1=x.tries from rfl,show w.e.1=w.now from rfl,show w.e.2.2.1.1=w.mem.1 from rfl]
 have hgo:∀(K0:Bool→Int→Bool→Option ((Y_World×Unit)×Unit)) (d j n:Nat) (al:Bool),j+d=w.roots.length→d<n→
   Za6 N (k:Int) k (ilen (w.roots.map Rt.e)) w.now w.token w.mem.1 w.e.2.2.2.1.2 (w.roots.map Rt.e) w.e.2.2.1.2 w.e.2.2.2.1.1 (P4 w.e) (Q6 w.e) K0 n al (j:Int)=K0 (al&&Waw k (w.roots.drop j) j) (w.roots.length:Int) false:=by
  intro K0 d
  induction d with
  |zero=>
   intro j n al hj hn
   obtain⟨n,rfl⟩:∃n',n=n'+1:=⟨n-1,by omega⟩
   have:j=(w.roots.map Rt.e).length:=by omega
   rw[Za6,this,Wbl (Xm _),hrl,Xdk]
   simp[Waw]
  |succ d ih=>
   intro j n al hj hn
   obtain⟨n,rfl⟩:∃n',n=n'+1:=⟨n-1,by omega⟩
   have hlt:j<(w.roots.map Rt.e).length:=by omega
   have hlt':j<w.roots.length:=by omega
   rw[Za6]
   simp only[Wbb hlt,Wk hlt,Wm hlt,We (show j<4611686018427387904 by omega),cond_true,ih (j+1) n _ (by omega) (by omega),Xdo]
   rw[Xby hlt',Waw]
   generalize Waw k (w.roots.drop (j+1)) (j+1)=b
   have hp:(Rt.e w.roots[j]).1=w.roots[j].phase:=rfl
   rw[hp]
   simp only[Wn]
   cases al with
   |false=>simp
   |true=>
    simp only[cond_true,Xbp]
    by_cases h1:j=k
    ·rw[if_pos (by omega),decide_eq_true h1];simp
    ·rw[if_neg (by omega),decide_eq_false h1]
     by_cases h2:w.roots[j].phase=0
     ·rw[if_pos h2,decide_eq_true h2];simp
     ·rw[if_neg h2,decide_eq_false h2]
      have:(w.roots[j].phase==8)=decide (w.roots[j].phase=8):=by
       by_cases h3:w.roots[j].phase=8<;>simp[h3]
      rw[this];simp
 have:=hgo
 refine(hgo _ w.roots.length 0 N true (by omega) (by omega)).trans ?_
 rw[Xcc,Xbp]
 unfold Wik
 have hnew:some ((S5 (Xl (w.roots.map Rt.e) k ((1:Int),(x.tries,((0:Int),((0:Int),(w.mem.1,((0:Int),((0:Int),((0:Int),((0:Int),(w.now,((0:Int),(false,(Xv (Xb (4:Int)) (0:Int),(([]:List (Int×Int)),(([]:List (Int×Int)),(([]:List (Int×Int×Int×Int×List Int)),(([]:List (Int×Int×Int)),(([]:List Int),(false,(((0:Int),((0:Int),((0:Int),(0:Int)))),(((0:Int),((0:Int),((0:Int),((0:Int),((0:Int),(([]:List (Int×Int)),([]:List Int))))))),d_Family)))))))))))))))))))))) w.e,()),())=some (((Wo.put (w,{phase:=1,tries:=x.tries,rv:=w.mem.1,began:=w.now,regs:=[0,0,0,0]}) k).e,()),()):=finW (x':={phase:=1,tries:=x.tries,rv:=w.mem.1,began:=w.now,regs:=[0,0,0,0]}) (w':=w) rfl rfl rfl
 have htok:some (((w.now,((k:Int)+1,w.e.2.2)),()),())=some (((Wo.put ({w with token:=(k:Int)+1},x) k).e,()),()):=by
  have:Wo.put ({w with token:=(k:Int)+1},x) k={w with token:=(k:Int)+1}:=by unfold Wo.put;simp only;rw[←hxe,Xbe]
  rw[this];rfl
 have hroom:(((decide ((0:Int)≤(4:Int)))&&(decide ((4:Int)≤(4:Int))))&&(room (Xb (4:Int))))=true:=rfl
 have hsame:some ((w.e,()),())=some (((Wo.put (w,x) k).e,()),()):=by rw[hself]
 rw[hroom]
 simp only[cond_true,hnew]
 by_cases t0:w.token=0
 ·rw[if_pos t0]
  rw[if_neg (show¬(w.token≠0∧w.token≠(k:Int)+1) by omega)]
  by_cases ht:x.tries≥3
  ·rw[if_pos ht,if_pos t0,if_pos ⟨ht,t0⟩];exact htok
  ·rw[if_neg ht,if_neg (show¬w.token=(k:Int)+1 by omega),if_neg (λh=>ht h.1),if_neg (by omega)]
 ·rw[if_neg t0]
  by_cases t1:w.token=(k:Int)+1
  ·rw[if_pos t1,if_neg (show¬(w.token≠0∧w.token≠(k:Int)+1) by omega),if_neg (show¬(x.tries≥3∧w.token=0) by omega)]
   have hfin:∀b:Bool,(bif !b then some ((w.e,()),())else some (((Wo.put (w,{phase:=1,tries:=x.tries,rv:=w.mem.1,began:=w.now,regs:=[0,0,0,0]}) k).e,()),()))=some (((Wo.put (if w.token=(k:Int)+1∧b=false then(w,x)else(w,{phase:=1,tries:=x.tries,rv:=w.mem.1,began:=w.now,regs:=[0,0,0,0]})) k).e,()),()):=λb=>by
    cases b with
    |false=>rw[if_pos ⟨t1,rfl⟩];exact hsame
    |true=>rw[if_neg (by simp)];rfl
   by_cases ht:x.tries≥3
   ·rw[if_pos ht,if_neg t0,if_pos t1];exact hfin _
   ·rw[if_neg ht,if_pos t1];exact hfin _
  ·rw[if_neg t1,if_pos ⟨t0,t1⟩];exact hsame
theorem fork_run(hp:POk p)(hx:RLive p n x)(h2:x.phase=2)(hN:1048576<N):Zh3 N x.e=some (((Wfa x).e,()),()):=by
 obtain⟨r0,r1,r2,r3,r4,r5,r6,r7,r8,r11,r12,r13,r14,r15,r16,r18,r19,r20,r21,r24,r28,r29⟩:=rtP x
 have hc:=hp.code
 obtain⟨z1,z2,z3,z4,z5,z6⟩:=hx.sz hc
 obtain⟨f1,f2,f3⟩:=hx.fork h2
 have hpc:=hx.pc
 have hcl:=hc.len
 have hk3:x.fam.kids.length≤3:=by have:=f3.len;have:=hp.k3;omega
 have hord:=f3.len3 hp.k3
 have hrd:=f3.readsL
 unfold Zh3 Wfa
 simp only[r3,r13,r21,r24,r28,r29,Wma,Xc]
 rw[implOver_run hk3 hN,Wzo f3.regs hk3 (λy hy=>by
  obtain⟨i,hi,rfl⟩:=List.getElem_of_mem hy
  rw[(f3.kid i hi).regs.len];omega) hN,implPuts_run (by have:=f3.buf8;omega) hN,Ww (by omega),Wdx (by omega),Wgr (by omega),Wsb]
 by_cases hl:x.fam.lost=true
 ·rw[if_pos hl,if_pos hl]
 ·rw[if_neg hl,if_neg hl]
  simp only[ret,Xc,cond_true]
  cases ho:Wdh x.fam
  ·rw[if_neg (by simp)];rfl
  ·rw[if_pos rfl];rfl
theorem extend_run(hk:k<w.roots.length)(hxe:w.roots[k]=x)(hp:POk p)(hx:RLive p n x)(h4:x.phase=4)(hm:Waq w.mem=true):
  Zgd N w.e k=some (((Wo.put (w,Wcg w x) k).e,()),()):=by
 obtain⟨g1,g2,g3,g4,g5⟩:=woG hk hxe
 obtain⟨r0,r1,r2,r3,r4,r5,r6,r7,r8,r11,r12,r13,r14,r15,r16,r18,r19,r20,r21,r24,r28,r29⟩:=rtP x
 have hc:=hp.code
 obtain⟨z1,z2,z3,z4,z5,z6⟩:=hx.sz hc
 have hz:=hx.back (.inr h4)
 obtain⟨m,q,e1,e2,⟨hm',hm8⟩,e4,e5,e6,e7,e8,e9,e10,e11,e12,e13,e14⟩:=hx.mk24 hc hz
 have hps:=hx.pos h4
 have hpc:=hx.pc
 have hcl:=hc.len
 unfold Zgd Wcg
 simp only[Wq]
 rw[show P5 w.e=w.roots.map Rt.e from rfl,g1,last_run hz (by omega)]
 simp only[Xc,r4,r5,r6,r13,r14,Wbv,Wma,show w.e.2.2.1.2=w.mem.2 from rfl]
 by_cases hlt:x.pos<x.last.2.1
 ·rw[if_pos hlt,if_pos hlt]
  have hj:x.pos.toNat<x.reads.length:=by omega
  have hin:inb x.pos x.reads.length=true:=by unfold inb;simp;omega
  have hg:Xd x.reads (Xb x.pos) ((0:Int),(0:Int))=getI x.reads x.pos (0,0):=rfl
  have hv:0≤(getI x.reads x.pos (0,0)).1∧(getI x.reads x.pos (0,0)).1≤7:=by
   unfold getI;rw[Wc hj];exact(hx.reads _ (Xt hj)).1
  rw[hin,hg,Wpx hm hv,show Xd w.mem.2 (Xb (getI x.reads x.pos (0,0)).1) ((0:Int),((0:Int),(0:Int)))=Wak w.mem (getI x.reads x.pos (0,0)).1 from rfl,Wgr (by omega)]
  simp only[cond_true,Why]
  by_cases a:(Wak w.mem (getI x.reads x.pos (0,0)).1).2.2=0
  ·rw[if_pos a]
   by_cases b:(Wak w.mem (getI x.reads x.pos (0,0)).1).2.1>x.rv
   ·rw[if_pos b,if_pos (.inr b)];exact finW rfl rfl rfl
   ·rw[if_neg b,if_neg (by omega)];exact finW rfl rfl rfl
  ·rw[if_neg a,if_pos (.inl a)];exact finW rfl rfl rfl
 ·rw[if_neg hlt,if_neg hlt]
  have b1:(decide ((0:Int)≤x.last.2.1)&&decide (x.last.2.1≤(x.reads.length:Int)))=true:=by simp;omega
  have b2:(decide ((0:Int)≤x.last.2.2.1)&&decide (x.last.2.2.1≤(x.writes.length:Int)))=true:=by simp;omega
  rw[b1,b2,Wig (by rw[Xan];omega),Wig (by rw[Xan];omega),Wdx (by rw[e9.len];omega),Wgr (by omega)]
  simp only[cond_true,ret,Xc]
  exact finW rfl rfl rfl
theorem commit_run(hk:k<w.roots.length)(hxe:w.roots[k]=x)(hk4:k≤8)(hcm:CmOk x.cm)(hm:Waq w.mem=true)(hh:w.hist.length≤500000)(hN:1048576<N):
  Zge N w.e (k:Int)=some (((Wo.put (Wbu w x k) k).e,()),()):=by
 obtain⟨g1,g2,g3,g4,g5⟩:=woG hk hxe
 obtain⟨r0,r1,r2,r3,r4,r5,r6,r7,r8,r11,r12,r13,r14,r15,r16,r18,r19,r20,r21,r24,r28,r29⟩:=rtP x
 have hst:=cmStep_ok hcm hm
 unfold Zge Wbu
 simp only[Wq,Wpc]
 rw[show P5 w.e=w.roots.map Rt.e from rfl,g4,g2,Wgr (by omega),Xj]
 simp only[cond_true,r7,r11,r20,show w.e.2.2.1=w.mem from rfl,show Q6 w.e=w.hist from rfl]
 rw[Wsb]
 by_cases hd:x.doomed=true
 ·rw[if_pos hd,if_pos hd]
  obtain⟨b,hb⟩:=break_run (N:=N) hcm hN
  rw[hb]
  simp only[Xc,Wn,show(Wbt x.cm).e.2.2.1=(Wbt x.cm).phase from rfl]
  by_cases h8:(Wbt x.cm).phase=8
  ·rw[if_pos h8,if_pos h8]
   have:S20 (Wbt x.cm).e (S11 false x.e)=Rt.e {x with cm:=Wbt x.cm,doomed:=false}:=rfl
   rw[this,Wma]
   exact finW rfl rfl rfl
  ·rw[if_neg h8,if_neg h8];exact finW rfl rfl rfl
 ·rw[if_neg hd,if_neg hd,implStep_run hcm hm hN]
  simp only[Xc]
  obtain⟨m',c',hq⟩:∃m' c',Waa w.mem x.cm=(m',c'):=⟨_,_,rfl⟩
  rw[hq]at hst⊢
  simp only at hst⊢
  have hcp:Zbu N (P5 c'.e)=ret c'.puts:=Wig (by have:=hst.1.plen;show c'.puts.length≤1048576;omega)
  have hS:S20 c'.e x.e=Rt.e {x with cm:=c'}:=rfl
  rw[hcp,hS,Wma]
  simp only[ret,Xc]
  rw[Ww (by simp;omega)]
  simp only[cond_true,Wn,Wbv,show c'.e.2.2.1=c'.phase from rfl,show(Cm.e x.cm).2.2.1=x.cm.phase from rfl,show P4 c'.e=c'.wv from rfl]
  unfold Wen
  simp only
  by_cases h3:x.cm.phase≤3
  ·rw[if_pos h3]
   by_cases h4:c'.phase=4
   ·rw[if_pos h4,if_neg (by omega),if_neg (by omega),if_pos (show x.cm.phase≤3∧c'.phase=4 from⟨h3,h4⟩),if_neg (by omega),if_neg (by omega)]
    exact finW (w':={w with mem:=m',hist:=w.hist++ [(c'.wv,(k:Int)+1,c'.puts)]}) rfl rfl rfl
   ·rw[if_neg h4,if_neg (show¬(x.cm.phase≤3∧c'.phase=4)fromλh=>h4 h.2)]
    by_cases h8:c'.phase=8
    ·rw[if_pos h8,if_pos h8];exact finW (w':={w with mem:=m'}) rfl rfl rfl
    ·rw[if_neg h8,if_neg h8]
     by_cases h6:c'.phase=6
     ·rw[if_pos h6,if_pos h6]
      by_cases h2:x.fate=2
      ·rw[if_pos h2,if_pos h2];exact finW (w':={w with mem:=m'}) rfl rfl rfl
      ·rw[if_neg h2,if_neg h2];exact finW (w':={w with mem:=m'}) rfl rfl rfl
     ·rw[if_neg h6,if_neg h6];exact finW (w':={w with mem:=m'}) rfl rfl rfl
  ·rw[if_neg h3,if_neg (show¬(x.cm.phase≤3∧c'.phase=4)fromλh=>h3 h.1)]
   by_cases h8:c'.phase=8
   ·rw[if_pos h8,if_pos h8];exact finW (w':={w with mem:=m'}) rfl rfl rfl
   ·rw[if_neg h8,if_neg h8]
    by_cases h6:c'.phase=6
    ·rw[if_pos h6,if_pos h6]
     by_cases h2:x.fate=2
     ·rw[if_pos h2,if_pos h2];exact finW (w':={w with mem:=m'}) rfl rfl rfl
     ·rw[if_neg h2,if_neg h2];exact finW (w':={w with mem:=m'}) rfl rfl rfl
    ·rw[if_neg h6,if_neg h6];exact finW (w':={w with mem:=m'}) rfl rfl rfl
end
section
section
variable{code:List Opn}{pc pc' rl wl ul rl' wl' ul':Nat}{ms q:List RM}{y:RM}{n n':Int}{x:Rt}{w:Wo}{p:Pg}{k:Nat}{o:Opn}
theorem Wsd(code:List Opn){a b:Nat}(h:a≤b):frk code a≤frk code b:=by
 unfold frk
 exact List.Sublist.countP_le (List.take_sublist_take_left h)
theorem RMk.mono(h:RMk code pc ms rl wl ul)(hs:stk code pc'=stk code pc)(h1:rl≤rl')(h2:wl≤wl')(h3:ul≤ul'):RMk code pc' ms rl' wl' ul':=
 ⟨by rw[hs];exact h.pcs,λq hq=>by obtain⟨a,b,c,d⟩:=h.each q hq;exact⟨a,by omega,by omega,by omega⟩,h.up⟩
theorem RMk.cut(h:RMk code pc ms rl wl ul)(hms:ms=q++ [y])(h1:y.2.1≤rl')(h2:y.2.2.1≤wl')(h3:y.2.2.2.1≤ul'):RMk code pc ms rl' wl' ul':=by
 refine⟨h.pcs,λa ha=>?_,h.up⟩
 obtain⟨c1,c2,c3,c4⟩:=h.each a ha
 have hle:a.2.1≤y.2.1∧a.2.2.1≤y.2.2.1∧a.2.2.2.1≤y.2.2.2.1:=by
  have hu:=h.up
  rw[hms]at ha hu
  rcases Xn.1 ha with ha|ha
  ·exact(Xag.1 hu).2.2 a ha y (by simp)
  ·rw[Xac]at ha;subst ha;omega
 exact⟨c1,by omega,by omega,by omega⟩
theorem RMk.begin(h:RMk code pc ms rl wl ul)(hp:pc<code.length)(h8:code[pc].1=8){regs:List Int}(hr:Vals 4 regs)(h1:rl≤pc+72*frk code pc)(h2:wl≤pc+8)(h3:ul≤pc):
  RMk code (pc+1) (ms++ [((pc:Int),(rl:Int),(wl:Int),(ul:Int),regs)]) rl wl ul:=by
 refine⟨?_,?_,?_⟩
 ·rw[Wva hp h8,Xp,Xp,h.pcs];rfl
 ·intro q hq
  rcases Xn.1 hq with hq|hq
  ·exact h.each q hq
  ·rw[Xac]at hq;subst hq
   refine⟨hr,?_,?_,?_⟩
   ·simp only[Xj];omega
   ·simp only;omega
   ·simp only;omega
 ·refine Xag.2 ⟨h.up,List.pairwise_singleton _ _,λa ha b hb=>?_⟩
  rw[Xac]at hb;subst hb
  obtain⟨c1,c2,c3,c4⟩:=h.each a ha
  exact⟨c2.2.2,c3.2.2,c4.2.2⟩
theorem RMk.drop(h:RMk code pc ms rl wl ul)(hms:ms=q++ [y])(hs:stk code pc'=(stk code pc).dropLast)(h1:y.2.1≤rl')(h2:y.2.2.1≤wl')(h3:y.2.2.2.1≤ul'):RMk code pc' q rl' wl' ul':=by
 have h':=h.cut hms h1 h2 h3
 subst hms
 have e:=h.pcs
 refine⟨?_,λa ha=>h'.each a (List.mem_append_left _ ha),(Xag.1 h.up).1⟩
 rw[hs,List.map_dropLast,←e,Xp];simp
theorem RLive.wk(h:RLive p n x)(hn:n≤n'):RLive p n' x:={h with fork:=λh2=>by obtain⟨a,b,c⟩:=h.fork h2;exact⟨a,b,c.wk hn⟩}
theorem ROk.wk(h:ROk p n x)(hn:n≤n'):ROk p n' x:={h with tries:=by have:=h.tries;omega,live:=λhl=>(h.live hl).wk hn}
theorem RLive.on(hcc:CC p.1)(h:RLive p n x)(h1:x.phase=1){i:Nat}(hi:i<p.1.length)(hpc:x.pc=i){regs:List Int}{reads writes:List Rw}{marks:List RM}{undos:List Un}{busy:Bool}{pb:Pb}{pc':Nat}
  (hp:pc'≤p.1.length) (hlt:i<pc') (hr:Vals 4 regs) (hrd:Rows reads) (hrl:reads.length≤x.reads.length+1) (hwr:Rows writes) (hwl:writes.length≤x.writes.length+1) (hul:undos.length≤x.undos.length+1) (hm:RMk p.1 pc' marks reads.length writes.length undos.length) (hb:busy=true→pbOk pb=true):
  RLive p n {x with regs:=regs,reads:=reads,writes:=writes,marks:=marks,undos:=undos,busy:=busy,pb:=pb,pc:=(pc':Int)} where
 pc:=by show(0:Int)≤(pc':Int)∧(pc':Int)≤_;omega
 spare:=h.spare
 rv:=h.rv
 regs:=hr
 reads:=hrd
 rl:=by
  have h2:=h.rl
  have h3:=Wsd p.1 (show i≤pc' by omega)
  rw[hpc,Xj]at h2
  show(reads.length:Int)≤(pc':Int)+72*(frk p.1 ((pc':Nat):Int).toNat:Int)
  rw[Xj];omega
 writes:=hwr
 wl:=by have:=h.wl;show(writes.length:Int)≤(pc':Int)+8;omega
 ul:=by have:=h.ul;show(undos.length:Int)≤(pc':Int);omega
 marks:=by show RMk p.1 ((pc':Nat):Int).toNat _ _ _ _;rw[Xj];exact hm
 pb:=hb
 fork:=λh2=>by(change x.phase=2 at h2;omega)
 back:=λh2=>by(change x.phase=3∨x.phase=4 at h2;omega)
 newRv:=h.newRv
 pos:=λh2=>by(change x.phase=4 at h2;omega)
 unw:=λh2=>by(change x.phase=4 at h2;omega)
theorem Vals.le4{r:List Int}(h:Vals 4 r):r.length≤4:=Nat.le_of_eq h.len
theorem Wly(h:ROk p n x):ROk p n (Wid x) where
 phase:=by show(0:Int)≤6∧(6:Int)≤8;omega
 tries:=h.tries
 live:=λh=>by(change (1:Int)≤6∧(6:Int)≤4 at h;omega)
 comm:=λh=>by(change (6:Int)=5 at h;omega)
 undos:=h.undos
 ul:=h.ul
 rg:=by show([]:List Int).length≤4;simp
 ord:=by show([]:List Int).length≤3;simp
theorem Wrg(h:ROk p n x)(hl:RLive p n x):ROk p n (Wad x):=by
 unfold Wad
 split
 ·exact Wly h
 ·rename_i hc
  exact{h with
   phase:=by show(0:Int)≤3∧(3:Int)≤8;omega
   live:=λ_=>{hl with
    spare:=by have:=hl.spare;show 0≤x.spare+1∧x.spare+1≤2;omega
    pb:=λh=>by cases h
    fork:=λh=>by(change (3:Int)=2 at h;omega)
    back:=λ_=>by show x.marks.length≠0;omega
    pos:=λh=>by(change (3:Int)=4 at h;omega)
    unw:=λh=>by(change (3:Int)=4 at h;omega)}
   comm:=λh=>by(change (3:Int)=5 at h;omega)}
structure QOk(p:Pg)(n:Int)(w:Wo)(q:Wo×Rt):Prop where
 root:ROk p n q.2
 mem:Waq q.1.mem=true
 shelf:ShOk q.1.shelf
 holds:HOk q.1.holds
 hist:q.1.hist.length≤w.hist.length+1
 histE:∀h∈q.1.hist,h∈w.hist∨HE h
 roots:q.1.roots=w.roots
 now:q.1.now=w.now
structure GOk(w:Wo):Prop where
 mem:Waq w.mem=true
 shelf:ShOk w.shelf
 holds:HOk w.holds
theorem GOk.st(h:GOk w){y:Rt}(hy:ROk p n y):QOk p n w (w,y):=⟨hy,h.mem,h.shelf,h.holds,by simp,λ_ hh=>.inl hh,rfl,rfl⟩
theorem GOk.qt(h:GOk w){y:Rt}(hy:ROk p n y)(t:Int):QOk p n w ({w with token:=t},y):=⟨hy,h.mem,h.shelf,h.holds,by simp,λ_ hh=>.inl hh,rfl,rfl⟩
theorem rEnd_ok(h:GOk w)(hx:ROk p n x):QOk p n w (rEnd w x k):=by
 unfold rEnd
 refine h.qt ?_ _
 exact{hx with
  phase:=by show(0:Int)≤8∧(8:Int)≤8;omega
  live:=λh=>by(change (1:Int)≤8∧(8:Int)≤4 at h;omega)
  comm:=λh=>by(change (8:Int)=5 at h;omega)
  undos:=λu hu=>by cases hu
  ul:=by simp}
theorem rClose_ok(h:GOk w)(hx:ROk p n x)(hrv:0≤x.rv∧x.rv≤1000000)(hk:k≤8){out:Int}:QOk p n w (Wcd w x k out):=by
 unfold Wcd
 simp only
 generalize (if out=2 then []else x.writes)=rows
 split
 ·exact rEnd_ok (x:={x with fate:=out,stamp:=x.rv}) h
   {phase:=hx.phase,tries:=hx.tries,live:=λhh=>{hx.live hh with},comm:=hx.comm,undos:=hx.undos,ul:=hx.ul,rg:=hx.rg,ord:=hx.ord}
 ·refine h.st ?_
  exact{hx with
   phase:=by show(0:Int)≤5∧(5:Int)≤8;omega
   live:=λh=>by(change (1:Int)≤5∧(5:Int)≤4 at h;omega)
   comm:=λ_=>Wxp (by omega) hrv}
theorem Wnz{α:Type}{l:List α}(h:l.length≠0)(d:α):Wrw l d∈l:=by
 unfold Wrw;rw[Wc (show l.length-1<l.length by omega)];exact Xt _
theorem Wyb(h:GOk w)(hx:ROk p n x)(hz:x.undos.length≠0)(hcc:1≤x.phase∧x.phase≤4→CC p.1∧(x.marks.length≠0→x.last.2.2.2.1<x.undos.length)):QOk p n w (Wjo w x):=by
 unfold Wjo
 refine⟨?_,h.mem,undoOne_ok h.shelf (hx.undos _ (Wnz hz _)),h.holds,by simp,λ_ hh=>.inl hh,rfl,rfl⟩
 have hdl:x.undos.dropLast.length=x.undos.length-1:=List.length_dropLast
 exact{hx with
  live:=λhh=>by
   have hl:=hx.live hh
   obtain⟨c1,c2⟩:=hcc hh
   exact{hl with
    ul:=by have:=hl.ul;show(x.undos.dropLast.length:Int)≤x.pc;omega
    unw:=λh4=>by have:=hl.unw h4;show(x.undos.dropLast.length:Int)≤x.last.2.2.2.1;omega
    marks:=by
     show RMk p.1 x.pc.toNat x.marks x.reads.length x.writes.length x.undos.dropLast.length
     by_cases hm:x.marks.length=0
     ·have:x.marks= []:=Xy hm
      have hM:=hl.marks
      rw[this]at hM⊢
      exact⟨hM.pcs,(λq hq=>by cases hq),hM.up⟩
     ·obtain⟨m,q,e1,e2,⟨hm',hm8⟩,e4,e5,e6,e7,e8,e9,e10,e11,e12,e13,e14⟩:=hl.mk24 c1 hm
      have:=c2 hm
      exact hl.marks.cut e1 e10.2.2 e11.2.2 (by omega)}
  undos:=λu hu=>hx.undos u (by rw[List.dropLast_eq_take]at hu;exact Xcl hu)
  ul:=by have:=hx.ul;show x.undos.dropLast.length≤24;omega}
theorem rRead_ok(hcc:CC p.1)(h:GOk w)(hx:ROk p n x)(hl:RLive p n x)(h1:x.phase=1){i:Nat}(hi:i<p.1.length)(hpc:x.pc=i)(h5:p.1[i].1=5):ROk p n (Whp w x p.1[i]):=by
 have hok:=ok_5 (hcc.ok i hi).1 h5
 have hB:0≤p.1[i].2.2.1∧p.1[i].2.2.1≤7:=by have:=hok.2;unfold Waz at this;simpa using this
 have hM:=hl.marks
 rw[hpc,Xj]at hM
 have hst:stk p.1 (i+1)=stk p.1 i:=Wpi hi (by omega) (by omega)
 have hpc1:x.pc+1=((i+1:Nat):Int):=by omega
 unfold Whp
 cases hlr:Wdr x.writes p.1[i].2.2.1 with
 |some v=>
  have hv:=hl.writes _ (Wua hlr).2
  simp only[hpc1]
  exact{hx with rg:=Vals.le4 (hl.regs.set _ hv.2),live:=λ_=>RLive.on hcc hl h1 hi hpc (by omega) (by omega) (hl.regs.set _ hv.2) hl.reads (by omega) hl.writes (by omega) (by omega) (hM.mono hst (by omega) (by omega) (by omega)) hl.pb}
 |none=>
  simp only
  have hps:=pbStep_ok (rv:=x.rv) h.mem (pbIf_ok hl.pb hB)
  generalize Was w.mem x.rv (if x.busy=true then x.pb else(p.1[i].2.2.1,0,0,0))=b at*
  have hp:=Wmi.1 hps.1
  have hbz:RLive p n {x with busy:=true,pb:=b}:={hl with pb:=λ_=>hps.1}
  have hbo:ROk p n {x with busy:=true,pb:=b}:={hx with live:=λ_=>hbz}
  split
  ·exact Wrg hbo hbz
  ·split
   ·simp only[hpc1]
    refine{hx with rg:=Vals.le4 (hl.regs.set _ hp.2.2.2),live:=λ_=>RLive.on hcc hl h1 hi hpc (by omega) (by omega) (hl.regs.set _ hp.2.2.2) (λr hr=>?_) (by simp) hl.writes (by omega) (by omega) (hM.mono hst (by simp) (by omega) (by omega)) (λh=>by cases h)}
    rcases Xn.1 hr with hr|hr
    ·exact hl.reads r hr
    ·rw[Xac]at hr;subst hr;exact⟨hB,hp.2.2.2⟩
   ·exact hbo
theorem rAbort_ok(hcc:CC p.1)(h:GOk w)(hx:ROk p n x)(hl:RLive p n x)(h1:x.phase=1)(hk:k≤8){i:Nat}(hi:i<p.1.length)(hpc:x.pc=i):QOk p n w (Wfc w x k p.1):=by
 have hM:=hl.marks
 rw[hpc,Xj]at hM
 unfold Wfc
 split
 ·exact rClose_ok h hx hl.rv hk
 ·rename_i hz
  obtain⟨m,q,e1,e2,⟨hm',hm8⟩,e4,e5,e6,e7,e8,e9,e10,e11,e12,e13,e14⟩:=hl.mk24 hcc hz
  split
  ·exact Wyb h hx (by omega) λ_=>⟨hcc,λ_=>by omega⟩
  ·refine h.st ?_
   rw[e8]
   simp only[e2,Xj,←Int.natCast_succ]
   have hlen:=e5.len
   have ht:(Xar x.last.2.2.1.toNat x.writes).length=x.last.2.2.1.toNat:=by rw[Xan];omega
   refine{hx with rg:=Vals.le4 (e9.set _ (by omega)),live:=λ_=>RLive.on hcc hl h1 hi hpc (pc':=Wsn p.1 m+1) (by omega) (by omega) (e9.set _ (by omega)) hl.reads (by omega) (λr hr=>hl.writes r (Xcl hr)) (by omega) (by omega) ?_ hl.pb}
   exact hM.drop e1 (by rw[e5.st,e7,hpc];rfl) (by omega) (by rw[ht];omega) (by omega)
theorem rBoost_ok(hcc:CC p.1)(h:GOk w)(hx:ROk p n x)(hl:RLive p n x)(h1:x.phase=1)(hk:k≤8){i:Nat}(hi:i<p.1.length)(hpc:x.pc=i)(h12:12≤p.1[i].1):QOk p n w (Wer w x k p.1[i]):=by
 have ho:=(hcc.ok i hi).1
 have hM:=hl.marks
 rw[hpc,Xj]at hM
 have hst:stk p.1 (i+1)=stk p.1 i:=Wpi hi (by omega) (by omega)
 have hpc1:x.pc+1=((i+1:Nat):Int):=by omega
 have hul:=hl.ul
 have hcl:=hcc.len
 have hbm:(0≤(Wcf p.1[i]).1∧(Wcf p.1[i]).1≤8)∧1≤(Wcf p.1[i]).2∧(Wcf p.1[i]).2≤2:=by
  unfold Wcf
  have h16:=ok_16 ho
  split
  ·rename_i h
   have:Wfe p.1[i].2.1=true:=by
    rcases h with h|h
    ·exact(ok_12 ho h).1
    ·exact(ok_14 ho h).1
   rw[Wey]at this;simp only;omega
  ·split
   ·have:=(ok_13 ho ‹_›).2
    rw[Wey]at this;simp only;omega
   ·split<;>(simp only;omega)
 unfold Wer
 cases ha:Wcs w.holds ((k:Int)+1) (Wcf p.1[i]).1 (Wcf p.1[i]).2 with
 |none=>exact h.st (Wrg hx hl)
 |some hs=>
  have hhs:HOk hs:=by
   unfold Wcs at ha
   split at ha
   ·injection ha with ha;subst ha;exact holdPut_ok h.holds (by omega) hbm.1 hbm.2 ‹_›
   ·cases ha
  obtain⟨b1,b2,b3,b4⟩:=boostDo_ok h.shelf hl.regs ho h12
  simp only[hpc1]
  refine⟨?_,h.mem,b1,hhs,by simp,λ_ hh=>.inl hh,rfl,rfl⟩
  by_cases hz:(Wdo w.shelf p.1[i] x.regs).2.2.1=0
  ·simp only[if_pos hz]
   exact{hx with rg:=Vals.le4 b2,live:=λ_=>RLive.on hcc hl h1 hi hpc (by omega) (by omega) b2 hl.reads (by omega) hl.writes (by omega) (by omega) (hM.mono hst (by omega) (by omega) (by omega)) hl.pb}
  ·simp only[if_neg hz]
   refine{hx with rg:=Vals.le4 b2,live:=λ_=>RLive.on hcc hl h1 hi hpc (by omega) (by omega) b2 hl.reads (by omega) hl.writes (by omega) (by simp) (hM.mono hst (by omega) (by omega) (by simp)) hl.pb,undos:=λu hu=>?_,ul:=by simp;omega}
   rcases Xn.1 hu with hu|hu
   ·exact hx.undos u hu
   ·rw[Xac]at hu;subst hu;exact b3 hz
theorem rRun_ok(hp:POk p)(h:GOk w)(hx:ROk p n x)(h1:x.phase=1)(hk:k≤8)(hn:0≤n):QOk p n w (rRun w x k p):=by
 have hl:=hx.live (by omega)
 have hcc:=hp.code
 unfold rRun
 split
 ·exact rClose_ok h hx hl.rv hk
 ·obtain⟨i,hi,hpc,ho⟩:=Wml (l:=p.1) hl.pc.1 (by have:=hl.pc;omega)
  simp only[ho]
  obtain⟨ok,o1,o16⟩:=hcc.ok i hi
  have hM:=hl.marks
  rw[hpc,Xj]at hM
  have hpc1:x.pc+1=((i+1:Nat):Int):=by omega
  have hrl:=hl.rl
  have hwl:=hl.wl
  have hul:=hl.ul
  rw[hpc,Xj]at hrl
  split
  ·exact h.st (rRead_ok hcc h hx hl h1 hi hpc ‹_›)
  ·split
   ·exact rAbort_ok hcc h hx hl h1 hk hi hpc
   ·split
    ·rename_i h11
     refine h.st ?_
     exact{hx with
      phase:=by show(0:Int)≤2∧(2:Int)≤8;omega
      live:=λ_=>{hl with
       fork:=λ_=>⟨by show x.pc<p.1.length;omega,by show(opN p.1 x.pc).1=11;rw[ho];exact h11,famNew_ok hl.regs hn⟩
       back:=λh=>by(change (2:Int)=3∨(2:Int)=4 at h;omega)
       pos:=λh=>by(change (2:Int)=4 at h;omega)
       unw:=λh=>by(change (2:Int)=4 at h;omega)}
      comm:=λh=>by(change (2:Int)=5 at h;omega)}
    ·split
     ·exact rBoost_ok hcc h hx hl h1 hk hi hpc (by omega)
     ·split
      ·refine h.st ?_
       have hk:=ok_6 ok ‹_›
       have hst:stk p.1 (i+1)=stk p.1 i:=Wpi hi (by omega) (by omega)
       simp only[hpc1]
       refine{hx with live:=λ_=>RLive.on hcc hl h1 hi hpc (by omega) (by omega) hl.regs hl.reads (by omega) (λr hr=>?_) (by simp) (by omega) (hM.mono hst (by omega) (by simp) (by omega)) hl.pb}
       rcases Xn.1 hr with hr|hr
       ·exact hl.writes r hr
       ·rw[Xac]at hr;subst hr
        have:=hk.1;unfold Waz at this
        exact⟨by simpa using this,hl.regs.get _⟩
      ·split
       ·refine h.st ?_
        obtain⟨s1,s2⟩:=hcc.sk i hi ‹_›
        have hk:=ok_7 ok ‹_›
        have hst:stk p.1 (i+1)=stk p.1 i:=Wpi hi (by omega) (by omega)
        have hst2:stk p.1 (i+1+p.1[i].2.2.1.toNat)=stk p.1 i:=by rw[←hst];exact stk_part (by omega) s1 s2
        by_cases hg:getI x.regs p.1[i].2.1 0=0
        ·simp only[if_pos hg,show x.pc+p.1[i].2.2.1+1=((i+1+p.1[i].2.2.1.toNat:Nat):Int) by omega]
         exact{hx with live:=λ_=>RLive.on hcc hl h1 hi hpc s1 (by omega) hl.regs hl.reads (by omega) hl.writes (by omega) (by omega) (hM.mono hst2 (by omega) (by omega) (by omega)) hl.pb}
        ·simp only[if_neg hg,hpc1]
         exact{hx with live:=λ_=>RLive.on hcc hl h1 hi hpc (by omega) (by omega) hl.regs hl.reads (by omega) hl.writes (by omega) (by omega) (hM.mono hst (by omega) (by omega) (by omega)) hl.pb}
       ·split
        ·refine h.st ?_
         simp only[hpc1]
         rw[hpc]
         exact{hx with live:=λ_=>RLive.on hcc hl h1 hi hpc (by omega) (by omega) hl.regs hl.reads (by omega) hl.writes (by omega) (by omega) (hM.begin hi ‹_› hl.regs (by omega) (by omega) (by omega)) hl.pb}
        ·split
         ·rename_i h9
          refine h.st ?_
          have hz:x.marks.length≠0:=λhz=>by
           have h1:=congrArg Xa hM.pcs
           simp only[Xaf,hz]at h1
           have h2:=Weg hcc.up i (by omega)
           have h3:=hcc.up i hi
           rw[Wbz hi,Wzk h9]at h3
           omega
          obtain⟨m,q,e1,e2,⟨hm',hm8⟩,e4,e5,e6,e7,e8,e9,e10,e11,e12,e13,e14⟩:=hl.mk24 hcc hz
          simp only[hpc1]
          rw[e8]
          exact{hx with rg:=Vals.le4 (hl.regs.set _ (by omega)),live:=λ_=>RLive.on hcc hl h1 hi hpc (by omega) (by omega) (hl.regs.set _ (by omega)) hl.reads (by omega) hl.writes (by omega) (by omega) (hM.drop e1 (Wxy hi h9) (by omega) (by omega) (by omega)) hl.pb}
         ·refine h.st ?_
          have hst:stk p.1 (i+1)=stk p.1 i:=Wpi hi (by omega) (by omega)
          simp only[hpc1]
          exact{hx with rg:=Vals.le4 (Wzb ok (by omega) (by omega) hl.regs),live:=λ_=>RLive.on hcc hl h1 hi hpc (by omega) (by omega) (Wzb ok (by omega) (by omega) hl.regs) hl.reads (by omega) hl.writes (by omega) (by omega) (hM.mono hst (by omega) (by omega) (by omega)) hl.pb}
theorem rIdle_ok(h:GOk w)(hx:ROk p n x)(hu:x.phase=0)(hcl:0≤(p.1.length:Int)):QOk p n w (Wik w x k):=by
 have hmm:=Wz h.mem
 unfold Wik
 split
 ·exact h.st hx
 ·split
  ·exact h.qt hx _
  ·split
   ·exact h.st hx
   ·refine h.st ?_
    exact{
     phase:=by show(0:Int)≤1∧(1:Int)≤8;omega
     tries:=hx.tries
     live:=λ_=>{
      pc:=by show(0:Int)≤0∧(0:Int)≤_;omega
      spare:=by show(0:Int)≤0∧(0:Int)≤2;omega
      rv:=⟨hmm.2.1,hmm.2.2.1⟩
      regs:=⟨rfl,λv hv=>by simp at hv;omega⟩
      reads:=λr hr=>by cases hr
      rl:=by simp;omega
      writes:=λr hr=>by cases hr
      wl:=by simp
      ul:=by simp
      marks:=⟨by simp[stk],(λq hq=>by cases hq),List.Pairwise.nil⟩
      pb:=λh=>by cases h
      fork:=λh=>by(change (1:Int)=2 at h;omega)
      back:=λh=>by(change (1:Int)=3∨(1:Int)=4 at h;omega)
      newRv:=by show(0:Int)≤0∧(0:Int)≤1000000;omega
      pos:=λh=>by(change (1:Int)=4 at h;omega)
      unw:=λh=>by(change (1:Int)=4 at h;omega)}
     comm:=λh=>by(change (1:Int)=5 at h;omega)
     undos:=λu hu=>by cases hu
     ul:=by simp
     rg:=by simp
     ord:=by simp}
theorem famPuts_rows{codes:List (List Opn)}{f:Fm}(h:FOk codes n f):Rows (Wqc f)∧(Wqc f).length≤8:=by
 refine⟨λr hr=>?_,by unfold Wqc;rw[Xaf];exact h.buf8⟩
 obtain⟨e,he,rfl⟩:=Xu.1 hr
 have:=h.bufE e he
 exact⟨this.1,this.2.1⟩
theorem Wvy{codes:List (List Opn)}{f:Fm}(h:FOk codes n f)(h3:codes.length≤3):Vals 4 (Wtk f):=by
 have hl:=h.len
 have hr:=h.regs
 unfold Wtk
 rw[if_pos ⟨Wmg.2 hr,by omega⟩]
 refine⟨by simp[hr.len];omega,λv hv=>?_⟩
 rcases Xn.1 hv with hv|hv
 ·obtain⟨y,hy,rfl⟩:=Xu.1 hv
  unfold kidReg
  split
  ·rename_i hc
   exact(Wmg.1 hc.2).get _
  ·omega
 ·exact hr.val v (List.mem_of_mem_drop hv)
theorem rFork_ok(hp:POk p)(hx:ROk p n x)(h2:x.phase=2):ROk p n (Wfa x):=by
 have hl:=hx.live (by omega)
 have hcc:=hp.code
 obtain⟨f1,f2,f3⟩:=hl.fork h2
 obtain⟨i,hi,hpc,ho⟩:=Wml (l:=p.1) hl.pc.1 f1
 rw[ho]at f2
 have hM:=hl.marks
 have hrl:=hl.rl
 have hul:=hl.ul
 rw[hpc,Xj]at hM hrl
 unfold Wfa
 split
 ·exact Wly hx
 ·split
  ·have hz:x.marks= []:=by
    have h1:=congrArg Xa hM.pcs
    simp only[Xaf]at h1
    have h3:=Weg hcc.up i (by omega)
    have h4:=(hcc.fk i hi f2).1
    exact Xy (by omega)
   have hst:stk p.1 (i+1)=stk p.1 i:=Wpi hi (by omega) (by omega)
   have hp8:=famPuts_rows f3
   have hord:=f3.len3 hp.k3
   have hrdl:=f3.readsL
   have hfk:frk p.1 (i+1)=frk p.1 i+1:=by rw[Wjr hi];simp[f2]
   exact{hx with
    phase:=by show(0:Int)≤1∧(1:Int)≤8;omega
    rg:=(Wvy f3 hp.k3).le4
    ord:=hord
    live:=λ_=>{hl with
     pc:=by show 0≤x.pc+1∧x.pc+1≤_;omega
     regs:=Wvy f3 hp.k3
     reads:=λr hr=>by
      rcases Xn.1 hr with hr|hr
      ·exact hl.reads r hr
      ·exact f3.readsE r hr
     rl:=by
      show((x.reads++x.fam.reads).length:Int)≤x.pc+1+72*(frk p.1 (x.pc+1).toNat:Int)
      rw[show(x.pc+1).toNat=i+1 by omega,hfk,List.length_append]
      omega
     writes:=hp8.1
     wl:=by have:=hp8.2;show((Wqc x.fam).length:Int)≤x.pc+1+8;omega
     ul:=by show(x.undos.length:Int)≤x.pc+1;omega
     marks:=by
      show RMk p.1 (x.pc+1).toNat x.marks _ _ _
      rw[show(x.pc+1).toNat=i+1 by omega]
      rw[hz]at hM⊢
      exact⟨by rw[hst];exact hM.pcs,(λq hq=>by cases hq),List.Pairwise.nil⟩
     fork:=λh=>by(change (1:Int)=2 at h;omega)
     back:=λh=>by(change (1:Int)=3∨(1:Int)=4 at h;omega)
     pos:=λh=>by(change (1:Int)=4 at h;omega)
     unw:=λh=>by(change (1:Int)=4 at h;omega)}
    comm:=λh=>by(change (1:Int)=5 at h;omega)}
  ·exact hx
theorem rUnwind_ok(hp:POk p)(h:GOk w)(hx:ROk p n x)(h3:x.phase=3):QOk p n w (Wcv w x):=by
 have hl:=hx.live (by omega)
 have hz:=hl.back (.inl h3)
 obtain⟨m,q,e1,e2,⟨hm',hm8⟩,e4,e5,e6,e7,e8,e9,e10,e11,e12,e13,e14⟩:=hl.mk24 hp.code hz
 have hmm:=Wz h.mem
 unfold Wcv
 split
 ·exact Wyb h hx (by omega) λ_=>⟨hp.code,λ_=>by omega⟩
 ·refine h.st ?_
  exact{hx with
   phase:=by show(0:Int)≤4∧(4:Int)≤8;omega
   live:=λ_=>{hl with
    fork:=λh=>by(change (4:Int)=2 at h;omega)
    back:=λ_=>hz
    newRv:=⟨hmm.2.1,hmm.2.2.1⟩
    pos:=λ_=>by(show(0:Int)≤0∧(0:Int)≤x.last.2.1;omega)
    unw:=λ_=>by(show(x.undos.length:Int)≤x.last.2.2.2.1;omega)}
   comm:=λh=>by(change (4:Int)=5 at h;omega)}
theorem rExtend_ok(hp:POk p)(h:GOk w)(hx:ROk p n x)(h4:x.phase=4):ROk p n (Wcg w x):=by
 have hl:=hx.live (by omega)
 have hz:=hl.back (.inr h4)
 have hps:=hl.pos h4
 obtain⟨m,q,e1,e2,⟨hm',hm8⟩,e4,e5,e6,e7,e8,e9,e10,e11,e12,e13,e14⟩:=hl.mk24 hp.code hz
 unfold Wcg
 split
 ·simp only
  split
  ·exact Wly hx
  ·exact{hx with live:=λ_=>{hl with pos:=λ_=>by(show 0≤x.pos+1∧x.pos+1≤x.last.2.1;omega)}}
 ·rename_i hge
  have hst:stk p.1 (m+1)=stk p.1 x.pc.toNat:=by
   have hpcl:=hl.pc
   rw[Wva hm' hm8,e7]
   rcases Wfp (stk p.1 x.pc.toNat)with h0|⟨t,j,ht⟩
   ·have h1:=congrArg Xa hl.marks.pcs
    rw[h0]at h1;simp at h1;exact absurd h1 (by intro hh;rw[hh]at hz;simp at hz)
   ·have h1:=hl.marks.pcs
    rw[e1,ht]at h1
    simp only[Xp,List.map_cons,List.map_nil]at h1
    have h2:=(List.append_inj' h1 rfl).2
    injection h2 with h2
    rw[e2]at h2
    rw[ht,List.dropLast_concat,show m=j by omega]
  have hfm:=Wsd p.1 (show m≤m+1 by omega)
  rw[e2,Xj]at e10
  have hpc1:x.last.1+1=((m+1:Nat):Int):=by omega
  have t1:(Xar x.last.2.1.toNat x.reads).length=x.last.2.1.toNat:=by rw[Xan];omega
  have t2:(Xar x.last.2.2.1.toNat x.writes).length=x.last.2.2.1.toNat:=by rw[Xan];omega
  exact{hx with
   phase:=by show(0:Int)≤1∧(1:Int)≤8;omega
   rg:=e9.le4
   live:=λ_=>{hl with
    pc:=by show 0≤x.last.1+1∧x.last.1+1≤_;omega
    rv:=hl.newRv
    regs:=e9
    reads:=λr hr=>hl.reads r (Xcl hr)
    rl:=by
     show((Xar x.last.2.1.toNat x.reads).length:Int)≤x.last.1+1+72*(frk p.1 (x.last.1+1).toNat:Int)
     rw[hpc1,Xj,t1];omega
    writes:=λr hr=>hl.writes r (Xcl hr)
    wl:=by show((Xar x.last.2.2.1.toNat x.writes).length:Int)≤x.last.1+1+8;rw[t2];omega
    ul:=by
     show(x.undos.length:Int)≤x.last.1+1
     have:=hl.unw h4
     omega
    marks:=by
     show RMk p.1 (x.last.1+1).toNat x.marks (Xar x.last.2.1.toNat x.reads).length (Xar x.last.2.2.1.toNat x.writes).length x.undos.length
     rw[hpc1,Xj,t1,t2]
     exact(hl.marks.cut e1 (by omega) (by omega) e14).mono hst (Xm _) (Xm _) (Xm _)
    fork:=λh=>by(change (1:Int)=2 at h;omega)
    back:=λh=>by(change (1:Int)=3∨(1:Int)=4 at h;omega)
    newRv:=by show(0:Int)≤0∧(0:Int)≤1000000;omega
    pos:=λh=>by(change (1:Int)=4 at h;omega)
    unw:=λh=>by(change (1:Int)=4 at h;omega)}
   comm:=λh=>by(change (1:Int)=5 at h;omega)}
end
end
section
section
variable{N:Nat}{w:Wo}{k:Nat}{x:Rt}{p:Pg}{n:Int}{ps:List Pg}
theorem rCommit_ok(h:GOk w)(hx:ROk p n x)(h5:x.phase=5)(hk:k≤8):QOk p n w (Wbu w x k):=by
 have hc:=hx.comm h5
 unfold Wbu
 split
 ·split
  ·exact h.st (Wly hx)
  ·refine h.st ?_
   exact{hx with live:=λhh=>by(change 1≤x.phase∧x.phase≤4 at hh;omega),comm:=λ_=>cmBreak_ok hc}
 ·have hst:=cmStep_ok hc h.mem
  obtain⟨m',c',hq⟩:∃m' c',Waa w.mem x.cm=(m',c'):=⟨_,_,rfl⟩
  simp only[hq]at hst⊢
  refine⟨?_,hst.2,h.shelf,h.holds,?_,?_,rfl,rfl⟩
  ·have hy:ROk p n {x with cm:=c'}:={hx with live:=λhh=>by(change 1≤x.phase∧x.phase≤4 at hh;omega),comm:=λ_=>hst.1}
   unfold Wen
   simp only
   split
   ·exact Wly hy
   ·split
    ·have hph:(if x.fate=2 then(6:Int)else 7)=6∨(if x.fate=2 then(6:Int)else 7)=7:=by split<;>simp
     generalize (if x.fate=2 then(6:Int)else 7)=ph at*
     exact{hx with
      phase:=by show 0≤ph∧ph≤8;omega
      live:=λhh=>by(change 1≤ph∧ph≤4 at hh;omega)
      comm:=λhh=>by(change ph=5 at hh;omega)}
    ·exact hy
  ·simp only
   split<;>simp
  ·simp only
   intro h hh
   split at hh
   ·rcases Xn.1 hh with hh|hh
    ·exact .inl hh
    ·rw[Xac]at hh;subst hh
     exact .inr ⟨hst.1.plen,hst.1.rows,by simp only;omega,by simp only;omega⟩
   ·exact .inl hh
theorem Wsf(hp:POk p)(h:GOk w)(hx:ROk p n x)(hk:k≤8)(hn:0≤n):QOk p (n+1) w (Wav w x k p):=by
 have hx':=hx.wk (show n≤n+1 by omega)
 unfold Wav
 by_cases hd:x.doomed=true∧1≤x.phase∧x.phase≤4
 ·rw[if_pos hd];exact h.st (Wly hx')
 rw[if_neg hd]
 by_cases h0:x.phase=0
 ·rw[if_pos h0];exact rIdle_ok h hx' h0 (by omega)
 rw[if_neg h0]
 by_cases h1:x.phase=1
 ·rw[if_pos h1];exact rRun_ok hp h hx' h1 hk (by omega)
 rw[if_neg h1]
 by_cases h2:x.phase=2
 ·rw[if_pos h2];exact h.st (rFork_ok hp hx' h2)
 rw[if_neg h2]
 by_cases h3:x.phase=3
 ·rw[if_pos h3];exact rUnwind_ok hp h hx' h3
 rw[if_neg h3]
 by_cases h4:x.phase=4
 ·rw[if_pos h4];exact h.st (rExtend_ok hp h hx' h4)
 rw[if_neg h4]
 by_cases h5:x.phase=5
 ·rw[if_pos h5];exact rCommit_ok h hx' h5 hk
 rw[if_neg h5]
 by_cases h6:x.phase=6
 ·rw[if_pos h6]
  by_cases hz:x.undos.length>0
  ·rw[if_pos hz];exact Wyb h hx' (by omega) λhh=>by omega
  ·rw[if_neg hz]
   refine h.st ?_
   exact{hx' with
    phase:=by show(0:Int)≤7∧(7:Int)≤8;omega
    live:=λhh=>by(change (1:Int)≤7∧(7:Int)≤4 at hh;omega)
    comm:=λhh=>by(change (7:Int)=5 at hh;omega)}
 rw[if_neg h6]
 by_cases h7:x.phase=7
 ·rw[if_pos h7]
  have hg:GOk {w with holds:=Wat w.holds ((k:Int)+1)}:=⟨h.mem,h.shelf,Wuf h.holds⟩
  by_cases hf:x.fate=0
  ·rw[if_pos hf]
   refine⟨?_,h.mem,h.shelf,Wuf h.holds,by simp,λ_ hh=>.inl hh,rfl,rfl⟩
   exact{
    phase:=by show(0:Int)≤0∧(0:Int)≤8;omega
    tries:=by have:=hx.tries;show 0≤x.tries+1∧x.tries+1≤n+1;omega
    live:=λhh=>by(change (1:Int)≤0∧(0:Int)≤4 at hh;omega)
    comm:=λhh=>by(change (0:Int)=5 at hh;omega)
    undos:=λu hu=>by cases hu
    ul:=by simp
    rg:=by simp
    ord:=by simp}
  ·rw[if_neg hf]
   have:=rEnd_ok (k:=k) hg hx'
   exact⟨this.root,this.mem,this.shelf,this.holds,this.hist,this.histE,this.roots,this.now⟩
 ·rw[if_neg h7];exact h.st hx'
theorem step_run(hk:k<w.roots.length)(hxe:w.roots[k]=x)(hl4:w.roots.length≤8)(hp:POk p)(h:GOk w)(hx:ROk p n x)(hn:n≤200000)(hh:w.hist.length≤500000)(hN:1048576<N):
  Zhh N w.e (k:Int) p=some (((Wo.put (Wav w x k p) k).e,()),()):=by
 obtain⟨g1,g2,g3,g4,g5⟩:=woG hk hxe
 obtain⟨r0,r1,r2,r3,r4,r5,r6,r7,r8,r11,r12,r13,r14,r15,r16,r18,r19,r20,r21,r24,r28,r29⟩:=rtP x
 have hk8:k≤8:=by omega
 have hself:=put_self hk hxe
 have htr:=hx.tries
 have hxul:=hx.ul
 have hhl:=hold_len h.holds
 unfold Zhh Wav
 simp only[Wq]
 rw[show P5 w.e=w.roots.map Rt.e from rfl,g4,g2,Wgr (by omega),Wgr (show 0≤x.e.2.1∧x.e.2.1≤1000000 by show 0≤x.tries∧x.tries≤_;omega)]
 simp(maxSteps:=4000000) only[g3,r0,r7,r11,r16,cond_true,Wj,ret,Xc,Wma,Wn,Wbv,show w.e.2.2.1.1=w.mem.1 from rfl,ilen,show P4 w.e=w.holds from rfl]
 rw[Wry h.holds (by omega) hN]
 simp only[ret,Xc]
 have hS4:S4 (Wat w.holds ((k:Int)+1)) w.e=Wo.e {w with holds:=Wat w.holds ((k:Int)+1)}:=rfl
 have g3':S5 (Xl (w.roots.map Rt.e) (Xb (k:Int)) x.e) (S4 (Wat w.holds ((k:Int)+1)) w.e)=Wo.e {w with holds:=Wat w.holds ((k:Int)+1)}:=(woG (w:={w with holds:=Wat w.holds ((k:Int)+1)}) hk hxe).2.2.1
 rw[g3',end_run (w:={w with holds:=Wat w.holds ((k:Int)+1)}) hk hxe (by omega),idle_run hk hxe hl4 hN]
 have hrest:∀(A:Option ((Y_World×Unit)×Unit)),A=some (((Wo.put (
   if x.phase=0 then Wik w x k else
   if x.phase=1 then rRun w x k p else
   if x.phase=2 then(w,Wfa x)else
   if x.phase=3 then Wcv w x else
   if x.phase=4 then(w,Wcg w x)else
   if x.phase=5 then Wbu w x k else
   if x.phase=6 then(if x.undos.length>0 then Wjo w x else(w,{x with phase:=7}))else
   if x.phase=7 then
    (if x.fate=0 then({w with holds:=Wat w.holds ((k:Int)+1)},{tries:=x.tries+1})
     else rEnd {w with holds:=Wat w.holds ((k:Int)+1)} x k)
   else(w,x)) k).e,()),())→¬(x.doomed=true∧1≤x.phase∧x.phase≤4)→A=some (((Wo.put (
   if x.doomed=true∧1≤x.phase∧x.phase≤4 then(w,Wid x)else
   if x.phase=0 then Wik w x k else
   if x.phase=1 then rRun w x k p else
   if x.phase=2 then(w,Wfa x)else
   if x.phase=3 then Wcv w x else
   if x.phase=4 then(w,Wcg w x)else
   if x.phase=5 then Wbu w x k else
   if x.phase=6 then(if x.undos.length>0 then Wjo w x else(w,{x with phase:=7}))else
   if x.phase=7 then
    (if x.fate=0 then({w with holds:=Wat w.holds ((k:Int)+1)},{tries:=x.tries+1})
     else rEnd {w with holds:=Wat w.holds ((k:Int)+1)} x k)
   else(w,x)) k).e,()),()):=λA hA hn=>by rw[if_neg hn];exact hA
 have hmain:(if x.phase=0 then(some (((Wo.put (Wik w x k) k).e,()),()):Option ((Y_World×Unit)×Unit)).bind (λo6=>some ((o6.1.1,()),()))
   else if x.phase=1 then(Zh2 N w.e (k:Int) p).bind (λo7=>some ((o7.1.1,()),()))
   else if x.phase=2 then(Zh3 N x.e).bind (λo8=>some ((S5 (Xl (w.roots.map Rt.e) (Xb (k:Int)) o8.1.1) w.e,()),()))
   else if x.phase=3 then(Zds N x.e).bind (λo9=>if(x.undos.length:Int)>o9.2.1.2.2.2 then(Zcl N w.e (Xb (k:Int))).bind (λo10=>some ((o10.1.1,()),()))else some ((S5 (Xl (w.roots.map Rt.e) (Xb (k:Int)) (S6 0 (S5 w.mem.1 (S0 4 x.e)))) w.e,()),()))
   else if x.phase=4 then(Zgd N w.e (Xb (k:Int))).bind (λo11=>some ((o11.1.1,()),()))
   else if x.phase=5 then(Zge N w.e (k:Int)).bind (λo12=>some ((o12.1.1,()),()))
   else if x.phase=6 then(if(x.undos.length:Int)>0 then(Zcl N w.e (Xb (k:Int))).bind (λo13=>some ((o13.1.1,()),()))else some ((S5 (Xl (w.roots.map Rt.e) (Xb (k:Int)) (7,x.e.2)) w.e,()),()))
   else if x.phase=7 then(if x.fate=0 then some ((S5 (Xl (w.roots.map Rt.e) (Xb (k:Int)) ((0:Int),(x.e.2.1+1,((0:Int),((0:Int),((0:Int),((0:Int),((0:Int),((0:Int),((0:Int),((0:Int),((0:Int),(false,(([]:List Int),(([]:List (Int×Int)),(([]:List (Int×Int)),(([]:List (Int×Int×Int×Int×List Int)),(([]:List (Int×Int×Int)),(([]:List Int),(false,(((0:Int),((0:Int),((0:Int),(0:Int)))),(((0:Int),((0:Int),((0:Int),((0:Int),((0:Int),(([]:List (Int×Int)),([]:List Int))))))),d_Family)))))))))))))))))))))) (S4 (Wat w.holds ((k:Int)+1)) w.e),()),())else(some (((Wo.put (rEnd {w with holds:=Wat w.holds ((k:Int)+1)} x k) k).e,()),()):Option ((Y_World×Unit)×Unit)).bind (λo15=>some ((o15.1.1,()),())))
   else some ((w.e,()),()))=some (((Wo.put (
   if x.phase=0 then Wik w x k else
   if x.phase=1 then rRun w x k p else
   if x.phase=2 then(w,Wfa x)else
   if x.phase=3 then Wcv w x else
   if x.phase=4 then(w,Wcg w x)else
   if x.phase=5 then Wbu w x k else
   if x.phase=6 then(if x.undos.length>0 then Wjo w x else(w,{x with phase:=7}))else
   if x.phase=7 then
    (if x.fate=0 then({w with holds:=Wat w.holds ((k:Int)+1)},{tries:=x.tries+1})
     else rEnd {w with holds:=Wat w.holds ((k:Int)+1)} x k)
   else(w,x)) k).e,()),()):=by
  rw[Xj]
  by_cases h0:x.phase=0
  ·rw[if_pos h0,if_pos h0];rfl
  ·rw[if_neg h0,if_neg h0]
   by_cases h1:x.phase=1
   ·rw[if_pos h1,if_pos h1,run_run hk hxe hk8 hp (hx.live (by omega)) hx.undos h.mem h.shelf h.holds hN];rfl
   ·rw[if_neg h1,if_neg h1]
    by_cases h2:x.phase=2
    ·rw[if_pos h2,if_pos h2,fork_run hp (hx.live (by omega)) h2 hN]
     exact finW rfl rfl rfl
    ·rw[if_neg h2,if_neg h2]
     by_cases h3:x.phase=3
     ·have hl:=hx.live (by omega)
      obtain⟨z1,z2,z3,z4,z5,z6⟩:=hl.sz hp.code
      rw[if_pos h3,if_pos h3,lastj_run (hl.back (.inl h3)) (by omega)]
      simp only[Xc]
      have hlast:=(hl.mk24 hp.code (hl.back (.inl h3)))
      obtain⟨m,q,e1,e2,_,_,_,_,_,_,_,_,_,e14⟩:=hlast
      unfold Wcv
      by_cases hgt:(x.undos.length:Int)>x.last.2.2.2.1
      ·rw[if_pos hgt,if_pos hgt,Wyo hk hxe (by omega) (by omega) hx.undos h.shelf hN];rfl
      ·rw[if_neg hgt,if_neg hgt];exact finW rfl rfl rfl
     ·rw[if_neg h3,if_neg h3]
      by_cases h4:x.phase=4
      ·rw[if_pos h4,if_pos h4,extend_run hk hxe hp (hx.live (by omega)) h4 h.mem];rfl
      ·rw[if_neg h4,if_neg h4]
       by_cases h5:x.phase=5
       ·rw[if_pos h5,if_pos h5,commit_run hk hxe hk8 (hx.comm h5) h.mem hh hN];rfl
       ·rw[if_neg h5,if_neg h5]
        by_cases h6:x.phase=6
        ·rw[if_pos h6,if_pos h6]
         by_cases hz:x.undos.length>0
         ·rw[if_pos (by omega),if_pos hz,Wyo hk hxe (by omega) (by omega) hx.undos h.shelf hN];rfl
         ·rw[if_neg (by omega),if_neg hz];exact finW rfl rfl rfl
        ·rw[if_neg h6,if_neg h6]
         by_cases h7:x.phase=7
         ·rw[if_pos h7,if_pos h7]
          by_cases hf:x.fate=0
          ·rw[if_pos hf,if_pos hf,hS4]
           exact finW (w:=w) (w':={w with holds:=Wat w.holds ((k:Int)+1)}) (x':={tries:=x.tries+1}) rfl rfl rfl
          ·rw[if_neg hf,if_neg hf];rfl
         ·rw[if_neg h7,if_neg h7,hself]
 rw[Wsb]
 by_cases hd:x.doomed=true
 ·rw[if_pos hd]
  by_cases hph:1≤x.phase∧x.phase≤4
  ·rw[decide_eq_true hph.1,decide_eq_true hph.2,if_pos (show x.doomed=true∧1≤x.phase∧x.phase≤4 from⟨hd,hph⟩),Xj]
   exact finW rfl rfl rfl
  ·have hb:(decide (1≤x.phase)&&decide (x.phase≤4))=false:=by
    rw[Xck,decide_eq_false_iff_not,decide_eq_false_iff_not];omega
   rw[hb]
   exact hrest _ hmain (λhc=>hph hc.2)
 ·rw[if_neg hd]
  exact hrest _ hmain (λhc=>hd hc.1)
end
end
section
noncomputable def pgOk(p:Pg):Bool:=p.2.all Wqn&&(cdOk p.1&&(decide (p.2.length≤3)&&beq (p.1.any λo=>o.1==11) (decide (p.2.length>0))))
noncomputable def scOk(s:Sc):Bool:=thOk s.1&&(decide (s.2.1.length≤4)&&(decide (s.2.2.length≤400)&&s.2.1.all pgOk))
structure PB(p:Pg):Prop where
 code:p.1.length≤1000
 kids:p.2.length≤1000
 each:∀c∈p.2,c.length≤1000
structure SB(s:Sc):Prop where
 cells:s.1.1.length≤100
 map:s.1.2.1.length≤100
 progs:s.2.1.length≤100
 each:∀p∈s.2.1,PB p
 acts:s.2.2.length≤1000
variable{N:Nat}{s:Sc}{p:Pg}{w:Wo}{n:Int}{a:Ac}
theorem pgOk_of(h:pgOk p=true):POk p:=by
 unfold pgOk at h
 simp only[Xh,Xae,decide_eq_true_eq]at h
 exact⟨cc_of h.2.1,λc hc=>kc_of (h.1 c hc),h.2.2.1⟩
theorem Wpr(h:scOk s=true):ThOk s.1∧s.2.1.length≤4∧s.2.2.length≤400∧∀p∈s.2.1,POk p:=by
 unfold scOk at h
 simp only[Xh,Xae,decide_eq_true_eq]at h
 exact⟨thOk_iff.1 h.1,h.2.1,h.2.2.1,λp hp=>pgOk_of (h.2.2.2 p hp)⟩
theorem ilen_le{α:Type}(l:List α)(k:Nat):decide ((ilen l)≤(k:Int))=decide (l.length≤k):=by
 unfold ilen;by_cases h:l.length≤k
 ·rw[decide_eq_true h,decide_eq_true (by omega)]
 ·rw[decide_eq_false h,decide_eq_false (by omega)]
theorem Wtm{α:Type}(l:List α)(k:Nat):decide ((ilen l)>(k:Int))=decide (l.length>k):=by
 unfold ilen;by_cases h:l.length>k
 ·rw[decide_eq_true h,decide_eq_true (by omega)]
 ·rw[decide_eq_false h,decide_eq_false (by omega)]
theorem Wuk(l k:Nat):decide (l>k)= !decide (l≤k):=by
 by_cases h:l≤k
 ·rw[decide_eq_true h,decide_eq_false (by omega)];rfl
 ·rw[decide_eq_false h,decide_eq_true (by omega)];rfl
theorem implFork_run{l:List Opn}(hl:l.length≤1048576)(hN:1048576<N):Zhn N l=ret (l.any λo=>o.1==11):=by
 unfold Zhn Zba Z6
 have h1:=Wxk (l:=l) (p:=λo=>o.1==11) (N:=N) (lp:=λn j=>Zn N l (λt11=>(some ((),(t11,())))) (λt12 t13=>(some ((),((-1:Int),())))) n j) (K0:=λj=>some ((),(j,()))) (K1:=some ((),((-1:Int),()))) (by omega) (by omega)
  (λn j hj=>by
   simp only[Zn,Wbb hj,Wk hj,Wm hj,We (show j<4611686018427387904 by omega),cond_true,Znc,Xc])
  (λn=>by simp only[Zn,Wbl (Xm _),cond_false])
 rw[h1]
 have h2:=Wyw (p:=λo:Opn=>o.1==11) l 0
 cases hf:fnd (λo:Opn=>o.1==11) l 0 with
 |some r=>
  rw[hf]at h2
  simp only[Xc,decide_eq_true (show((r.1:Int)≥0) by omega),ret]
  rw[←h2];rfl
 |none=>
  rw[hf]at h2
  rw[←h2];rfl
theorem implProg_run(h:PB p)(hN:1048576<N):Zik N p=ret (pgOk p):=by
 have hc:=h.code
 have hk:=h.kids
 unfold Zik pgOk
 have h1:=Wv (l:=p.2) (V:=Unit) (R:=Unit×(Bool×Unit)) (lp:=λn j v=>Zdh N p.2 p (some ((),(false,()))) (λt11 t12=>
  ((Zc3 N p.1).bind λo13=>
 (bif o13.2.1 then
 (bif decide ((ilen p.2)≤(3:Int))then
 ((Zhn N p.1).bind λo14=>
 (some ((),(beq o14.2.1 (decide ((ilen p.2)>(0:Int))),()))))
 else
 (some ((),(false,()))))
 else
 (some ((),(false,())))))) n j) (n:=N) (by omega)
  (body:=λj x v k=>(Zhw N x).bind λo=>bif !o.2.1 then some ((),(false,()))else k v) (K:=λ_ v=>((Zc3 N p.1).bind λo13=>
 (bif o13.2.1 then
 (bif decide ((ilen p.2)≤(3:Int))then
 ((Zhn N p.1).bind λo14=>
 (some ((),(beq o14.2.1 (decide ((ilen p.2)>(0:Int))),()))))
 else
 (some ((),(false,()))))
 else
 (some ((),(false,()))))))
  (λn i v hi=>by simp only[Zdh,Wbb hi,Wk hi,Wm hi,We (show i<4611686018427387904 by omega),cond_true])
  (λn v=>by simp only[Zdh,Wbl (Xm p.2.length),cond_false]) ()
 refine h1.trans ?_
 rw[Wbs (p:=λx=>!Wqn x) (E:=λ_=>some ((),(false,()))) p.2 0 () (λj x v k hx=>by rw[implKid_run (by have:=h.each x hx;omega) hN];rfl),Wfu,Wrf (by omega) hN,implFork_run (by omega) hN]
 simp only[ret,Xc]
 rw[show(3:Int)=((3:Nat):Int)from rfl,ilen_le,show(0:Int)=((0:Nat):Int)from rfl,Wtm]
 cases p.2.all Wqn<;>cases cdOk p.1<;>cases decide (p.2.length≤3)<;>rfl
theorem specProg_run(h:PB p)(hN:1048576<N):Zhf N p=ret (pgOk p):=by
 have hc:=h.code
 have hk:=h.kids
 unfold Zhf pgOk
 have h1:=Wv (l:=p.2) (V:=Unit) (R:=Unit×(Bool×Unit)) (lp:=λn j v=>Zck N p (some ((),(false,()))) (λi10 t11=>(some ((),(true,())))) n j) (n:=N) (by omega)
  (body:=λj x v k=>(Zhv N x).bind λo=>bif !o.2.1 then some ((),(false,()))else k v) (K:=λ_ v=>some ((),(true,())))
  (λn i v hi=>by simp only[Zck,Wbb hi,Wk hi,Wm hi,We (show i<4611686018427387904 by omega),cond_true])
  (λn v=>by simp only[Zck,Wbl (Xm p.2.length),cond_false]) ()
 have h2:Zck N p (some ((),(false,()))) (λi10 t11=>(some ((),(true,())))) N 0=ret (p.2.all Wqn):=by
  refine h1.trans ?_
  rw[Wbs (p:=λx=>!Wqn x) (E:=λ_=>some ((),(false,()))) p.2 0 () (λj x v k hx=>by rw[specKid_run (by have:=h.each x hx;omega) hN];rfl),Wfu]
  cases p.2.all Wqn<;>rfl
 rw[h2,Wro (by omega) hN,Wqu (by omega) hN]
 simp only[ret,Xc]
 rw[show(3:Int)=((3:Nat):Int)from rfl,Wtm,Wuk,show(0:Int)=((0:Nat):Int)from rfl,Wtm]
 generalize beq (p.1.any λo=>o.1==11) (decide (p.2.length>0))=b
 cases p.2.all Wqn<;>cases cdOk p.1<;>cases decide (p.2.length≤3)<;>cases b<;>rfl
theorem Wvl{t:List Int×List Int×Int}(h1:t.1.length≤1048576)(h2:t.2.1.length≤1048576)(hN:1048576<N):Zg5 N t=ret (thOk t):=by
 unfold Zg5 thOk mapOk
 have e:((ilen t.2.1) !=(8:Int))= !decide (t.2.1.length=8):=by
  by_cases h:t.2.1.length=8
  ·simp[ilen,h]
  ·simp[ilen,h];omega
 have h3:=Wv (l:=t.2.1) (V:=Unit) (R:=Unit×(Bool×Unit)) (lp:=λn j v=>Zb1 N t (some ((),(false,()))) (λi10 t11=>(some ((),(true,())))) n j) (n:=N) (by omega)
  (body:=λj x v k=>bif !(decide (0≤x)&&decide (x≤65536))then some ((),(false,()))else k v) (K:=λ_ v=>some ((),(true,())))
  (λn i v hi=>by simp only[Zb1,Wbb hi,Wk hi,Wm hi,We (show i<4611686018427387904 by omega),cond_true,Who,ret,Xc])
  (λn v=>by simp only[Zb1,Wbl (Xm t.2.1.length),cond_false]) ()
 have h4:Zb1 N t (some ((),(false,()))) (λi10 t11=>(some ((),(true,())))) N 0=ret (t.2.1.all λx=>decide (0≤x)&&decide (x≤65536)):=by
  refine h3.trans ?_
  rw[Wbs (p:=λx=>!(decide (0≤x)&&decide (x≤65536))) (E:=λ_=>some ((),(false,()))) t.2.1 0 () (λj x v k _=>rfl),Wfu]
  cases t.2.1.all _<;>rfl
 rw[specVals_run h1 hN,e,Waf,h4]
 cases Wkp t.1<;>cases decide (t.2.1.length=8)<;>cases Wds t.2.2<;>cases t.2.1.all _<;>rfl
theorem Wvg(h:SB s)(hN:1048576<N):Zg6 N s=ret (scOk s):=by
 have h1:=h.cells
 have h2:=h.map
 have h3:=h.progs
 unfold Zg6 scOk
 have h4:=Wv (l:=s.2.1) (V:=Unit) (R:=Unit×(Bool×Unit)) (lp:=λn j v=>Zb2 N s (some ((),(false,()))) (λi9 t10=>(some ((),(true,())))) n j) (n:=N) (by omega)
  (body:=λj x v k=>(Zhf N x).bind λo=>bif !o.2.1 then some ((),(false,()))else k v) (K:=λ_ v=>some ((),(true,())))
  (λn i v hi=>by simp only[Zb2,Wbb hi,Wk hi,Wm hi,We (show i<4611686018427387904 by omega),cond_true])
  (λn v=>by simp only[Zb2,Wbl (Xm s.2.1.length),cond_false]) ()
 have h5:Zb2 N s (some ((),(false,()))) (λi9 t10=>(some ((),(true,())))) N 0=ret (s.2.1.all pgOk):=by
  refine h4.trans ?_
  rw[Wbs (p:=λx=>!pgOk x) (E:=λ_=>some ((),(false,()))) s.2.1 0 () (λj x v k hx=>by rw[specProg_run (h.each x hx) hN];rfl),Wfu]
  cases s.2.1.all pgOk<;>rfl
 rw[h5,Wvl (by omega) (by omega) hN]
 simp only[ret,Xc]
 rw[show(4:Int)=((4:Nat):Int)from rfl,Wtm,Wuk,show(400:Int)=((400:Nat):Int)from rfl,Wtm,Wuk]
 cases thOk s.1<;>cases decide (s.2.1.length≤4)<;>cases decide (s.2.2.length≤400)<;>rfl
theorem Wia(h:SB s)(hN:1048576<N):Ziu N s=ret (scOk s):=by
 have h1:=h.cells
 have h2:=h.map
 have h3:=h.progs
 unfold Ziu scOk Zav Zz
 have h4:=Wv (l:=s.2.1) (V:=Unit) (R:=Unit×(Int×Unit)) (lp:=λn j v=>Ze N s.2.1 (λt11=>(some ((),(t11,())))) (λt12 t13=>(some ((),((-1:Int),())))) n j) (n:=N) (by omega)
  (body:=λj x v k=>(Zja N x).bind λo=>bif o.2.1 then some ((),(j,()))else k v) (K:=λ_ v=>some ((),((-1:Int),())))
  (λn i v hi=>by simp only[Ze,Wbb hi,Wk hi,Wm hi,We (show i<4611686018427387904 by omega),cond_true])
  (λn v=>by simp only[Ze,Wbl (Xm s.2.1.length),cond_false]) ()
 have h5:((Ze N s.2.1 (λt11=>(some ((),(t11,())))) (λt12 t13=>(some ((),((-1:Int),())))) N 0).bind λo2=>some ((),(decide (o2.2.1≥(0:Int)),())))=ret (!s.2.1.all pgOk):=by
  have h6:=h4
  rw[h6,Wpp (p:=λx=>!pgOk x) (E:=λj _=>some ((),(j,()))) s.2.1 0 () (λj x v k hx=>by unfold Zja;rw[implProg_run (h.each x hx) hN];rfl)]
  have h7:=Wyw (p:=λx=>!pgOk x) s.2.1 0
  rw[Wfu]at h7
  rw[←h7]
  cases hf:fnd (λx=>!pgOk x) s.2.1 0 with
  |some r=>simp only[Xc,decide_eq_true (show((r.1:Int)≥0) by omega)];rfl
  |none=>rfl
 rw[Wvm (by omega) (by omega) hN]
 simp only[ret,Xc]
 rw[h5,show(4:Int)=((4:Nat):Int)from rfl,ilen_le,show(400:Int)=((400:Nat):Int)from rfl,ilen_le]
 cases thOk s.1<;>cases decide (s.2.1.length≤4)<;>cases decide (s.2.2.length≤400)<;>cases s.2.1.all pgOk<;>rfl
end
section
variable{N:Nat}{s:Sc}{p:Pg}{w:Wo}{n:Int}{a:Ac}{k:Nat}
theorem Wpb{ps:List Pg}(h:∀p∈ps,POk p)(hk:k<ps.length):POk (ps.getD k pg0):=by
 rw[Wc hk];exact h _ (Xt hk)
theorem WOk.tick(h:WOk s.2.1 n w):WOk s.2.1 (n+1) {w with now:=w.now+1}:=
 {h with now:=by(have:=h.now;show w.now+1=n+1;omega),n0:=by have:=h.n0;omega,hist:=by(have:=h.hist;show(w.hist.length:Int)≤n+1;omega),root:=λk hk=>(h.root k hk).wk (by omega)}
theorem WOk.putQ{q:Wo×Rt}{w0:Wo}(h:WOk s.2.1 (n+1) {w0 with now:=w0.now+1})(hh:(w0.hist.length:Int)≤n)(hk:k<w0.roots.length)(hq:QOk (s.2.1.getD k pg0) (n+1) {w0 with now:=w0.now+1} q):WOk s.2.1 (n+1) (Wo.put q k):=by
 have hr:q.1.roots=w0.roots:=hq.roots
 exact{
  len:=by show(q.1.roots.set k q.2).length=_;rw[Xad,hr];exact h.len
  l4:=h.l4
  progs:=h.progs
  now:=hq.now.trans h.now
  n0:=h.n0
  mem:=hq.mem
  shelf:=hq.shelf
  holds:=hq.holds
  histE:=λe he=>(hq.histE e he).elim (h.histE e) id
  hist:=by have:=hq.hist;show(q.1.hist.length:Int)≤n+1;(change q.1.hist.length≤w0.hist.length+1 at this);omega
  root:=λi hi=>by
   change i<(q.1.roots.set k q.2).length at hi
   rw[Xad,hr]at hi
   show ROk _ _ ((q.1.roots.set k q.2)[i])
   rw[Xaq]
   by_cases he:k=i
   ·subst he;rw[if_pos rfl];exact hq.root
   ·rw[if_neg he]
    have:=h.root i hi
    simp only[hr]
    exact this}
theorem Wgl(h:WOk s.2.1 n w):WOk s.2.1 (n+1) (wAct s w a):=by
 have ht:=h.tick
 unfold wAct
 simp only
 split
 ·rename_i hb
  have hk:a.2.1.toNat<w.roots.length:=by omega
  have hx:=ht.root a.2.1.toNat hk
  have hx0:=h.root a.2.1.toNat hk
  have hg:GOk {w with now:=w.now+1}:=⟨h.mem,h.shelf,h.holds⟩
  have hp:=Wpb h.progs (show a.2.1.toNat<s.2.1.length by rw[←h.len];exact hk)
  have hl4:w.roots.length≤4:=by rw[h.len];exact h.l4
  rw[Wc hk]
  split
  ·unfold Wzd
   rw[Wc (show a.2.1.toNat<({w with now:=w.now+1}:Wo).roots.length from hk)]
   exact ht.putQ h.hist hk (Wsf hp hg hx0 (by omega) h.n0)
  ·split
   ·split
    ·rename_i hf
     refine ht.putQ h.hist hk (hg.st ?_)
     have hl:=hx0.live (by omega)
     obtain⟨f1,f2,f3⟩:=hl.fork hf.1
     have hj:a.2.2.toNat<(s.2.1.getD a.2.1.toNat pg0).2.length:=by omega
     have hjk:a.2.2.toNat<w.roots[a.2.1.toNat].fam.kids.length:=by rw[f3.len];exact hj
     have hkc:KC ((s.2.1.getD a.2.1.toNat pg0).2.getD a.2.2.toNat []):=by rw[Wc hj];exact hp.kids _ (Xt hj)
     exact{hx with live:=λ_=>{hl.wk (show n≤n+1 by omega)with fork:=λ_=>⟨f1,f2,Wxo hjk h.mem hkc f3 rfl⟩}}
    ·exact ht
   ·split
    ·split
     ·refine ht.putQ h.hist hk (hg.st ?_)
      exact{hx with live:=λhh=>{hx.live hh with}}
     ·exact ht
    ·exact ht
 ·exact ht
theorem act_run(h:WOk s.2.1 n w)(hn:n≤99999)(hN:1048576<N):Zgl N w.e s a=some (((wAct s w a).e,()),()):=by
 have ht:=h.tick
 have hnow:=h.now
 have hn0:=h.n0
 have hl4:w.roots.length≤4:=by rw[h.len];exact h.l4
 unfold Zgl wAct
 simp only[Wq]
 rw[show P5 w.e=w.roots.map Rt.e from rfl,show w.e.1=w.now from rfl,Wgr (by omega)]
 have hlen:ilen (w.roots.map Rt.e)=(w.roots.length:Int):=by unfold ilen;simp
 rw[hlen,Wbm (by unfold I64;omega)]
 simp only[Wj,ret,Xc]
 by_cases hb:0≤a.2.1∧a.2.1<w.roots.length
 ·rw[if_pos hb,decide_eq_true hb.1,decide_eq_true (show a.2.1≤(w.roots.length:Int) -1 by omega)]
  obtain⟨k,hka⟩:∃k:Nat,a.2.1=k:=⟨a.2.1.toNat,by omega⟩
  have hk:k<w.roots.length:=by omega
  obtain⟨x,hxe⟩:∃x,w.roots[k]=x:=⟨_,rfl⟩
  have hx:=h.root k hk
  rw[hxe]at hx
  have hks:k<s.2.1.length:=by rw[←h.len];exact hk
  have hp:=Wpb h.progs hks
  obtain⟨g1,g2,g3,g4,g5⟩:=woG hk hxe
  obtain⟨r0,r1,r2,r3,r4,r5,r6,r7,r8,r11,r12,r13,r14,r15,r16,r18,r19,r20,r21,r24,r28,r29⟩:=rtP x
  have hself:∀y:Rt,(w.now+1,S4 (Xl (w.roots.map Rt.e) k y.e) w.e.2)=Wo.e (Wo.put ({w with now:=w.now+1},y) k):=λy=>by
   unfold Wo.put Wo.e;simp only[List.map_set];rfl
  have hsame:Wo.put ({w with now:=w.now+1},x) k={w with now:=w.now+1}:=by unfold Wo.put;simp only;rw[←hxe,Xbe]
  simp only[hka,Xj,Xbr,Xaa,cond_false]
  rw[g1,g4,Wc hk,hxe]
  simp only[cond_true,r0,r20,r21,hself,hsame,show w.e.2.2.1=w.mem from rfl]
  rw[Way,decide_eq_true hks]
  have hpg:Xd s.2.1 k (([]:List (Int×Int×Int×Int)),([]:List (List (Int×Int×Int×Int))))=s.2.1.getD k pg0:=rfl
  rw[hpg]
  generalize hpe:s.2.1.getD k pg0=p at*
  have hg:GOk {w with now:=w.now+1}:=⟨h.mem,h.shelf,h.holds⟩
  simp only[cond_true,Wn]
  have hst:Zhh N (Wo.e {w with now:=w.now+1}) (k:Int) p=some (((Wo.put (Wav {w with now:=w.now+1} x k p) k).e,()),()):=
   step_run (w:={w with now:=w.now+1}) hk hxe (by show w.roots.length≤8;omega) hp hg hx (by omega) (by have:=h.hist;show w.hist.length≤500000;omega) hN
  rw[hst]
  by_cases h1:a.1=1
  ·rw[if_pos h1,if_pos h1]
   unfold Wzd
   rw[Wc (show k<({w with now:=w.now+1}:Wo).roots.length from hk)]
   simp only[hxe,Xc]
  ·rw[if_neg h1,if_neg h1]
   by_cases h2:a.1=2
   ·rw[if_pos h2,if_pos h2]
    by_cases hf:x.phase=2
    ·rw[if_pos hf,Wbm (by have:=hp.k3;unfold I64 ilen;omega),show ilen p.2=(p.2.length:Int)from rfl]
     by_cases hj:0≤a.2.2∧a.2.2<p.2.length
     ·rw[decide_eq_true hj.1,decide_eq_true (show a.2.2≤(p.2.length:Int) -1 by omega),if_pos (show x.phase=2∧0≤a.2.2∧a.2.2<p.2.length from⟨hf,hj⟩)]
      obtain⟨j,hja⟩:∃j:Nat,a.2.2=j:=⟨a.2.2.toNat,by omega⟩
      have hj':j<p.2.length:=by omega
      simp only[hja,Xj,Xbr,cond_true]
      rw[Way,decide_eq_true hj']
      obtain⟨f1,f2,f3⟩:=(hx.live (by omega)).fork hf
      have hkc:KC (p.2.getD j []):=by rw[Wc hj'];exact hp.kids _ (Xt hj')
      rw[implFStep_run (code:=p.2.getD j []) (by rw[f3.len];exact hj') (by rw[f3.len];exact hp.k3) h.mem hkc f3 rfl (by omega) hN]
      simp only[Xc,cond_true]
      have:U21 (Wgo w.mem x.fam j (p.2.getD j [])).e x.e=Rt.e {x with fam:=Wgo w.mem x.fam j (p.2.getD j [])}:=rfl
      rw[this,hself]
      unfold wKid
      rfl
     ·rw[if_neg (show¬(x.phase=2∧0≤a.2.2∧a.2.2<p.2.length)fromλhc=>hj hc.2)]
      have hbb:(decide (0≤a.2.2)&&decide (a.2.2≤(p.2.length:Int) -1))=false:=by
       rw[Xck,decide_eq_false_iff_not,decide_eq_false_iff_not];omega
      rw[hbb];rfl
    ·rw[if_neg hf,if_neg (show¬(x.phase=2∧0≤a.2.2∧a.2.2<p.2.length)fromλhc=>hf hc.1)]
   ·rw[if_neg h2,if_neg h2]
    by_cases h3:a.1=3
    ·rw[if_pos h3,if_pos h3]
     have hd:S11 true x.e=Rt.e {x with doomed:=true}:=rfl
     simp only[hd,hself,show(Cm.e x.cm).2.2.1=x.cm.phase from rfl,Wbv]
     by_cases hph:1≤x.phase∧x.phase≤4
     ·rw[decide_eq_true hph.1,decide_eq_true hph.2,if_pos (show(1≤x.phase∧x.phase≤4)∨(x.phase=5∧x.cm.phase≤3)from .inl hph)];rfl
     ·have hbb:(decide (1≤x.phase)&&decide (x.phase≤4))=false:=by
       rw[Xck,decide_eq_false_iff_not,decide_eq_false_iff_not];omega
      rw[hbb]
      simp only[cond_false]
      by_cases h5:x.phase=5
      ·rw[if_pos h5]
       by_cases hc:x.cm.phase≤3
       ·rw[if_pos hc,if_pos (show(1≤x.phase∧x.phase≤4)∨(x.phase=5∧x.cm.phase≤3)from .inr ⟨h5,hc⟩)]
       ·rw[if_neg hc,if_neg (show¬((1≤x.phase∧x.phase≤4)∨(x.phase=5∧x.cm.phase≤3)) by omega)]
      ·rw[if_neg h5,if_neg (show¬((1≤x.phase∧x.phase≤4)∨(x.phase=5∧x.cm.phase≤3)) by omega)]
    ·rw[if_neg h3,if_neg h3]
 ·rw[if_neg hb]
  have hbb:(decide (0≤a.2.1)&&decide (a.2.1≤(w.roots.length:Int) -1))=false:=by
   rw[Xck,decide_eq_false_iff_not,decide_eq_false_iff_not];omega
  rw[hbb];rfl
theorem Wyl(h:scOk s=true):WOk s.2.1 0 (wNew s):=by
 obtain⟨h1,h2,h3,h4⟩:=Wpr h
 exact{
  len:=by simp[wNew]
  l4:=h2
  progs:=h4
  now:=rfl
  n0:=Xw _
  mem:=by
   show Waq (memNew s.1.1)=true
   have:=h1.cells.len
   unfold Waq memNew
   simp only[Xaf,this,decide_true,Xbp,Xh,decide_eq_true_eq,Xae]
   refine⟨by omega,λw hw=>?_⟩
   obtain⟨v,hv,rfl⟩:=Xu.1 hw
   have:=h1.cells.val v hv
   rw[Wit];unfold wd0;simp only;omega
  shelf:=⟨slFrom_ok h1.map.1 h1.map.2,h1.cnt⟩
  holds:=⟨(λh hh=>by cases hh),List.Pairwise.nil⟩
  hist:=by simp[wNew]
  histE:=λh hh=>by cases hh
  root:=λk hk=>by
   simp only[wNew,Xbq]
   exact{
    phase:=by simp
    tries:=by simp
    live:=λhh=>by simp at hh
    comm:=λhh=>by simp at hh
    undos:=λu hu=>by cases hu
    ul:=by simp
    rg:=by simp
    ord:=by simp}}
theorem acts_ok:∀(l:List Ac) (n:Int) (w:Wo),WOk s.2.1 n w→WOk s.2.1 (n+l.length) (l.foldl (wAct s) w)
 | [],n,w,h=>by simpa using h
 |a::l,n,w,h=>by
  have:=acts_ok l (n+1) _ (Wgl (a:=a) h)
  rw[Xdd,List.length_cons]
  rw[show n+((l.length+1:Nat):Int)=n+1+l.length by omega]
  exact this
theorem wPlay_ok(h:scOk s=true):WOk s.2.1 s.2.2.length (Wkc s):=by
 have:=acts_ok s.2.2 0 _ (Wyl h)
 rw[Int.zero_add]at this
 exact this
end
section
section
variable{N:Nat}{c:Cur}
theorem Wqf{b7:Int}{l8:List Int}(h8:l8.length=8):∀(n i:Nat) (c:Cur) (l:List Int),8-i<n→i≤8→Wce c→l.length=i→
  Drw (λv:(List Int×List Int×Int)×Unit=>v.1.1.length=8∧v.1.2.1.length=8) (Zcq N b7 l8 (λi20 t21 b22 l23=>(some ((b22,()),((l8,(l23,b7)),())))) n (i:Int) c l)
 |0,i,c,l,h,_,_,_=>by omega
 |n+1,i,c,l,h,hi,hc,hl=>by
  unfold Zcq
  refine .bif (λh0=>?_) λh0=>.ok hc ⟨h8,?_⟩
  ·have h0:(i:Int)<8:=of_decide_eq_true h0
   have e:iadd .i64 (i:Int) 1=((i+1:Nat):Int):=We (by omega)
   simp only[e]
   refine(Wjb 2 hc).bind λc b hc _=>.bif (λ_=>?_) λ_=>?_
   ·exact(dVal hc).bind λc v hc hv=>.bifT (Ww (by simp;omega)) (Wqf h8 n (i+1) c _ (by omega) (by omega) hc (by simp[Xah];omega))
   ·exact .bifT (Ww (by simp;omega)) (Wqf h8 n (i+1) c _ (by omega) (by omega) hc (by simp[Xah];omega))
  ·have h0:¬(i:Int)<8:=of_decide_eq_false h0
   simp only;omega
theorem dThings(hN:1048576<N)(hc:Wce c):Drw (λv:(List Int×List Int×Int)×Unit=>v.1.1.length=8∧v.1.2.1.length=8) (Zff N c):=by
 unfold Zff
 exact(dVals hN hc).bind λc v hc hv=>(dVal hc).bind λc w hc hw=>Wqf hv N 0 c [] (by omega) (by omega) hc rfl
theorem dAnyThings(hN:1048576<N)(hc:Wce c):Drw (λv:(List Int×List Int×Int)×Unit=>v.1.1.length≤100∧v.1.2.1.length≤100) (Zit N c):=by
 unfold Zit
 refine(dThings hN hc).bind λc t hc ht=>(Wbo 16 hc).bind λc v hc hv=>.bif (λ_=>?_) λ_=>.bif (λ_=>?_) λ_=>.bif (λ_=>.ok hc (by simp only;omega)) λ_=>.bif (λ_=>?_) λ_=>.bif (λ_=>?_) λ_=>.ok hc (by simp only;omega)
 ·refine .bifT (by rw[ht.1];rfl) (.ok hc ?_)
  simp only[Xan];omega
 ·refine(Wbo 8 hc).bind λc k hc hk=>?_
  have hk:=hk.2 (by decide)
  refine .bifT (by unfold inb;rw[ht.2];simp;omega) (.ok hc ?_)
  simp only[Xad];omega
 ·refine .bifT (by rw[ht.2];rfl) (.ok hc ?_)
  simp only[Xan];omega
 ·refine(Wbo 8 hc).bind λc k hc hk=>?_
  have hk:=hk.2 (by decide)
  refine .bifT (by unfold inb;rw[ht.1];simp;omega) (.ok hc ?_)
  simp only[Xad];omega
theorem PB_of{p:Pg}(h:p.1.length≤300∧p.2.length≤100∧∀x∈p.2,x.length≤200):PB p:=⟨by omega,by omega,λx hx=>by have:=h.2.2 x hx;omega⟩
theorem dAnyProg(hN:1048576<N)(hc:Wce c):Drw (λv:Pg×Unit=>PB v.1) (Zj0 N c):=by
 unfold Zj0
 refine(Wjb 2 hc).bind λc b hc _=>(dProg hN hc).bind λc p hc hp=>(Wbo 10 hc).bind λc v hc hv=>.bif (λ_=>?_) λ_=>.bif (λ_=>.bif (λh0=>?_) λ_=>.ok hc (PB_of hp)) λ_=>.bif (λ_=>?_) λ_=>.bif (λ_=>.ok hc ⟨by have:=hp.1;simp only;omega,by simp,by simp⟩) λ_=>.ok hc (PB_of hp)
 ·exact(dBend hN hc (by have:=hp.1;simp only;omega)).bind λc w hc hw=>.ok hc ⟨by simp only;omega,by have:=hp.2.1;simp only;omega,λx hx=>by have:=hp.2.2 x hx;omega⟩
 ·have h0:ilen p.1.2>0:=of_decide_eq_true h0
  refine(Wbo (ilen p.1.2) hc).bind λc k hc hk=>?_
  have hk:=hk.2 h0
  unfold ilen at hk
  have hki:inb k.1 p.1.2.length=true:=by unfold inb;simp;omega
  refine .bifT hki ((dBend hN hc ?_).bind λc w hc hw=>.bifT hki (.ok hc ⟨by have:=hp.1;simp only;omega,by have:=hp.2.1;simp only[Xad];omega,λx hx=>?_⟩))
  ·rw[Wc (show k.1.toNat<p.1.2.length by omega)]
   have:=hp.2.2 _ (Xt (show k.1.toNat<p.1.2.length by omega));omega
  ·rcases Xcu hx with hx|hx
   ·have:=hp.2.2 x hx;omega
   ·subst hx;show w.1.length≤1000;omega
 ·refine .bifT (Ww (by have:=hp.2.1;simp;omega)) (.ok hc ⟨by have:=hp.1;simp only;omega,by have:=hp.2.1;simp[Xah];omega,λx hx=>?_⟩)
  simp[Xah]at hx
  rcases hx with hx|hx
  ·have:=hp.2.2 x hx;omega
  ·subst hx;simp
theorem dActs_lp{n4 most5:Int}(hm:most5≤600):∀(n i:Nat) (who:Int) (c:Cur) (l:List Ac),1000-i<n→i≤700→Wce c→l.length=i→
  Drw (λv:List Ac×Unit=>v.1.length≤700) (Z1 N n4 most5 (λwho43 i44 t45 b46 l47=>(some ((b46,()),(l47,())))) n who (i:Int) c l)
 |0,i,who,c,l,h,_,_,_=>by omega
 |n+1,i,who,c,l,h,hi,hc,hl=>by
  unfold Z1
  refine .bif (λh0=>?_) λh0=>.ok hc (by simp only;omega)
  have h0:(i:Int)<most5:=of_decide_eq_true h0
  have e:iadd .i64 (i:Int) 1=((i+1:Nat):Int):=We (by omega)
  simp only[e]
  have hr:∀(a:Ac),room (l.length+ [a].length)=true:=λa=>Ww (by simp;omega)
  have hrec:∀(who:Int) (c:Cur) (a:Ac),Wce c→Drw (λv:List Ac×Unit=>v.1.length≤700) (Z1 N n4 most5 (λwho43 i44 t45 b46 l47=>(some ((b46,()),(l47,())))) n who ((i+1:Nat):Int) c (List.append l [a])):=λwho c a hc=>dActs_lp hm n (i+1) who c _ (by omega) (by omega) hc (by simp[Xah];omega)
  refine(Wjb 3 hc).bind λc b hc _=>.bif (λ_=>?_) λ_=>?_
  ·refine(Wbo n4 hc).bind λc k hc _=>(Wjb 2 hc).bind λc b hc _=>.bif (λ_=>?_) λ_=>?_
   ·refine(Wbo 3 hc).bind λc j hc _=>(Wjb 2 hc).bind λc b hc _=>.bif (λ_=>?_) λ_=>?_
    ·exact(Wjb 40 hc).bind λc b hc _=>.bif (λ_=>.bifT (hr _) (hrec _ _ _ hc)) λ_=>.bifT (hr _) (hrec _ _ _ hc)
    ·exact(Wjb 40 hc).bind λc b hc _=>.bif (λ_=>.bifT (hr _) (hrec _ _ _ hc)) λ_=>.bifT (hr _) (hrec _ _ _ hc)
   ·exact(Wjb 40 hc).bind λc b hc _=>.bif (λ_=>.bifT (hr _) (hrec _ _ _ hc)) λ_=>.bifT (hr _) (hrec _ _ _ hc)
  ·refine(Wjb 2 hc).bind λc b hc _=>.bif (λ_=>?_) λ_=>?_
   ·refine(Wbo 3 hc).bind λc j hc _=>(Wjb 2 hc).bind λc b hc _=>.bif (λ_=>?_) λ_=>?_
    ·exact(Wjb 40 hc).bind λc b hc _=>.bif (λ_=>.bifT (hr _) (hrec _ _ _ hc)) λ_=>.bifT (hr _) (hrec _ _ _ hc)
    ·exact(Wjb 40 hc).bind λc b hc _=>.bif (λ_=>.bifT (hr _) (hrec _ _ _ hc)) λ_=>.bifT (hr _) (hrec _ _ _ hc)
   ·exact(Wjb 40 hc).bind λc b hc _=>.bif (λ_=>.bifT (hr _) (hrec _ _ _ hc)) λ_=>.bifT (hr _) (hrec _ _ _ hc)
theorem dActs(hN:1048576<N){n4 most5:Int}(hm:most5≤600)(hc:Wce c):Drw (λv:List Ac×Unit=>v.1.length≤700) (Zgh N c n4 most5):=by
 unfold Zgh
 exact dActs_lp hm N 0 0 c [] (by omega) (by omega) hc rfl
structure SD(s:Sc):Prop where
 cells:s.1.1.length=8
 map:s.1.2.1.length=8
 progs:1≤s.2.1.length∧s.2.1.length≤10
 each:∀p∈s.2.1,PB p
 acts:s.2.2.length≤700
theorem Wwf(hN:1048576<N){n8 b12 most7:Int}{l13 l14:List Int}(hm:0≤most7∧most7≤500)(h13:l13.length=8)(h14:l14.length=8)(h8:1≤n8∧n8≤4):∀(n i:Nat) (c:Cur) (l:List Pg),10-i<n→i≤4→Wce c→l.length=i→(∀p∈l,PB p)→
  Drw (λv:Sc×Unit=>SD v.1) (Zbv N 0 most7 n8 b12 l13 l14 (λi32 t33 b34 l35=>
  ((Zb N b34 (iadd .i64 most7 (1:Int))).bind λo36=>
 ((Zgh N o36.1.1 n8 o36.2.1).bind λo37=>
 (some ((o37.1.1,()),(((l13,(l14,b12)),(l35,o37.2.1)),())))))) n (i:Int) c l)
 |0,i,c,l,h,_,_,_,_=>by omega
 |n+1,i,c,l,h,hi,hc,hl,hx=>by
  unfold Zbv
  refine .bif (λh0=>?_) λh0=>?_
  ·have h0:(i:Int)<n8:=of_decide_eq_true h0
   have e:iadd .i64 (i:Int) 1=((i+1:Nat):Int):=We (by omega)
   simp only[e,show((0:Int)==2)=false from rfl,show((0:Int)==0)=true from rfl,cond_false,cond_true]
   refine(Wjb 3 hc).bind λc b hc _=>(dProg hN hc).bind λc p hc hp=>.bifT (Ww (by simp;omega)) (Wwf hN hm h13 h14 h8 n (i+1) c _ (by omega) (by omega) hc (by simp[Xah];omega) λq hq=>?_)
   simp[Xah]at hq
   rcases hq with hq|hq
   ·exact hx q hq
   ·subst hq;exact PB_of hp
  ·have h0:¬(i:Int)<n8:=of_decide_eq_false h0
   have e:iadd .i64 most7 1=most7+1:=Wx (by unfold I64;omega)
   simp only[e]
   refine(Wbo (most7+1) hc).bind λc k hc hk=>?_
   have hk:=hk.2 (by omega)
   refine(dActs (most5:=k.1) hN (by omega) hc).bind λc a hc ha=>.ok hc ⟨h13,h14,by simp only;omega,hx,ha⟩
theorem dScript(hN:1048576<N){most:Int}(hm:0≤most∧most≤500)(hc:Wce c):Drw (λv:Sc×Unit=>SD v.1) (Zgi N c 0 most):=by
 unfold Zgi
 refine(dThings hN hc).bind λc t hc ht=>(Wbo 4 hc).bind λc k hc hk=>?_
 have hk:=hk.2 (by decide)
 have e:iadd .i64 1 k.1=1+k.1:=Wx (by unfold I64;omega)
 simp only[e]
 exact Wwf hN hm ht.1 ht.2 (by omega) N 0 c [] (by omega) (by omega) hc rfl (by simp)
theorem SD.sb{s:Sc}(h:SD s):SB s:=⟨by have:=h.cells;omega,by have:=h.map;omega,by have:=h.progs;omega,h.each,by have:=h.acts;omega⟩
theorem dAny0_lp{b7:Cur}{b9:Int}{l10 l11:List Int}{l13:List Ac}(hb:Wce b7)(h10:l10.length=8)(h11:l11.length=8)(h13:l13.length≤700):∀(n:Nat) (l:List Pg),20-l.length<n→l.length≤11→(∀p∈l,PB p)→
  Drw (λv:Sc×Unit=>SB v.1) (Zft N b7 b9 l10 l11 l13 (λt16 l17=>(some ((b7,()),(((l10,(l11,b9)),(l17,l13)),())))) n l)
 |0,l,h,_,_=>by omega
 |n+1,l,h,hl,hx=>by
  unfold Zft
  refine .bif (λh0=>?_) λh0=>.ok hb ⟨by simp only;omega,by simp only;omega,by simp only;omega,hx,by simp only;omega⟩
  have h0:ilen l<5:=of_decide_eq_true h0
  unfold ilen at h0
  refine .bifT (Ww (by simp;omega)) (dAny0_lp hb h10 h11 h13 n _ (by simp[Xah];omega) (by simp[Xah];omega) λq hq=>?_)
  simp[Xah]at hq
  rcases hq with hq|hq
  ·exact hx q hq
  ·subst hq;exact⟨by simp,by simp,by simp⟩
theorem dAny1_lp{b20:Int}{l21 l22:List Int}{l23:List Pg}(h21:l21.length=8)(h22:l22.length=8)(h23:l23.length≤11)(hx:∀p∈l23,PB p):∀(n:Nat) (c:Cur) (l:List Ac),1000-l.length<n→Wce c→l.length≤800→
  Drw (λv:Sc×Unit=>SB v.1) (Zfu N b20 l21 l22 l23 (λt31 b32 l33=>(some ((b32,()),(((l21,(l22,b20)),(l23,l33)),())))) n c l)
 |0,c,l,h,_,_=>by omega
 |n+1,c,l,h,hc,hl=>by
  unfold Zfu
  refine(Wbo 2 hc).bind λc v hc hv=>?_
  have hv:=hv.2 (by decide)
  have e:iadd .i64 400 v.1=400+v.1:=Wx (by unfold I64;omega)
  simp only[e]
  refine .bif (λh0=>?_) λh0=>.ok hc ⟨by simp only;omega,by simp only;omega,by simp only;omega,hx,by simp only;omega⟩
  have h0:ilen l<400+v.1:=of_decide_eq_true h0
  unfold ilen at h0
  exact .bifT (Ww (by simp;omega)) (dAny1_lp h21 h22 h23 hx n c _ (by simp[Xah];omega) hc (by simp[Xah];omega))
theorem dAny17(hN:1048576<N){most:Int}(hm:0≤most∧most≤500)(hc:Wce c):Drw (λv:Sc×Unit=>SB v.1) (Zij N c most):=by
 unfold Zij
 refine(dScript hN hm hc).bind λc s hc hs=>(Wbo 30 hc).bind λc v hc hv=>.bif (λ_=>?_) λ_=>.bif (λ_=>?_) λ_=>.bif (λ_=>?_) λ_=>.bif (λ_=>?_) λ_=>.bif (λ_=>?_) λ_=>.ok hc hs.sb
 ·exact(dAnyThings hN hc).bind λc t hc ht=>.ok hc ⟨ht.1,ht.2,by have:=hs.progs;simp only;omega,hs.each,by have:=hs.acts;simp only;omega⟩
 ·refine(dAnyProg hN hc).bind λc p hc hp=>.bifT (by unfold inb;have:=hs.progs;simp;omega) (.ok hc ⟨by have:=hs.cells;simp only;omega,by have:=hs.map;simp only;omega,by have:=hs.progs;simp only[Xad];omega,λq hq=>?_,by have:=hs.acts;simp only;omega⟩)
  rcases Xcu hq with hq|hq
  ·exact hs.each q hq
  ·subst hq;exact hp
 ·exact dAny0_lp hc hs.cells hs.map hs.acts N s.1.2.1 (by omega) (by have:=hs.progs;omega) hs.each
 ·exact .bifT (Ww (by have:=hs.acts;simp;omega)) (.ok hc ⟨by have:=hs.cells;simp only;omega,by have:=hs.map;simp only;omega,by have:=hs.progs;simp only;omega,hs.each,by have:=hs.acts;simp[Xah];omega⟩)
 ·exact dAny1_lp hs.cells hs.map (l23:=s.1.2.1) (by have:=hs.progs;omega) hs.each N c s.1.2.2 (by omega) hc (by have:=hs.acts;omega)
theorem size_run{code:List Int}(h:code.length≤1048576):∃v,Zm0 N code 200=ret v∧0≤v∧v≤200:=by
 unfold Zm0
 have e:iquo .i64 (ilen code) 20=((code.length/20:Nat):Int):=by
  unfold iquo ilen
  rw[Int.tdiv_eq_ediv_of_nonneg (by omega),wrapI (by unfold I64;omega)]
  omega
 rw[e,Wx (by unfold I64;omega),show inz (20:Int)=true from rfl]
 simp only[cond_true,Wbv]
 by_cases h:2+((code.length/20:Nat):Int)>200
 ·rw[if_pos h];exact⟨_,rfl,by omega,by omega⟩
 ·rw[if_neg h];exact⟨_,rfl,by omega,by omega⟩
end
end
section

end
section
def stl(x:Rt):Bool:=decide (x.phase=8)||((decide (x.phase=5)&&(decide (x.cm.phase=4)||decide (x.cm.phase=5)))||((decide (x.phase=6)||decide (x.phase=7))&&decide (x.fate≠0)))
def Wol(x:Rt):Int:=if stl x=true then(if x.phase=5 then x.cm.wv else x.stamp)else 0
theorem Wfq{x:Rt}:stl x=true↔x.phase=8∨(x.phase=5∧(x.cm.phase=4∨x.cm.phase=5))∨((x.phase=6∨x.phase=7)∧x.fate≠0):=by
 unfold stl
 simp only[Bool.or_eq_true,Xh,decide_eq_true_eq]
structure RX(x:Rt):Prop where
 doom:x.doomed=true→(1≤x.phase∧x.phase≤4)∨(x.phase=5∧x.cm.phase≤3)
 fate:x.phase=5→x.fate≠0
structure Stay(x y:Rt):Prop where
 tries:x.tries≤y.tries
 st:stl x=true→stl y=true∧Wol y=Wol x∧y.fate=x.fate∧y.regs=x.regs∧y.order=x.order
structure RG(w:Wo)(x:Rt)(q:Wo×Rt):Prop where
 doom:q.2.doomed=false
 fate:q.2.phase=5→q.2.fate≠0
 tries:q.2.tries=x.tries
 mem:q.1.mem=w.mem
 hist:q.1.hist=w.hist
section
variable{w:Wo}{x y z:Rt}{k:Nat}{p:Pg}{n:Int}{o:Opn}
theorem Stay.refl(x:Rt):Stay x x:=⟨Xw _,λh=>⟨h,rfl,rfl,rfl,rfl⟩⟩
theorem Stay.trans(h:Stay x y)(h':Stay y z):Stay x z:=
 ⟨Xet h.tries h'.tries,λhs=>by
  obtain⟨a,b,c,d,e⟩:=h.st hs
  obtain⟨a',b',c',d',e'⟩:=h'.st a
  exact⟨a',b'.trans b,c'.trans c,d'.trans d,e'.trans e⟩⟩
theorem Stay.un(h:stl x=false)(ht:x.tries≤y.tries):Stay x y:=⟨ht,λhs=>by rw[h]at hs;cases hs⟩
theorem RG.same(hd:x.doomed=false){z:Rt}(h1:z.doomed=false)(h2:z.phase≠5)(h3:z.tries=x.tries):RG w x (w,z):=⟨h1,λh=>absurd h h2,h3,rfl,rfl⟩
theorem Wng(hd:x.doomed=false):(Wad x).doomed=false∧(Wad x).phase≠5∧(Wad x).tries=x.tries:=by
 unfold Wad Wid
 split
 ·exact⟨rfl,by simp,rfl⟩
 ·exact⟨hd,by simp,rfl⟩
theorem rClose_g(hd:x.doomed=false){out:Int}(ho:out≠0):RG w x (Wcd w x k out):=by
 unfold Wcd rEnd
 simp only
 generalize (if out=2 then []else x.writes)=rows
 split
 ·exact⟨rfl,by simp,rfl,rfl,rfl⟩
 ·exact⟨hd,λ_=>ho,rfl,rfl,rfl⟩
theorem rUndo_g(hd:x.doomed=false)(h5:x.phase≠5):RG w x (Wjo w x):=⟨hd,λh=>absurd h h5,rfl,rfl,rfl⟩
theorem rRead_g(hd:x.doomed=false)(h5:x.phase≠5):(Whp w x o).doomed=false∧(Whp w x o).phase≠5∧(Whp w x o).tries=x.tries:=by
 unfold Whp
 cases Wdr x.writes o.2.2.1 with
 |some v=>exact⟨hd,h5,rfl⟩
 |none=>
  simp only
  generalize Was w.mem x.rv _=b
  split
  ·exact Wng (x:={x with busy:=true,pb:=b}) hd
  ·split
   ·exact⟨hd,h5,rfl⟩
   ·exact⟨hd,h5,rfl⟩
theorem rAbort_g(hd:x.doomed=false)(h5:x.phase≠5){code:List Opn}:RG w x (Wfc w x k code):=by
 unfold Wfc
 split
 ·exact rClose_g hd (by omega)
 ·split
  ·exact rUndo_g hd h5
  ·exact⟨hd,λh=>absurd h h5,rfl,rfl,rfl⟩
theorem rBoost_g(hd:x.doomed=false)(h5:x.phase≠5):RG w x (Wer w x k o):=by
 unfold Wer
 cases Wcs w.holds ((k:Int)+1) (Wcf o).1 (Wcf o).2 with
 |none=>
  obtain⟨a,b,c⟩:=Wng hd
  exact⟨a,λh=>absurd h b,c,rfl,rfl⟩
 |some hs=>exact⟨hd,λh=>absurd h h5,rfl,rfl,rfl⟩
theorem rRun_g(hd:x.doomed=false)(h5:x.phase≠5):RG w x (rRun w x k p):=by
 unfold rRun
 split
 ·exact rClose_g hd (by omega)
 ·simp only
  generalize opN p.1 x.pc=o
  split
  ·obtain⟨a,b,c⟩:=rRead_g (w:=w) (o:=o) hd h5
   exact⟨a,λh=>absurd h b,c,rfl,rfl⟩
  ·split
   ·exact rAbort_g hd h5
   ·split
    ·exact⟨hd,λh=>by(change (2:Int)=5 at h;omega),rfl,rfl,rfl⟩
    ·split
     ·exact rBoost_g hd h5
     ·repeat' split
      all_goals exact⟨hd,λh=>absurd h h5,rfl,rfl,rfl⟩
theorem rIdle_g(hd:x.doomed=false)(h5:x.phase≠5):RG w x (Wik w x k):=by
 unfold Wik
 repeat' split
 all_goals first|exact⟨hd,λh=>absurd h h5,rfl,rfl,rfl⟩|exact⟨rfl,λh=>by(change (1:Int)=5 at h;omega),rfl,rfl,rfl⟩
theorem rFork_g(hd:x.doomed=false)(h5:x.phase≠5):RG w x (w,Wfa x):=by
 unfold Wfa
 split
 ·exact⟨rfl,λh=>by(change (6:Int)=5 at h;omega),rfl,rfl,rfl⟩
 ·split
  ·exact⟨hd,λh=>by(change (1:Int)=5 at h;omega),rfl,rfl,rfl⟩
  ·exact⟨hd,λh=>absurd h h5,rfl,rfl,rfl⟩
theorem Wsu(hd:x.doomed=false)(h5:x.phase≠5):RG w x (Wcv w x):=by
 unfold Wcv
 split
 ·exact rUndo_g hd h5
 ·exact⟨hd,λh=>by(change (4:Int)=5 at h;omega),rfl,rfl,rfl⟩
theorem rExtend_g(hd:x.doomed=false)(h5:x.phase≠5):RG w x (w,Wcg w x):=by
 unfold Wcg
 split
 ·simp only
  split
  ·exact⟨rfl,λh=>by(change (6:Int)=5 at h;omega),rfl,rfl,rfl⟩
  ·exact⟨hd,λh=>absurd h h5,rfl,rfl,rfl⟩
 ·exact⟨hd,λh=>by(change (1:Int)=5 at h;omega),rfl,rfl,rfl⟩
theorem Wqv(m:Mm)(c:Cm):m.1≤(Waa m c).1.1:=by
 have hs:∀i w,(setW m i w).1=m.1:=λ_ _=>rfl
 unfold Waa Wko Wfh mLock tick
 simp only
 repeat' split
 all_goals first|exact Xw _|(simp only[hs];omega)|(simp only;omega)
structure RS(w:Wo)(x:Rt)(q:Wo×Rt):Prop where
 rx:RX q.2
 stay:Stay x q.2
 clock:w.mem.1≤q.1.mem.1
 hist:∃l,q.1.hist=w.hist++l
theorem RG.rs{q:Wo×Rt}(h:RG w x q)(hs:stl x=false):RS w x q:=⟨⟨(λhd=>by rw[h.doom]at hd;cases hd),h.fate⟩,Stay.un hs (by rw[h.tries];omega),by rw[h.mem];omega,[],by rw[h.hist];simp⟩
theorem advTo6(c:Cm):Wdn c 6=6:=by unfold Wdn;rw[if_neg (by omega),if_neg (by omega)]
theorem advTo5(c:Cm):Wdn c 5=5:=by unfold Wdn;rw[if_neg (by omega),if_neg (by omega)]
theorem cmNext45{c:Cm}{ph:Int}(h:ph=5∨ph=6):(Wal c ph).wv=c.wv∧((Wal c ph).phase=c.phase∨(Wal c ph).phase=ph):=by
 unfold Wal
 split
 ·refine⟨rfl,.inr ?_⟩
  show Wdn c ph=ph
  rcases h with rfl|rfl
  ·exact advTo5 c
  ·exact advTo6 c
 ·exact⟨rfl,.inl rfl⟩
theorem rCommit_s(hx:RX x)(h5:x.phase=5):RS w x (Wbu w x k):=by
 unfold Wbu
 split
 ·rename_i hd
  have h3:x.cm.phase≤3:=by rcases hx.doom hd with h|h<;>omega
  have hun:stl x=false:=by rw[Xbz,Ne,Wfq];omega
  split
  ·exact⟨⟨(λhd=>by cases hd),λh=>by(change (6:Int)=5 at h;omega)⟩,Stay.un hun (Xw _),Xw _,[],by simp⟩
  ·exact⟨⟨(λhd=>by cases hd),hx.fate⟩,Stay.un hun (Xw _),Xw _,[],by simp⟩
 ·rename_i hd
  have hd':x.doomed=false:=by simpa using hd
  have hck:=Wqv w.mem x.cm
  have hf:=hx.fate h5
  simp only
  refine⟨?_,?_,hck,?_⟩
  ·unfold Wen Wid
   simp only
   split
   ·exact⟨(λhd=>by cases hd),λh=>by(change (6:Int)=5 at h;omega)⟩
   ·split
    ·have hph:(if x.fate=2 then(6:Int)else 7)≠5:=by split<;>omega
     exact⟨(λhd=>by(change x.doomed=true at hd;rw[hd']at hd;cases hd)),λh=>absurd h hph⟩
    ·exact⟨(λhd=>by(change x.doomed=true at hd;rw[hd']at hd;cases hd)),λ_=>hf⟩
  ·have htr:(Wen {x with cm:=(Waa w.mem x.cm).2}).tries=x.tries:=by
    unfold Wen Wid;simp only;split
    ·rfl
    ·split<;>rfl
   refine⟨by rw[htr];omega,λhs=>?_⟩
   have hsx:=Wfq.1 hs
   have hst:Wol x=x.cm.wv:=by unfold Wol;rw[if_pos hs,if_pos h5]
   have key:(Waa w.mem x.cm).2.wv=x.cm.wv∧((Waa w.mem x.cm).2.phase=4∨(Waa w.mem x.cm).2.phase=5∨(Waa w.mem x.cm).2.phase=6):=by
    unfold Waa
    simp only
    have e45:=hsx
    rcases(show x.cm.phase=4∨x.cm.phase=5 by omega)with h4|h4
    ·rw[if_neg (by omega),if_neg (by omega),if_neg (by omega),if_pos h4]
     have:=cmNext45 (c:=x.cm) (ph:=5) (.inl rfl)
     exact⟨this.1,by show(Wal x.cm 5).phase=4∨(Wal x.cm 5).phase=5∨(Wal x.cm 5).phase=6;omega⟩
    ·rw[if_neg (by omega),if_neg (by omega),if_neg (by omega),if_neg (by omega),if_pos h4]
     have:=cmNext45 (c:=x.cm) (ph:=6) (.inr rfl)
     exact⟨this.1,by show(Wal x.cm 6).phase=4∨(Wal x.cm 6).phase=5∨(Wal x.cm 6).phase=6;omega⟩
   obtain⟨k1,k2⟩:=key
   rw[hst]
   generalize (Waa w.mem x.cm).2=c at*
   unfold Wen
   simp only
   rw[if_neg (by omega)]
   by_cases h6:c.phase=6
   ·rw[if_pos h6]
    have hph:(if x.fate=2 then(6:Int)else 7)=6∨(if x.fate=2 then(6:Int)else 7)=7:=by split<;>simp
    generalize (if x.fate=2 then(6:Int)else 7)=ph at*
    have hss:stl {x with stamp:=c.wv,cm:={},phase:=ph}=true:=Wfq.2 (.inr (.inr ⟨hph,hf⟩))
    refine⟨hss,?_,rfl,rfl,rfl⟩
    unfold Wol
    rw[if_pos hss,if_neg (by show¬ph=5;omega)]
    exact k1
   ·rw[if_neg h6]
    have hss:stl {x with cm:=c}=true:=Wfq.2 (.inr (.inl ⟨h5,by show c.phase=4∨c.phase=5;omega⟩))
    refine⟨hss,?_,rfl,rfl,rfl⟩
    unfold Wol
    rw[if_pos hss,if_pos h5]
    exact k1
  ·split
   ·exact⟨_,rfl⟩
   ·exact⟨[],by simp⟩
theorem rStep_s(hx:RX x)(hph:0≤x.phase∧x.phase≤8):RS w x (Wav w x k p):=by
 have hun:x.phase≤4→stl x=false:=λh=>by rw[Xbz,Ne,Wfq];omega
 unfold Wav
 by_cases hd:x.doomed=true∧1≤x.phase∧x.phase≤4
 ·rw[if_pos hd]
  exact⟨⟨(λhd=>by cases hd),λh=>by(change (6:Int)=5 at h;omega)⟩,Stay.un (hun (by omega)) (Xw _),Xw _,[],by simp⟩
 rw[if_neg hd]
 have hd':x.phase≠5→x.doomed=false:=λh5=>by
  rw[Xbz]
  intro h
  rcases hx.doom h with h1|h1
  ·exact hd ⟨h,h1⟩
  ·exact h5 h1.1
 by_cases h0:x.phase=0
 ·rw[if_pos h0];exact(rIdle_g (hd' (by omega)) (by omega)).rs (hun (by omega))
 rw[if_neg h0]
 by_cases h1:x.phase=1
 ·rw[if_pos h1];exact(rRun_g (hd' (by omega)) (by omega)).rs (hun (by omega))
 rw[if_neg h1]
 by_cases h2:x.phase=2
 ·rw[if_pos h2];exact(rFork_g (hd' (by omega)) (by omega)).rs (hun (by omega))
 rw[if_neg h2]
 by_cases h3:x.phase=3
 ·rw[if_pos h3];exact(Wsu (hd' (by omega)) (by omega)).rs (hun (by omega))
 rw[if_neg h3]
 by_cases h4:x.phase=4
 ·rw[if_pos h4];exact(rExtend_g (hd' (by omega)) (by omega)).rs (hun (by omega))
 rw[if_neg h4]
 by_cases h5:x.phase=5
 ·rw[if_pos h5];exact rCommit_s hx h5
 rw[if_neg h5]
 have hdd:=hd' h5
 by_cases h6:x.phase=6
 ·rw[if_pos h6]
  have hrx:∀ph,ph≠5→RX {x with phase:=ph}:=λph hp=>⟨(λhd=>by(change x.doomed=true at hd;rw[hdd]at hd;cases hd)),λh=>absurd h hp⟩
  by_cases hz:x.undos.length>0
  ·rw[if_pos hz]
   refine⟨⟨(λhd=>by(change x.doomed=true at hd;rw[hdd]at hd;cases hd)),λh=>absurd h h5⟩,⟨Xw _,λhs=>?_⟩,Xw _,[],by simp[Wjo]⟩
   have hss:stl (Wjo w x).2=true:=by
    have:=Wfq.1 hs
    rw[Wfq]
    show x.phase=8∨(x.phase=5∧_)∨((x.phase=6∨x.phase=7)∧x.fate≠0)
    omega
   refine⟨hss,?_,rfl,rfl,rfl⟩
   unfold Wol
   rw[if_pos hss,if_pos hs]
   rfl
  ·rw[if_neg hz]
   refine⟨hrx 7 (by omega),⟨Xw _,λhs=>?_⟩,Xw _,[],by simp⟩
   have hss:stl {x with phase:=7}=true:=by
    have:=Wfq.1 hs
    exact Wfq.2 (.inr (.inr ⟨.inr rfl,by show x.fate≠0;omega⟩))
   refine⟨hss,?_,rfl,rfl,rfl⟩
   unfold Wol
   rw[if_pos hss,if_pos hs,if_neg h5,if_neg (by show¬(7:Int)=5;omega)]
 rw[if_neg h6]
 by_cases h7:x.phase=7
 ·rw[if_pos h7]
  by_cases hf:x.fate=0
  ·rw[if_pos hf]
   have hns:stl x=false:=by rw[Xbz,Ne,Wfq];omega
   exact⟨⟨(λhd=>by cases hd),λh=>by(change (0:Int)=5 at h;omega)⟩,Stay.un hns (by show x.tries≤x.tries+1;omega),Xw _,[],by simp⟩
  ·rw[if_neg hf]
   refine⟨⟨(λhd=>by cases hd),λh=>by(change (8:Int)=5 at h;omega)⟩,⟨Xw _,λhs=>?_⟩,Xw _,[],by simp[rEnd]⟩
   have hss:stl (rEnd {w with holds:=Wat w.holds ((k:Int)+1)} x k).2=true:=Wfq.2 (.inl rfl)
   refine⟨hss,?_,rfl,rfl,rfl⟩
   unfold Wol
   rw[if_pos hss,if_pos hs,if_neg h5]
   rfl
 ·rw[if_neg h7];exact⟨hx,Stay.refl x,Xw _,[],by simp⟩
end
def WX(w:Wo):Prop:=∀(i:Nat) (h:i<w.roots.length),RX w.roots[i]
structure WStay(w v:Wo):Prop where
 len:w.roots.length=v.roots.length
 root:∀(i:Nat) (h:i<w.roots.length) (h':i<v.roots.length),Stay w.roots[i] v.roots[i]
 hist:∃l,v.hist=w.hist++l
 clock:w.mem.1≤v.mem.1
section
variable{s:Sc}{w v u:Wo}{n:Int}{a:Ac}{k:Nat}
theorem WStay.refl(w:Wo):WStay w w:=⟨rfl,λi h h'=>Stay.refl _,⟨[],by simp⟩,Xw _⟩
theorem WStay.trans(h:WStay w v)(h':WStay v u):WStay w u:=by
 obtain⟨l,hl⟩:=h.hist
 obtain⟨l',hl'⟩:=h'.hist
 exact⟨h.len.trans h'.len,λi a b=>(h.root i a (by rw[←h.len];exact a)).trans (h'.root i (by rw[←h.len];exact a) b),⟨l++l',by rw[hl',hl,List.append_assoc]⟩,Xet h.clock h'.clock⟩
theorem Wzi{q:Wo×Rt}{w0:Wo}(hx:WX w0)(hk:k<w0.roots.length)(hr:q.1.roots=w0.roots)(hq:RS w0 w0.roots[k] q):WX (Wo.put q k)∧WStay w0 (Wo.put q k):=by
 have hlen:(q.1.roots.set k q.2).length=w0.roots.length:=by rw[Xad,hr]
 refine⟨λi hi=>?_,hlen.symm,λi hi hi'=>?_,hq.hist,hq.clock⟩
 ·change i<(q.1.roots.set k q.2).length at hi
  show RX (q.1.roots.set k q.2)[i]
  rw[Xaq]
  by_cases he:k=i
  ·rw[if_pos he];exact hq.rx
  ·rw[if_neg he];simp only[hr];exact hx i (by rw[←hlen];exact hi)
 ·have hi'':i<(q.1.roots.set k q.2).length:=hi'
  show Stay _ ((q.1.roots.set k q.2)[i]'hi'')
  rw[Xaq]
  by_cases he:k=i
  ·subst he;rw[if_pos rfl];exact hq.stay
  ·rw[if_neg he];simp only[hr];exact Stay.refl _
theorem Wxe(h:WOk s.2.1 n w)(hk:k<w.roots.length):(Wav {w with now:=w.now+1} w.roots[k] k (s.2.1.getD k pg0)).1.roots=w.roots:=
 (Wsf (w:={w with now:=w.now+1}) (k:=k) (Wpb h.progs (by rw[←h.len];exact hk)) ⟨h.mem,h.shelf,h.holds⟩ (h.root k hk) (by have:=h.l4;have:=h.len;omega) h.n0).roots
theorem Woh(h:WOk s.2.1 n w)(hx:WX w):WX (wAct s w a)∧WStay w (wAct s w a):=by
 have hx1:WX {w with now:=w.now+1}:=hx
 have hs1:WStay w {w with now:=w.now+1}:=⟨rfl,λi h h'=>Stay.refl _,⟨[],by simp⟩,Xw _⟩
 unfold wAct
 simp only
 split
 ·rename_i hb
  have hk:a.2.1.toNat<w.roots.length:=by omega
  rw[Wc hk]
  have hxk:=hx _ hk
  split
  ·unfold Wzd
   rw[Wc (show a.2.1.toNat<({w with now:=w.now+1}:Wo).roots.length from hk)]
   obtain⟨c,d⟩:=Wzi (w0:={w with now:=w.now+1}) hx1 hk (Wxe h hk) (rStep_s hxk (h.root _ hk).phase)
   exact⟨c,hs1.trans d⟩
  ·split
   ·split
    ·rename_i hf
     have hph:=hf.1
     obtain⟨c,d⟩:=Wzi (w0:={w with now:=w.now+1}) (q:=({w with now:=w.now+1},{w.roots[a.2.1.toNat]with fam:=Wgo w.mem w.roots[a.2.1.toNat].fam a.2.2.toNat ((s.2.1.getD a.2.1.toNat pg0).2.getD a.2.2.toNat [])})) hx1 hk rfl
      ⟨⟨hxk.doom,hxk.fate⟩,Stay.un (by rw[Xbz,Ne,Wfq,hph];omega) (Xw _),Xw _,[],by simp⟩
     exact⟨c,hs1.trans d⟩
    ·exact⟨hx1,hs1⟩
   ·split
    ·split
     ·rename_i hf
      have hns:stl w.roots[a.2.1.toNat]=false:=by rw[Xbz,Ne,Wfq];omega
      obtain⟨c,d⟩:=Wzi (w0:={w with now:=w.now+1}) (q:=({w with now:=w.now+1},{w.roots[a.2.1.toNat]with doomed:=true})) hx1 hk rfl
       ⟨⟨λ_=>hf,hxk.fate⟩,Stay.un hns (Xw _),Xw _,[],by simp⟩
      exact⟨c,hs1.trans d⟩
     ·exact⟨hx1,hs1⟩
    ·exact⟨hx1,hs1⟩
 ·exact⟨hx1,hs1⟩
theorem acts_stay:∀(l:List Ac) (n:Int) (w:Wo),WOk s.2.1 n w→WX w→WX (l.foldl (wAct s) w)∧WStay w (l.foldl (wAct s) w)
 | [],n,w,h,hx=>⟨hx,WStay.refl w⟩
 |a::l,n,w,h,hx=>by
  obtain⟨c,d⟩:=Woh (a:=a) h hx
  obtain⟨e,f⟩:=acts_stay l (n+1) _ (Wgl (a:=a) h) c
  exact⟨e,d.trans f⟩
theorem wNew_x:WX (wNew s):=λi h=>by
 simp only[wNew,Xbq]
 exact⟨(λhd=>by cases hd),λh=>by(change (0:Int)=5 at h;omega)⟩
end
end
section

end
section
section
variable{N:Nat}{s:Sc}{p:Pg}{w:Wo}{n:Int}{a:Ac}{k:Nat}
theorem playI_lp{R:Type}{K0:Int→Bool→Int→Int→Int→Int→(List (Int×Int×Int))→(List Int)→(List (Int×Int×Int))→(List Y_Root)→(List (Int×Int×List (Int×Int)))→Option R}(hl:s.2.2.length≤1000)(hN:1048576<N):
  ∀(d j n:Nat) (m:Int) (w:Wo),j+d=s.2.2.length→d<n→WOk s.2.1 m w→m+d≤90000→
  Zbm N s.2.2 s K0 n (j:Int) w.now w.token w.mem.1 w.shelf.2 w.mem.2 w.shelf.1 w.holds (w.roots.map Rt.e) w.hist=
   (λv:Wo=>K0 (s.2.2.length:Int) false v.now v.token v.mem.1 v.shelf.2 v.mem.2 v.shelf.1 v.holds (v.roots.map Rt.e) v.hist) ((s.2.2.drop j).foldl (wAct s) w):=by
 intro d
 induction d with
 |zero=>
  intro j n m w hj hn h hm
  obtain⟨n,rfl⟩:∃n',n=n'+1:=⟨n-1,by omega⟩
  have:j=s.2.2.length:=by omega
  subst this
  simp only[Zbm,Wbl (Xm _),cond_false,Xdk,List.foldl_nil]
 |succ d ih=>
  intro j n m w hj hn h hm
  obtain⟨n,rfl⟩:∃n',n=n'+1:=⟨n-1,by omega⟩
  have hlt:j<s.2.2.length:=by omega
  have hw:(w.now,(w.token,((w.mem.1,w.mem.2),((w.shelf.1,w.shelf.2),(w.holds,(w.roots.map Rt.e,w.hist))))))=w.e:=rfl
  simp only[Zbm,Wbb hlt,Wk hlt,Wm hlt,We (show j<4611686018427387904 by omega),cond_true,hw]
  rw[act_run h (by omega) hN,Xby hlt,Xdd]
  exact ih (j+1) n (m+1) _ (by omega) (by omega) (Wgl h) (by omega)
theorem playI_run(hb:SB s)(hN:1048576<N):Zkw N s=ret (if scOk s=true then(Wkc s).e else d_World):=by
 unfold Zkw
 rw[Wia hb hN]
 simp only[ret,Xc]
 cases hs:scOk s with
 |false=>rfl
 |true=>
  obtain⟨h1,h2,h3,h4⟩:=Wpr hs
  have h0:=Wyl hs
  have hmk:=make_ok s.2.1 (by omega)
  simp only[Xaa,cond_false,if_true]
  rw[Wqp h1.map.1 h1.map.2 hN,Wvb (vals_iff.2 h1.cells) hN]
  simp only[ret,Xc,hmk,cond_true,Wpc]
  have hlp:=playI_lp (s:=s) (N:=N) (K0:=λt36 t37 b38 b39 b40 b41 l42 l43 l44 l45 l46=>(some ((),((b38,(b39,((b40,l42),((l43,b41),(l44,(l45,l46)))))),())):Option (Unit×(Y_World×Unit)))) (by have:=hb.acts;omega) hN s.2.2.length 0 N 0 (wNew s) (by omega) (by omega) h0 (by omega)
  rw[toNat_ilen]
  have hroots:((wNew s).roots.map Rt.e)=Xv s.2.1.length d_Root:=by
   unfold wNew;simp only[List.map_replicate];rfl
  rw[hroots]at hlp
  refine hlp.trans ?_
  rw[Xcc]
  rfl
end
variable{N:Nat}{s:Sc}{w:Wo}{n:Int}{a:Ac}
end
section
def lkA(c:Cm)(j:Nat):Prop:=(c.phase=1∧(j:Int)<c.pos)∨c.phase=2∨c.phase=3∨c.phase=4∨(c.phase=5∧c.pos≤j)∨(c.phase=7∧(j:Int)≤c.pos)
def lkd(c:Cm)(i:Int):Prop:=∃(j:Nat) (h:j<c.puts.length),c.puts[j].1=i∧lkA c j
def owner(m:Mm)(i:Int):Int:=(Wak m i).2.2
structure CmLk(m:Mm)(c:Cm):Prop where
 own:∀i,0≤i→i≤7→(owner m i=c.who↔lkd c i)
 ver:c.phase=3∨c.phase=4∨c.phase=5→c.wv≤m.1∧∀i,lkd c i→(Wak m i).2.1≤c.wv
section
variable{m:Mm}{c c':Cm}{i j:Int}{w:Wd}
theorem Wlx(hm:Waq m=true)(hi:0≤i∧i≤7)(hj:0≤j∧j≤7):Wak (setW m i w) j=if j=i then w else Wak m j:=by
 have h8:=(Wz hm).1
 unfold Wak setW setI getI
 simp only
 rw[Wc (show j.toNat<(m.2.set i.toNat w).length by rw[Xad];omega),Xaq]
 by_cases h:j=i
 ·subst h;rw[if_pos rfl,if_pos rfl]
 ·rw[if_neg (by omega),if_neg h,Wc (show j.toNat<m.2.length by omega)]
theorem Wkk(hp:c'.puts=c.puts)(h:∀j:Nat,j<c.puts.length→(lkA c' j↔lkA c j)):lkd c' i↔lkd c i:=by
 unfold lkd
 rw[hp]
 exact⟨λ⟨j,hj,a,b⟩=>⟨j,hj,a,(h j hj).1 b⟩,λ⟨j,hj,a,b⟩=>⟨j,hj,a,(h j hj).2 b⟩⟩
theorem puts_inj(h:CmOk c){a b:Nat}(ha:a<c.puts.length)(hb:b<c.puts.length)(e:c.puts[a].1=c.puts[b].1):a=b:=by
 have hp:=List.pairwise_iff_getElem.1 h.pup
 rcases Nat.lt_trichotomy a b with h1|h1|h1
 ·have:=hp a b ha hb h1;omega
 ·exact h1
 ·have:=hp b a hb ha h1;omega
theorem CmLk.same(h:CmLk m c)(hp:c'.puts=c.puts)(hw:c'.who=c.who)(hv:c'.wv=c.wv)(ha:∀j:Nat,j<c.puts.length→(lkA c' j↔lkA c j))(hph:c'.phase=3∨c'.phase=4∨c'.phase=5→c.phase=3∨c.phase=4∨c.phase=5):CmLk m c':=
 ⟨λi h0 h7=>by rw[hw,h.own i h0 h7,Wkk hp ha],λh3=>by
  obtain⟨a,b⟩:=h.ver (hph h3)
  rw[hv]
  exact⟨a,λi hi=>b i ((Wkk hp ha).1 hi)⟩⟩
theorem Wzc(n:Int)(j:Nat)(hn:0≤n):lkA (Wbn c n) j↔(j:Int)<n:=by
 by_cases h:n=0
 ·have:Wbn c n={c with phase:=8,pos:=0}:=by unfold Wbn;rw[if_pos h]
  rw[this];unfold lkA;simp only;omega
 ·have:Wbn c n={c with phase:=7,pos:=n-1}:=by unfold Wbn;rw[if_neg h]
  rw[this];unfold lkA;simp only
  constructor
  ·intro hz;omega
  ·intro hz;right;right;right;right;right;exact⟨trivial,by omega⟩
theorem Wfz(c:Cm)(ph:Int):(Wal c ph).puts=c.puts∧(Wal c ph).who=c.who∧(Wal c ph).wv=c.wv:=by
 unfold Wal Wif;split<;>exact⟨rfl,rfl,rfl⟩
theorem Wgd(c:Cm)(n:Int):(Wbn c n).puts=c.puts∧(Wbn c n).who=c.who∧(Wbn c n).wv=c.wv:=by
 unfold Wbn;split<;>exact⟨rfl,rfl,rfl⟩
theorem back_ph(c:Cm)(n:Int):(Wbn c n).phase=7∨(Wbn c n).phase=8:=by unfold Wbn;split<;>simp
theorem Wwx(m:Mm)(c:Cm):(Waa m c).2.who=c.who:=by
 unfold Waa
 simp only
 have h1:=λph=>(Wfz c ph).2.1
 have h2:=λn=>(Wgd c n).2.1
 repeat' split
 all_goals first|exact h1 _|exact h2 _|rfl
theorem cmStep_cl(h:CmOk c)(hm:Waq m=true)(hc:CmLk m c):CmLk (Waa m c).1 (Waa m c).2:=by
 have hps:=h.pos
 have hst:c.phase=1∨c.phase=4∨c.phase=5∨c.phase=7→c.steps=c.puts.length:=λhp=>by unfold Cm.steps;rw[if_pos hp]
 have hw:=h.who
 have hback:∀n:Int,0≤n→(∀j:Nat,j<c.puts.length→((j:Int)<n↔lkA c j))→CmLk m (Wbn c n):=λn h0 hn=>by
  obtain⟨p1,p2,p3⟩:=Wgd c n
  refine hc.same p1 p2 p3 (λj hj=>by rw[Wzc n j h0];exact hn j hj) λh3=>?_
  rcases back_ph c n with h|h<;>omega
 unfold Waa
 simp only
 by_cases h1:c.phase=1
 ·rw[if_pos h1]
  obtain⟨j,hj,e1,e2,e3,e4⟩:=h.put (by omega)
  have hs:=hst (by omega)
  rw[e2]
  by_cases ho:(Wak m c.puts[j].1).2.2=0
  ·rw[if_pos ho]
   obtain⟨p1,p2,p3⟩:=Wfz c 2
   have hph:∀l:Nat,l<c.puts.length→(lkA (Wal c 2) l↔lkA c l∨l=j):=λl hl=>by
    unfold Wal
    by_cases hlast:c.pos+1=c.steps
    ·rw[if_pos hlast]
     have:(Wif c 2).phase=2:=by show Wdn c 2=2;unfold Wdn;rw[if_neg (by omega),if_neg (by omega)]
     unfold lkA;rw[this];omega
    ·rw[if_neg hlast]
     unfold lkA;simp only;omega
   refine⟨λi h0 h7=>?_,λh3=>?_⟩
   ·rw[p2]
    have hcl:=hc.own i h0 h7
    unfold owner mLock at*
    rw[Wlx hm e3 ⟨h0,h7⟩]
    by_cases hi:i=c.puts[j].1
    ·rw[if_pos hi]
     refine⟨λ_=>⟨j,by rw[p1];exact hj,by simp only[p1];exact hi.symm,(hph j hj).2 (.inr rfl)⟩,λ_=>rfl⟩
    ·rw[if_neg hi,hcl]
     refine⟨λ⟨l,hl,a,b⟩=>⟨l,by rw[p1];exact hl,by simp only[p1];exact a,(hph l hl).2 (.inl b)⟩,λ⟨l,hl,a,b⟩=>?_⟩
     simp only[p1]at hl a
     rcases(hph l hl).1 b with b|b
     ·exact⟨l,hl,a,b⟩
     ·subst b;exact absurd a.symm hi
   ·exfalso
    have hp12:(Wal c 2).phase=1∨(Wal c 2).phase=2:=by
     unfold Wal
     split
     ·right;show Wdn c 2=2;unfold Wdn;rw[if_neg (by omega),if_neg (by omega)]
     ·left;exact h1
    change (Wal c 2).phase=3∨(Wal c 2).phase=4∨(Wal c 2).phase=5 at h3
    omega
  ·rw[if_neg ho]
   exact hback _ (by omega) λl hl=>by unfold lkA;omega
 rw[if_neg h1]
 by_cases h2:c.phase=2
 ·rw[if_pos h2]
  have ht:=tick_ok hm
  by_cases hz:(tick m).2=0
  ·rw[if_pos hz,ht.2.2.2.2 hz]
   exact hback _ (by omega) λl hl=>by unfold lkA;omega
  ·rw[if_neg hz]
   obtain⟨t1,t2⟩:=ht.2.2.2.1 hz
   have hcell:∀i,Wak (tick m).1 i=Wak m i:=λi=>by rw[t2];rfl
   have hph:∀l:Nat,l<c.puts.length→(lkA (Wif {c with wv:=(tick m).2} 3) l↔lkA c l):=λl hl=>by
    have hpl:c.puts.length≠0:=by omega
    change l<c.puts.length at hl
    have:(Wif {c with wv:=(tick m).2} 3).phase=3∨(Wif {c with wv:=(tick m).2} 3).phase=4:=by
     show Wdn {c with wv:=(tick m).2} 3=3∨Wdn {c with wv:=(tick m).2} 3=4
     unfold Wdn
     rw[if_neg (λhz=>hpl hz.2)]
     split<;>simp
    unfold lkA;omega
   refine⟨λi h0 h7=>?_,λh3=>⟨by show(tick m).2≤(tick m).1.1;rw[t2];simp only;omega,λi hi=>?_⟩⟩
   ·unfold owner
    rw[hcell]
    exact(hc.own i h0 h7).trans (Wkk (c':=Wif {c with wv:=(tick m).2} 3) (c:=c) rfl hph).symm
   ·rw[hcell]
    obtain⟨l,hl,a,b⟩:=hi
    change l<c.puts.length at hl
    change c.puts[l].1=i at a
    have hr:=h.rows _ (Xt hl)
    have hcl:=Wit.1 (Wlo hm hr.1)
    rw[←a]
    show(Wak m c.puts[l].1).2.1≤(tick m).2
    omega
 rw[if_neg h2]
 by_cases h3:c.phase=3
 ·rw[if_pos h3]
  split
  ·exact hback _ (by omega) λl hl=>by unfold lkA;omega
  ·obtain⟨p1,p2,p3⟩:=Wfz c 4
   refine hc.same p1 p2 p3 (λl hl=>?_) λ_=>.inl h3
   unfold Wal
   split
   ·have:(Wif c 4).phase=4:=by show Wdn c 4=4;unfold Wdn;rw[if_neg (λhz=>by have:=hz.2;omega),if_neg (by omega)]
    show lkA (Wif c 4) l↔lkA c l
    unfold lkA;omega
   ·unfold lkA;simp only;omega
 rw[if_neg h3]
 by_cases h4:c.phase=4
 ·rw[if_pos h4]
  obtain⟨j,hj,e1,e2,e3,e4⟩:=h.put (by omega)
  have hs:=hst (by omega)
  rw[e2]
  obtain⟨p1,p2,p3⟩:=Wfz c 5
  have hcell:∀i,0≤i→i≤7→(Wak (Wko m c.puts[j].1 c.who c.puts[j].2) i).2=(Wak m i).2:=λi h0 h7=>by
   unfold Wko
   split
   ·rw[Wlx hm e3 ⟨h0,h7⟩]
    split
    ·rename_i hi;rw[hi]
    ·rfl
   ·rfl
  have hph:∀l:Nat,l<c.puts.length→(lkA (Wal c 5) l↔lkA c l):=λl hl=>by
   unfold Wal
   split
   ·have:(Wif c 5).phase=5∧(Wif c 5).pos=0:=⟨advTo5 c,rfl⟩
    unfold lkA;omega
   ·unfold lkA;simp only;omega
  refine⟨λi h0 h7=>?_,λ_=>?_⟩
  ·unfold owner
   rw[hcell i h0 h7,p2,Wkk p1 hph]
   exact hc.own i h0 h7
  ·obtain⟨v1,v2⟩:=hc.ver (.inr (.inl h4))
   rw[p3]
   refine⟨by unfold Wko;split<;>exact v1,λi hi=>?_⟩
   have hi':=(Wkk p1 hph).1 hi
   obtain⟨l,hl,a,b⟩:=hi'
   have hr:=h.rows _ (Xt hl)
   rw[hcell i (by omega) (by omega)]
   exact v2 i ⟨l,hl,a,b⟩
 rw[if_neg h4]
 have hunl:∀(ver:Int) (j:Nat) (hj:j<c.puts.length),0≤c.puts[j].1∧c.puts[j].1≤7→lkA c j→(Wak m c.puts[j].1).2.1≤ver→ver≤m.1→Wfh m c.puts[j].1 c.who ver=setW m c.puts[j].1 ((Wak m c.puts[j].1).1,ver,0):=λver j hj h07 hl hv1 hv2=>by
  have ho:=(hc.own c.puts[j].1 h07.1 h07.2).2 ⟨j,hj,rfl,hl⟩
  unfold owner at ho
  unfold Wfh
  rw[if_pos ⟨ho,hv1,hv2⟩]
 have hrem:∀(ver:Int) (c':Cm) (j:Nat) (hj:j<c.puts.length),0≤c.puts[j].1∧c.puts[j].1≤7→c'.puts=c.puts→c'.who=c.who→c'.wv=c.wv→(∀l:Nat,l<c.puts.length→(lkA c' l↔lkA c l∧l≠j))→(c'.phase=3∨c'.phase=4∨c'.phase=5→c.phase=3∨c.phase=4∨c.phase=5)→CmLk (setW m c.puts[j].1 ((Wak m c.puts[j].1).1,ver,0)) c':=λver c' j hj h07 p1 p2 p3 hph h345=>by
  have hlk:∀i,lkd c' i↔lkd c i∧i≠c.puts[j].1:=λi=>by
   unfold lkd
   rw[p1]
   refine⟨λ⟨l,hl,a,b⟩=>?_,λ⟨⟨l,hl,a,b⟩,hne⟩=>?_⟩
   ·have:=(hph l hl).1 b
    exact⟨⟨l,hl,a,this.1⟩,λhe=>this.2 (puts_inj h hl hj (a.trans he))⟩
   ·exact⟨l,hl,a,(hph l hl).2 ⟨b,λhe=>hne (by subst he;exact a.symm)⟩⟩
  refine⟨λi h0 h7=>?_,λh3=>?_⟩
  ·unfold owner
   rw[Wlx hm h07 ⟨h0,h7⟩,p2,hlk]
   by_cases hi:i=c.puts[j].1
   ·rw[if_pos hi]
    exact⟨λhz=>by(change (0:Int)=c.who at hz;omega),λhz=>absurd hi hz.2⟩
   ·rw[if_neg hi]
    exact⟨λhz=>⟨(hc.own i h0 h7).1 hz,hi⟩,λhz=>(hc.own i h0 h7).2 hz.1⟩
  ·obtain⟨v1,v2⟩:=hc.ver (h345 h3)
   rw[p3]
   refine⟨v1,λi hi=>?_⟩
   have hi':=(hlk i).1 hi
   obtain⟨⟨l,hl,a,b⟩,hne⟩:=hi'
   have hr:=h.rows _ (Xt hl)
   rw[Wlx hm h07 (by rw[←a];exact hr.1),if_neg hne]
   exact v2 i ⟨l,hl,a,b⟩
 by_cases h5:c.phase=5
 ·rw[if_pos h5]
  obtain⟨j,hj,e1,e2,e3,e4⟩:=h.put (by omega)
  have hs:=hst (by omega)
  rw[e2]
  obtain⟨v1,v2⟩:=hc.ver (.inr (.inr h5))
  have hlj:lkA c j:=by unfold lkA;omega
  rw[hunl c.wv j hj e3 hlj (v2 _ ⟨j,hj,rfl,hlj⟩) v1]
  obtain⟨p1,p2,p3⟩:=Wfz c 6
  refine hrem c.wv (Wal c 6) j hj e3 p1 p2 p3 (λl hl=>?_) λ_=>.inr (.inr h5)
  unfold Wal
  split
  ·have:(Wif c 6).phase=6:=advTo6 c
   unfold lkA;omega
  ·unfold lkA;simp only;omega
 rw[if_neg h5]
 by_cases h7:c.phase=7
 ·rw[if_pos h7]
  obtain⟨j,hj,e1,e2,e3,e4⟩:=h.put (by omega)
  have hs:=hst (by omega)
  rw[e2]
  have hlj:lkA c j:=by unfold lkA;omega
  have hcl:=Wit.1 (Wlo hm e3)
  rw[hunl _ j hj e3 hlj (Xw _) hcl.2.1.2]
  obtain⟨p1,p2,p3⟩:=Wgd c c.pos
  refine hrem _ (Wbn c c.pos) j hj e3 p1 p2 p3 (λl hl=>?_) λh3=>?_
  ·rw[Wzc _ _ (by omega)];unfold lkA;omega
  ·rcases back_ph c c.pos with h|h<;>omega
 ·rw[if_neg h7];exact hc
theorem cmBreak_cl(h:CmOk c)(hc:CmLk m c):CmLk m (Wbt c):=by
 have hps:=h.pos
 have hback:∀n:Int,0≤n→(∀j:Nat,j<c.puts.length→((j:Int)<n↔lkA c j))→CmLk m (Wbn c n):=λn h0 hn=>by
  obtain⟨p1,p2,p3⟩:=Wgd c n
  refine hc.same p1 p2 p3 (λj hj=>by rw[Wzc n j h0];exact hn j hj) λh3=>?_
  rcases back_ph c n with h|h<;>omega
 unfold Wbt
 split
 ·exact hback _ (by omega) λl hl=>by unfold lkA;omega
 ·split
  ·exact hback _ (by omega) λl hl=>by unfold lkA;omega
  ·exact hc
theorem cmBreak_who(c:Cm):(Wbt c).who=c.who:=by
 have h2:=λn=>(Wgd c n).2.1
 unfold Wbt
 repeat' split
 all_goals first|exact h2 _|rfl
theorem Wwk(h:CmOk c)(hm:Waq m=true){who:Int}(h1:who≠c.who)(h0:who≠0)(hi:0≤i∧i≤7):(owner (Waa m c).1 i=who↔owner m i=who)∧(owner m i=who→Wak (Waa m c).1 i=Wak m i):=by
 have hsame:(owner m i=who↔owner m i=who)∧(owner m i=who→Wak m i=Wak m i):=⟨Iff.rfl,λ_=>rfl⟩
 have hset:∀(a:Int) (wd:Wd),0≤a∧a≤7→(Wak m a).2.2≠who→wd.2.2≠who→(owner (setW m a wd) i=who↔owner m i=who)∧(owner m i=who→Wak (setW m a wd) i=Wak m i):=λa wd ha hne hw=>by
  unfold owner
  rw[Wlx hm ha hi]
  by_cases hia:i=a
  ·subst hia
   rw[if_pos rfl]
   exact⟨⟨λhz=>absurd hz hw,λhz=>absurd hz hne⟩,λhz=>absurd hz hne⟩
  ·rw[if_neg hia];exact⟨Iff.rfl,λ_=>rfl⟩
 unfold Waa
 simp only
 by_cases p1:c.phase=1
 ·rw[if_pos p1]
  obtain⟨j,hj,e1,e2,e3,e4⟩:=h.put (by omega)
  rw[e2]
  by_cases ho:(Wak m c.puts[j].1).2.2=0
  ·rw[if_pos ho]
   exact hset _ _ e3 (by omega) (by show c.who≠who;omega)
  ·rw[if_neg ho];exact hsame
 rw[if_neg p1]
 by_cases p2:c.phase=2
 ·rw[if_pos p2]
  have ht:=tick_ok hm
  by_cases hz:(tick m).2=0
  ·rw[if_pos hz];simp only;rw[ht.2.2.2.2 hz];exact hsame
  ·rw[if_neg hz];simp only;rw[(ht.2.2.2.1 hz).2];exact hsame
 rw[if_neg p2]
 by_cases p3:c.phase=3
 ·rw[if_pos p3];split<;>exact hsame
 rw[if_neg p3]
 by_cases p4:c.phase=4
 ·rw[if_pos p4]
  obtain⟨j,hj,e1,e2,e3,e4⟩:=h.put (by omega)
  rw[e2]
  unfold Wko
  split
  ·rename_i ho
   exact hset _ _ e3 (by omega) (by show(Wak m c.puts[j].1).2.2≠who;omega)
  ·exact hsame
 rw[if_neg p4]
 by_cases p5:c.phase=5
 ·rw[if_pos p5]
  obtain⟨j,hj,e1,e2,e3,e4⟩:=h.put (by omega)
  rw[e2]
  unfold Wfh
  split
  ·rename_i ho
   exact hset _ _ e3 (by omega) (by show(0:Int)≠who;omega)
  ·exact hsame
 rw[if_neg p5]
 by_cases p7:c.phase=7
 ·rw[if_pos p7]
  obtain⟨j,hj,e1,e2,e3,e4⟩:=h.put (by omega)
  rw[e2]
  unfold Wfh
  split
  ·rename_i ho
   exact hset _ _ e3 (by omega) (by show(0:Int)≠who;omega)
  ·exact hsame
 ·rw[if_neg p7];exact hsame
end
end
section
structure LB(w:Wo)(k:Nat)(x:Rt):Prop where
 cm:x.phase=5→x.cm.who=(k:Int)+1∧CmLk w.mem x.cm
 no:x.phase≠5→∀i,0≤i→i≤7→owner w.mem i≠(k:Int)+1
 hd:∀h∈w.holds,h.1=(k:Int)+1→x.phase≠0∧x.phase≠8
 tk:w.token=(k:Int)+1→x.tries≥3∧x.phase≠8
structure LQ(w:Wo)(k:Nat)(q:Wo×Rt):Prop where
 b:LB q.1 k q.2
 oth:∀who,who≠(k:Int)+1→who≠0→∀i,0≤i→i≤7→(owner q.1.mem i=who↔owner w.mem i=who)∧(owner w.mem i=who→Wak q.1.mem i=Wak w.mem i)
 clk:w.mem.1≤q.1.mem.1
 hdo:∀h∈q.1.holds,h.1≠(k:Int)+1→∃h'∈w.holds,h'.1=h.1
 tko:q.1.token≠0→q.1.token≠(k:Int)+1→q.1.token=w.token
section
variable{w:Wo}{x:Rt}{k:Nat}{p:Pg}{q:Wo×Rt}{o:Opn}{n:Int}
theorem LQ.of(hm:q.1.mem=w.mem)(hh:q.1.holds=w.holds)(ht:q.1.token=w.token)(hb:LB q.1 k q.2):LQ w k q:=
 ⟨hb,λwho h1 h0 i a b=>by rw[hm];exact⟨Iff.rfl,λ_=>rfl⟩,by rw[hm];omega,λh hh' _=>⟨h,by rw[←hh];exact hh',rfl⟩,λ_ _=>ht⟩
theorem LQ.keep(hb:LB w k x)(hm:q.1.mem=w.mem)(hh:q.1.holds=w.holds)(ht:q.1.token=w.token)(h5:x.phase≠5)(hp:q.2.phase≠0∧q.2.phase≠5∧q.2.phase≠8)(htr:q.2.tries=x.tries):LQ w k q:=
 LQ.of hm hh ht ⟨λh=>absurd h hp.2.1,λ_=>by rw[hm];exact hb.no h5,λh hh' hk=>⟨hp.1,hp.2.2⟩,λh=>by rw[ht]at h;rw[htr];exact⟨(hb.tk h).1,hp.2.2⟩⟩
theorem Wjk:(Wad x).phase≠0∧(Wad x).phase≠5∧(Wad x).phase≠8:=by
 unfold Wad Wid
 split<;>simp
theorem rRead_k(h1:x.phase=1):(Whp w x o).phase≠0∧(Whp w x o).phase≠5∧(Whp w x o).phase≠8:=by
 unfold Whp
 cases Wdr x.writes o.2.2.1 with
 |some v=>simp only;omega
 |none=>
  simp only
  generalize Was w.mem x.rv _=b
  split
  ·exact Wjk
  ·split<;>(simp only;omega)
theorem holdsBy_nil{l:List Hd}{who:Int}(h:(Wnb l who).length=0):∀e∈l,e.1≠who:=λe he hw=>by
 have:e.2.1∈Wnb l who:=Xu.2 ⟨e,Xas.2 ⟨he,by simpa using hw⟩,rfl⟩
 rw[Xy h]at this
 cases this
theorem rEnd_q(hno:∀i,0≤i→i≤7→owner w.mem i≠(k:Int)+1)(hh:∀e∈w.holds,e.1≠(k:Int)+1):LQ w k (rEnd w x k):=by
 unfold rEnd
 refine⟨⟨λh=>by(change (8:Int)=5 at h;omega),λ_=>hno,λh hh' hk=>absurd hk (hh h hh'),λh=>?_⟩,λwho h1 h0 i a b=>⟨Iff.rfl,λ_=>rfl⟩,Xw _,λh hh' _=>⟨h,hh',rfl⟩,λh0 h1=>?_⟩
 ·change (if w.token=(k:Int)+1 then 0 else w.token)=(k:Int)+1 at h
  split at h<;>omega
 ·change (if w.token=(k:Int)+1 then 0 else w.token)≠0 at h0
  show(if w.token=(k:Int)+1 then 0 else w.token)=w.token
  split
  ·rename_i hc;rw[if_pos hc]at h0;exact absurd rfl h0
  ·rfl
theorem rClose_q(hb:LB w k x)(h1:x.phase=1){out:Int}:LQ w k (Wcd w x k out):=by
 have hno:=hb.no (by omega)
 unfold Wcd
 simp only
 generalize hr:(if out=2 then []else x.writes)=rows
 split
 ·rename_i hc
  exact rEnd_q hno (holdsBy_nil hc.2)
 ·refine LQ.of rfl rfl rfl ⟨λ_=>⟨rfl,?_⟩,λh=>absurd rfl h,λh hh hk=>by(show(5:Int)≠0∧(5:Int)≠8;omega),λh=>⟨(hb.tk h).1,by show(5:Int)≠8;omega⟩⟩
  have hno2:∀i,¬lkd (Wdm ((k:Int)+1) x.rv rows x.reads) i:=λi ⟨j,hj,a,b⟩=>by
   change j<(netR rows).length at hj
   have hph:(Wdm ((k:Int)+1) x.rv rows x.reads).phase=1:=by show(if(netR rows).length=0 then(2:Int)else 1)=1;rw[if_neg (by omega)]
   have hps:(Wdm ((k:Int)+1) x.rv rows x.reads).pos=0:=rfl
   unfold lkA at b
   omega
  refine⟨λi h0 h7=>⟨λh=>absurd h (hno i h0 h7),λh=>absurd h (hno2 i)⟩,λh3=>?_⟩
  have hph:(Wdm ((k:Int)+1) x.rv rows x.reads).phase=1∨(Wdm ((k:Int)+1) x.rv rows x.reads).phase=2:=by
   show(if(netR rows).length=0 then(2:Int)else 1)=1∨(if(netR rows).length=0 then(2:Int)else 1)=2
   split<;>simp
  exfalso
  change (Wdm ((k:Int)+1) x.rv rows x.reads).phase=3∨(Wdm ((k:Int)+1) x.rv rows x.reads).phase=4∨(Wdm ((k:Int)+1) x.rv rows x.reads).phase=5 at h3
  omega
theorem rAbort_q(hb:LB w k x)(h1:x.phase=1){code:List Opn}:LQ w k (Wfc w x k code):=by
 unfold Wfc
 split
 ·exact rClose_q hb h1
 ·split
  ·exact LQ.keep hb rfl rfl rfl (by omega) (by unfold Wjo;simp only;omega) rfl
  ·exact LQ.keep hb rfl rfl rfl (by omega) (by simp only;omega) rfl
theorem rBoost_q(hd:x.doomed=false)(hb:LB w k x)(h1:x.phase=1)(hH:HOk w.holds):LQ w k (Wer w x k o):=by
 unfold Wer
 cases ha:Wcs w.holds ((k:Int)+1) (Wcf o).1 (Wcf o).2 with
 |none=>exact LQ.keep hb rfl rfl rfl (by omega) Wjk (Wng hd).2.2
 |some hs=>
  have hmem:∀e∈hs,e.1≠(k:Int)+1→e∈w.holds:=λe he hne=>by
   unfold Wcs at ha
   split at ha
   ·injection ha with ha
    subst ha
    unfold Wqa at he
    rcases(Wes linH hH.ris).1 he with rfl|he
    ·exact absurd rfl hne
    ·exact he.1
   ·cases ha
  exact⟨⟨λh=>by(change x.phase=5 at h;omega),λ_=>hb.no (by omega),λh hh hk=>by(show x.phase≠0∧x.phase≠8;omega),λh=>⟨(hb.tk h).1,by show x.phase≠8;omega⟩⟩,
   λwho h1 h0 i a b=>⟨Iff.rfl,λ_=>rfl⟩,Xw _,λh hh hne=>⟨h,hmem h hh hne,rfl⟩,λ_ _=>rfl⟩
theorem rRun_q(hd:x.doomed=false)(hb:LB w k x)(h1:x.phase=1)(hH:HOk w.holds):LQ w k (rRun w x k p):=by
 unfold rRun
 split
 ·exact rClose_q hb h1
 ·simp only
  generalize opN p.1 x.pc=o
  split
  ·exact LQ.keep hb rfl rfl rfl (by omega) (rRead_k h1) (rRead_g hd (by omega)).2.2
  ·split
   ·exact rAbort_q hb h1
   ·split
    ·exact LQ.keep hb rfl rfl rfl (by omega) (by simp only;omega) rfl
    ·split
     ·exact rBoost_q hd hb h1 hH
     ·repeat' split
      all_goals exact LQ.keep hb rfl rfl rfl (by omega) (by simp only;omega) rfl
theorem rIdle_q(hb:LB w k x)(h0:x.phase=0):LQ w k (Wik w x k):=by
 unfold Wik
 split
 ·exact LQ.of rfl rfl rfl hb
 ·split
  ·rename_i hc
   exact⟨⟨hb.cm,hb.no,hb.hd,λ_=>⟨hc.1,by show x.phase≠8;omega⟩⟩,λwho h1 h0 i a b=>⟨Iff.rfl,λ_=>rfl⟩,Xw _,λh hh _=>⟨h,hh,rfl⟩,λ_ hne=>absurd rfl hne⟩
  ·split
   ·exact LQ.of rfl rfl rfl hb
   ·exact LQ.keep hb rfl rfl rfl (by omega) (by simp only;omega) rfl
theorem rCommit_q(hb:LB w k x)(h5:x.phase=5)(hc:CmOk x.cm)(hm:Waq w.mem=true):LQ w k (Wbu w x k):=by
 obtain⟨hw,hcl⟩:=hb.cm h5
 have hnolk:∀c:Cm,c.phase=6∨c.phase=8→∀i,¬lkd c i:=λc hph i ⟨j,hj,a,b⟩=>by unfold lkA at b;omega
 unfold Wbu
 split
 ·have hbr:=cmBreak_cl hc hcl
  have hbw:=cmBreak_who x.cm
  split
  ·rename_i h8
   refine LQ.of rfl rfl rfl ⟨λh=>by(change (6:Int)=5 at h;omega),λ_ i a b=>?_,λh hh hk=>by(show(6:Int)≠0∧(6:Int)≠8;omega),λh=>⟨(hb.tk h).1,by show(6:Int)≠8;omega⟩⟩
   intro ho
   exact hnolk _ (.inr h8) i ((hbr.own i a b).1 (by rw[hbw,hw];exact ho))
  ·exact LQ.of rfl rfl rfl ⟨λ_=>⟨by show(Wbt x.cm).who=_;rw[hbw,hw],hbr⟩,λh=>absurd h5 h,hb.hd,hb.tk⟩
 ·have hs:=cmStep_cl hc hm hcl
  have hsw:=Wwx w.mem x.cm
  have hso:=λwho (a:who≠(k:Int)+1) (b:who≠0) (i:Int) (c:0≤i) (d:i≤7)=>Wwk (i:=i) hc hm (who:=who) (by rw[hw];exact a) b ⟨c,d⟩
  have hck:=Wqv w.mem x.cm
  simp only
  refine⟨?_,hso,hck,λh hh _=>⟨h,hh,rfl⟩,λ_ _=>rfl⟩
  have hno:(Waa w.mem x.cm).2.phase=6∨(Waa w.mem x.cm).2.phase=8→∀i,0≤i→i≤7→owner (Waa w.mem x.cm).1 i≠(k:Int)+1:=λhph i a b ho=>hnolk _ hph i ((hs.own i a b).1 (by rw[hsw,hw];exact ho))
  generalize (Waa w.mem x.cm).1=m' at*
  generalize (Waa w.mem x.cm).2=c' at*
  unfold Wen
  simp only
  by_cases h8:c'.phase=8
  ·rw[if_pos h8]
   exact⟨λh=>by(change (6:Int)=5 at h;omega),λ_=>hno (.inr h8),λh hh hk=>by(show(6:Int)≠0∧(6:Int)≠8;omega),λh=>⟨(hb.tk h).1,by show(6:Int)≠8;omega⟩⟩
  ·rw[if_neg h8]
   by_cases h6:c'.phase=6
   ·rw[if_pos h6]
    have hph:(if x.fate=2 then(6:Int)else 7)=6∨(if x.fate=2 then(6:Int)else 7)=7:=by split<;>simp
    generalize (if x.fate=2 then(6:Int)else 7)=ph at*
    exact⟨λh=>by(change ph=5 at h;omega),λ_=>hno (.inl h6),λh hh hk=>by(show ph≠0∧ph≠8;omega),λh=>⟨(hb.tk h).1,by show ph≠8;omega⟩⟩
   ·rw[if_neg h6]
    exact⟨λ_=>⟨by show c'.who=_;rw[hsw,hw],hs⟩,λh=>absurd h5 h,hb.hd,hb.tk⟩
theorem rStep_q(hx:RX x)(ho:ROk p n x)(hg:GOk w)(hb:LB w k x):LQ w k (Wav w x k p):=by
 have hph:=ho.phase
 unfold Wav
 by_cases hd:x.doomed=true∧1≤x.phase∧x.phase≤4
 ·rw[if_pos hd]
  exact LQ.keep hb rfl rfl rfl (by omega) (by unfold Wid;simp) rfl
 rw[if_neg hd]
 have hd':x.phase≠5→x.doomed=false:=λh5=>by
  rw[Xbz]
  intro h
  rcases hx.doom h with h1|h1
  ·exact hd ⟨h,h1⟩
  ·exact h5 h1.1
 by_cases h0:x.phase=0
 ·rw[if_pos h0];exact rIdle_q hb h0
 rw[if_neg h0]
 by_cases h1:x.phase=1
 ·rw[if_pos h1];exact rRun_q (hd' (by omega)) hb h1 hg.holds
 rw[if_neg h1]
 by_cases h2:x.phase=2
 ·rw[if_pos h2]
  refine LQ.keep hb rfl rfl rfl (by omega) ?_ (rFork_g (w:=w) (hd' (by omega)) (by omega)).tries
  unfold Wfa Wid
  repeat' split
  all_goals(simp only;omega)
 rw[if_neg h2]
 by_cases h3:x.phase=3
 ·rw[if_pos h3]
  refine LQ.keep hb (Wsu (hd' (by omega)) (by omega)).mem ?_ ?_ (by omega) ?_ (Wsu (hd' (by omega)) (by omega)).tries
  all_goals(unfold Wcv Wjo;split<;>first|rfl|(simp only;omega))
 rw[if_neg h3]
 by_cases h4:x.phase=4
 ·rw[if_pos h4]
  refine LQ.keep hb rfl rfl rfl (by omega) ?_ (rExtend_g (w:=w) (hd' (by omega)) (by omega)).tries
  unfold Wcg Wid
  simp only
  repeat' split
  all_goals(simp only;omega)
 rw[if_neg h4]
 by_cases h5:x.phase=5
 ·rw[if_pos h5];exact rCommit_q hb h5 (ho.comm h5) hg.mem
 rw[if_neg h5]
 by_cases h6:x.phase=6
 ·rw[if_pos h6]
  by_cases hz:x.undos.length>0
  ·rw[if_pos hz];exact LQ.keep hb rfl rfl rfl (by omega) (by unfold Wjo;simp only;omega) rfl
  ·rw[if_neg hz];exact LQ.keep hb rfl rfl rfl (by omega) (by simp only;omega) rfl
 rw[if_neg h6]
 by_cases h7:x.phase=7
 ·rw[if_pos h7]
  have hfree:∀e∈Wat w.holds ((k:Int)+1),e.1≠(k:Int)+1∧e∈w.holds:=λe he=>by
   have:=Xas.1 he
   exact⟨by simpa using this.2,this.1⟩
  have hno:=hb.no (by omega)
  by_cases hf:x.fate=0
  ·rw[if_pos hf]
   refine⟨⟨λh=>by(change (0:Int)=5 at h;omega),λ_=>hno,λh hh hk=>absurd hk (hfree h hh).1,λh=>⟨?_,by show(0:Int)≠8;omega⟩⟩,λwho h1 h0 i a b=>⟨Iff.rfl,λ_=>rfl⟩,Xw _,λh hh _=>⟨h,(hfree h hh).2,rfl⟩,λ_ _=>rfl⟩
   have:=(hb.tk h).1
   show x.tries+1≥3
   omega
  ·rw[if_neg hf]
   have:=rEnd_q (w:={w with holds:=Wat w.holds ((k:Int)+1)}) (x:=x) hno (λe he=>(hfree e he).1)
   exact⟨this.b,this.oth,this.clk,λh hh hne=>by obtain⟨h',a,b⟩:=this.hdo h hh hne;exact⟨h',(hfree h' a).2,b⟩,this.tko⟩
 ·rw[if_neg h7];exact LQ.of rfl rfl rfl hb
end
structure LX(w:Wo):Prop where
 root:∀(k:Nat) (h:k<w.roots.length),LB w k w.roots[k]
 ow:∀i,0≤i→i≤7→owner w.mem i=0∨∃k:Nat,k<w.roots.length∧owner w.mem i=(k:Int)+1
 hd:∀h∈w.holds,∃k:Nat,k<w.roots.length∧h.1=(k:Int)+1
 tk:w.token=0∨∃k:Nat,k<w.roots.length∧w.token=(k:Int)+1
section
variable{s:Sc}{w v:Wo}{n:Int}{a:Ac}{k:Nat}{q:Wo×Rt}
theorem LB.other{j:Nat}{y:Rt}(h:LB w j y)(hq:LQ w k q)(hne:j≠k)(hc:y.phase=5→CmOk y.cm):LB q.1 j y:=by
 have hw:((j:Int)+1)≠(k:Int)+1:=by omega
 have ho:=hq.oth ((j:Int)+1) hw (by omega)
 refine⟨λh5=>?_,λh5 i a b hz=>h.no h5 i a b ((ho i a b).1.1 hz),λe he hk=>?_,λhz=>?_⟩
 ·obtain⟨c1,c2⟩:=h.cm h5
  refine⟨c1,λi a b=>?_,λh3=>?_⟩
  ·rw[c1,(ho i a b).1,←c1];exact c2.own i a b
  ·obtain⟨v1,v2⟩:=c2.ver h3
   refine⟨Xet v1 hq.clk,λi hi=>?_⟩
   obtain⟨l,hl,e1,e2⟩:=hi
   have hr:=(hc h5).rows _ (Xt hl)
   have hi':lkd y.cm i:=⟨l,hl,e1,e2⟩
   have hown:=(c2.own i (by omega) (by omega)).2 hi'
   rw[(ho i (by omega) (by omega)).2 (by rw[hown,c1])]
   exact v2 i hi'
 ·obtain⟨h',a,b⟩:=hq.hdo e he (by rw[hk];exact hw)
  exact h.hd h' a (b.trans hk)
 ·exact h.tk ((hq.tko (by omega) (by omega)).symm.trans hz)
theorem put_lx{w0:Wo}(hx:LX w0)(hk:k<w0.roots.length)(hr:q.1.roots=w0.roots)(hq:LQ w0 k q)(hc:∀(i:Nat) (h:i<w0.roots.length),w0.roots[i].phase=5→CmOk w0.roots[i].cm):LX (Wo.put q k):=by
 have hlen:(q.1.roots.set k q.2).length=w0.roots.length:=by rw[Xad,hr]
 have hmem:∀i,owner (Wo.put q k).mem i=owner q.1.mem i:=λ_=>rfl
 refine⟨λi hi=>?_,λi a b=>?_,λe he=>?_,?_⟩
 ·change i<(q.1.roots.set k q.2).length at hi
  have hi0:i<w0.roots.length:=by rw[←hlen];exact hi
  have hlb:∀y,LB q.1 i y→LB (Wo.put q k) i y:=λy hy=>⟨hy.cm,hy.no,hy.hd,hy.tk⟩
  show LB (Wo.put q k) i ((q.1.roots.set k q.2)[i]'hi)
  rw[Xaq]
  by_cases he:k=i
  ·subst he;rw[if_pos rfl];exact hlb _ hq.b
  ·rw[if_neg he];simp only[hr];exact hlb _ ((hx.root i hi0).other hq (λh=>he h.symm) (hc i hi0))
 ·show owner q.1.mem i=0∨∃j:Nat,j<(q.1.roots.set k q.2).length∧owner q.1.mem i=(j:Int)+1
  rw[hlen]
  by_cases h0:owner q.1.mem i=0
  ·exact .inl h0
  ·by_cases h1:owner q.1.mem i=(k:Int)+1
   ·exact .inr ⟨k,hk,h1⟩
   ·have:=(hq.oth _ h1 h0 i a b).1.1 rfl
    rw[←this]
    exact hx.ow i a b
 ·show∃j:Nat,j<(q.1.roots.set k q.2).length∧e.1=(j:Int)+1
  rw[hlen]
  by_cases h1:e.1=(k:Int)+1
  ·exact⟨k,hk,h1⟩
  ·obtain⟨h',a,b⟩:=hq.hdo e he h1
   rw[←b];exact hx.hd h' a
 ·show q.1.token=0∨∃j:Nat,j<(q.1.roots.set k q.2).length∧q.1.token=(j:Int)+1
  rw[hlen]
  by_cases h0:q.1.token=0
  ·exact .inl h0
  ·by_cases h1:q.1.token=(k:Int)+1
   ·exact .inr ⟨k,hk,h1⟩
   ·rw[hq.tko h0 h1];exact hx.tk
theorem wAct_lx(h:WOk s.2.1 n w)(hx:WX w)(hl:LX w):LX (wAct s w a):=by
 have hl1:LX {w with now:=w.now+1}:=⟨λk hk=>⟨(hl.root k hk).cm,(hl.root k hk).no,(hl.root k hk).hd,(hl.root k hk).tk⟩,hl.ow,hl.hd,hl.tk⟩
 have hc:∀(i:Nat) (h:i<({w with now:=w.now+1}:Wo).roots.length),({w with now:=w.now+1}:Wo).roots[i].phase=5→CmOk ({w with now:=w.now+1}:Wo).roots[i].cm:=λi hi h5=>(h.root i hi).comm h5
 unfold wAct
 simp only
 split
 ·rename_i hb
  have hk:a.2.1.toNat<w.roots.length:=by omega
  have hlb:=hl1.root _ hk
  rw[Wc hk]
  split
  ·unfold Wzd
   rw[Wc (show a.2.1.toNat<({w with now:=w.now+1}:Wo).roots.length from hk)]
   exact put_lx hl1 hk (Wxe h hk) (rStep_q (n:=n) (hx _ hk) (h.root _ hk) ⟨h.mem,h.shelf,h.holds⟩ hlb) hc
  ·split
   ·split
    ·exact put_lx (w0:={w with now:=w.now+1}) hl1 hk rfl (LQ.of rfl rfl rfl ⟨hlb.cm,hlb.no,hlb.hd,hlb.tk⟩) hc
    ·exact hl1
   ·split
    ·split
     ·exact put_lx (w0:={w with now:=w.now+1}) hl1 hk rfl (LQ.of rfl rfl rfl ⟨hlb.cm,hlb.no,hlb.hd,hlb.tk⟩) hc
     ·exact hl1
    ·exact hl1
 ·exact hl1
theorem acts_lx:∀(l:List Ac) (n:Int) (w:Wo),WOk s.2.1 n w→WX w→LX w→LX (l.foldl (wAct s) w)
 | [],n,w,h,hx,hl=>hl
 |a::l,n,w,h,hx,hl=>acts_lx l (n+1) _ (Wgl (a:=a) h) (Woh (a:=a) h hx).1 (wAct_lx h hx hl)
theorem wNew_lx(hok:scOk s=true):LX (wNew s):=by
 obtain⟨h1,h2,h3,h4⟩:=Wpr hok
 have how:∀i,0≤i→i≤7→owner (wNew s).mem i=0:=λi a b=>by
  unfold owner Wak getI wNew memNew
  simp only
  have:=h1.cells.len
  rw[Wc (show i.toNat<(s.1.1.map wd0).length by rw[Xaf];omega),Xdo]
  rfl
 refine⟨λk hk=>?_,λi a b=>.inl (how i a b),(λh hh=>by cases hh),.inl rfl⟩
 have hr:(wNew s).roots[k]={}:=by simp only[wNew,Xbq]
 rw[hr]
 exact⟨λh=>by(change (0:Int)=5 at h;omega),(λ_ i a b=>by rw[how i a b];omega),(λh hh=>by cases hh),λh=>by(change (0:Int)=(k:Int)+1 at h;omega)⟩
end
end
section
variable{N:Nat}{s:Sc}{w:Wo}{n:Int}
end
end Go.Sx
