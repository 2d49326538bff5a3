/- Plain laws of the Lean functions. -/
import Derived.Test.YtfajigbmoebkaaaGreatMW1RtR

namespace Go.Sx
set_option linter.unusedVariables false
set_option linter.unusedSimpArgs false
variable {N:Nat} {w:Wo} {k:Nat} {x:Rt} {o:Opn} {p:Pg} {n:Int} {code:List Opn}
theorem RLive.mk24 (hc:CC p.1) (h:RLive p n x) (hz:x.marks.length ≠ 0):∃ (m:Nat) (q:List RM),x.marks = q ++ [x.last] ∧ x.last.1 = (m:Int) ∧ (∃ hm:m < p.1.length,p.1[m].1 = 8) ∧ (m:Int) < x.pc ∧ Mate p.1 m (Wsd p.1 m) ∧ x.pc ≤ Wsd p.1 m ∧ stk p.1 m = (stk p.1 x.pc.toNat).dropLast ∧ x.marks.dropLast = q ∧
  Vals 4 x.last.2.2.2.2 ∧ (0 ≤ x.last.2.1 ∧ x.last.2.1 ≤ x.last.1 + 72 * frk p.1 x.last.1.toNat ∧ x.last.2.1 ≤ x.reads.length) ∧ (0 ≤ x.last.2.2.1 ∧ x.last.2.2.1 ≤ x.last.1 + 8 ∧ x.last.2.2.1 ≤ x.writes.length) ∧ 0 ≤ x.last.2.2.2.1 ∧ x.last.2.2.2.1 ≤ x.last.1 ∧ x.last.2.2.2.1 ≤ x.undos.length:=by
 have hp:=h.pc
 obtain ⟨m,q,y,e1,e2,e3,e4,e5,e6,e7,e8,e9⟩:=Wyv (d:=zRM) hc (show x.pc.toNat ≤ p.1.length by omega) h.marks.pcs hz
 have hl:x.last = y:=e2
 have hy:=h.marks.each y (by rw [e1]; simp)
 rw [hl]
 exact ⟨m,q,e1,e3,e4,by omega,e6,by omega,e8,by rw [e1]; simp,hy⟩
theorem abort_run (hk:k < w.roots.length) (hxe:w.roots[k] = x) (hk4:k ≤ 8) (hc:CC p.1) (hx:RLive p n x) (hu:∀ u ∈ x.undos,UnV u) (hs:ShOk w.shelf) (hh:HOk w.holds) (hN:1048576 < N) :
  Zij N w.e (k:Int) p.1 = some (((Wo.put (rAbort w x k p.1) k).e,()),()):=by
 obtain ⟨g1,g2,g3,g4,g5⟩:=woG hk hxe
 obtain ⟨r0,r1,r2,r3,r4,r5,r6,r7,r8,r11,r12,r13,r14,r15,r16,r18,r19,r20,r21,r24,r28,r29⟩:=rtP x
 obtain ⟨z1,z2,z3,z4,z5,z6⟩:=hx.sz hc
 have hcl:=hc.len
 unfold Zij rAbort
 simp only [Wq]
 rw [show P5 w.e = w.roots.map Rt.e from rfl,g4,g2]
 simp only [cond_true,Ww,r15,ilen]
 by_cases hz:x.marks.length = 0
 ·rw [if_pos (by omega),if_pos hz,g3,Wxe hk hxe hk4 hh hx.rv z5 z6 hN]
  rfl
 ·rw [if_neg (by omega),if_neg hz,last_run hz (by omega)]
  simp only [Option.bind_some,r16,Wby]
  obtain ⟨m,q,e1,e2,⟨hm,hm8⟩,e4,e5,e6,e7,e8,e9,e10,e11,e12,e13,e14⟩:=hx.mk24 hc hz
  by_cases hgt:(x.undos.length:Int) > x.last.2.2.2.1
  ·rw [if_pos hgt,if_pos hgt,g3,Int.toNat_natCast,Wuq hk hxe (by omega) (by omega) hu hs hN]
   rfl
  ·rw [if_neg hgt,if_neg hgt]
   simp only [r14,r15]
   obtain ⟨a,b,c,d⟩:=Wjf hz (by omega) zRM
   have d':(decide ((0:Int) ≤ isub .i64 (x.marks.length:Int) 1) && decide (isub .i64 (x.marks.length:Int) 1 ≤ (x.marks.length:Int))) = true:=d
   have c':List.take (Int.toNat (isub .i64 (x.marks.length:Int) 1)) x.marks = x.marks.dropLast:=c
   rw [d',c',Wcv (by rw [e9.len]; omega),e2,War,decide_eq_true hm]
   have o1:List.getD p.1 (Int.toNat ((m:Nat):Int)) ((0,0,0,0):Opn) = opN p.1 (m:Int):=rfl
   have hr:=ok_8 (hc.ok m hm).1 hm8
   rw [← Wvf hm] at hr
   simp only [cond_true,ret,Option.bind_some,o1]
   rw [Wcg hr e9.len]
   have b2:(decide ((0:Int) ≤ x.last.2.2.1) && decide (x.last.2.2.1 ≤ (x.writes.length:Int))) = true:=by simp; omega
   rw [b2]
   simp only [cond_true]
   rw [Wgy (by rw [List.length_take]; omega),Wpq (by omega) hN ⟨hm,hm8⟩ e5]
   simp only [ret,Option.bind_some]
   rw [Wez (by have:=e5.len; omega),Int.toNat_natCast]
   exact finW rfl rfl rfl
theorem boost_run (hk:k < w.roots.length) (hxe:w.roots[k] = x) (hk4:k ≤ 8) (hc:CC p.1) (hx:RLive p n x) (ho:opOk o = true) (h12:12 ≤ o.1) (hs:ShOk w.shelf) (hh:HOk w.holds) (hN:1048576 < N) :
  Zgu N w.e (k:Int) o = some (((Wo.put (Wue w x k o) k).e,()),()):=by
 obtain ⟨g1,g2,g3,g4,g5⟩:=woG hk hxe
 obtain ⟨r0,r1,r2,r3,r4,r5,r6,r7,r8,r11,r12,r13,r14,r15,r16,r18,r19,r20,r21,r24,r28,r29⟩:=rtP x
 obtain ⟨z1,z2,z3,z4,z5,z6⟩:=hx.sz hc
 have hhl:=Wvs hh
 have hpc:=hx.pc
 have hcl:=hc.len
 have hbm:(0 ≤ (Whi o).1 ∧ (Whi o).1 ≤ 8) ∧ 1 ≤ (Whi o).2 ∧ (Whi o).2 ≤ 2:=by
  unfold Whi
  have h16:=ok_16 ho
  split
  ·rename_i h
   have:Wed o.2.1 = true:=by
    rcases h with h | h
    ·exact (ok_12 ho h).1
    ·exact (ok_14 ho h).1
   rw [Wdu] at this; simp only; omega
  ·split
   ·have:=(ok_13 ho ‹_›).2
    rw [Wdu] at this; simp only; omega
   ·split <;> (simp only; omega)
 unfold Zgu Wue
 simp only [Wq,Wif]
 rw [show P5 w.e = w.roots.map Rt.e from rfl,g4,g2,Wez (by omega),Wwf ho h12,show P4 w.e = w.holds from rfl,show w.e.2.2.2.1 = w.shelf from rfl]
 simp only [cond_true,Option.bind_some,Wqs hh (show 1 ≤ (k:Int) + 1 ∧ (k:Int) + 1 ≤ 9 by omega) hbm.1 hbm.2 (by omega) hN,r3,r12,r16,Wii hx.spare]
 cases ha:Wle w.holds ((k:Int) + 1) (Whi o).1 (Whi o).2 with
 | none =>
  simp only [Option.isSome_none,Bool.not_false,cond_true,Int.toNat_natCast]
  exact finW rfl rfl rfl
 | some hs' =>
  simp only [Option.isSome_some,Bool.not_true,cond_false,Option.getD_some,Int.toNat_natCast,Wqa hs hx.regs ho h12 hN,Option.bind_some,Wfc]
  rw [Wez (by omega),Ws (by simp; omega)]
  by_cases hz:(Wdr w.shelf o x.regs).2.2.1 = 0
  ·rw [if_pos hz,if_pos hz]; exact finW rfl rfl rfl
  ·rw [if_neg hz,if_neg hz]; exact finW rfl rfl rfl
theorem run_run (hk:k < w.roots.length) (hxe:w.roots[k] = x) (hk4:k ≤ 8) (hp:POk p) (hx:RLive p n x) (hu:∀ u ∈ x.undos,UnV u) (hm:Wbi w.mem = true) (hs:ShOk w.shelf) (hh:HOk w.holds) (hN:1048576 < N) :
  Zht N w.e (k:Int) p = some (((Wo.put (rRun w x k p) k).e,()),()):=by
 obtain ⟨g1,g2,g3,g4,g5⟩:=woG hk hxe
 obtain ⟨r0,r1,r2,r3,r4,r5,r6,r7,r8,r11,r12,r13,r14,r15,r16,r18,r19,r20,r21,r24,r28,r29⟩:=rtP x
 have hc:=hp.code
 obtain ⟨z1,z2,z3,z4,z5,z6⟩:=hx.sz hc
 have hpc:=hx.pc
 have hcl:=hc.len
 have hrl:=hx.regs.len
 unfold Zht rRun
 simp only [Wq]
 rw [show P5 w.e = w.roots.map Rt.e from rfl,g4,g2,g3]
 simp only [cond_true,r3,r4,r12,r13,r14,r15,r16,Wby,Ww,show ilen p.1 = (p.1.length:Int) from rfl]
 by_cases hge:x.pc ≥ p.1.length
 ·rw [if_pos hge,if_pos hge,Wxe hk hxe hk4 hh hx.rv z5 z6 hN]; rfl
 ·rw [if_neg hge,if_neg hge]
  obtain ⟨j,hj,ej,eo⟩:=Wxt (l:=p.1) hpc.1 (by omega)
  have eo':List.getD p.1 (Int.toNat x.pc) ((0,0,0,0):Opn) = opN p.1 x.pc:=rfl
  have hin:inb x.pc p.1.length = true:=by rw [ej,War]; exact decide_eq_true hj
  rw [hin]
  obtain ⟨ok,o1,o16⟩:=hc.ok j hj
  simp only [cond_true,eo']
  rw [← eo] at ok o1 o16
  rw [Wez (show 0 ≤ x.pc ∧ x.pc ≤ 1000000 by omega)]
  have h9pos:(opN p.1 x.pc).1 = 9 → x.marks.length ≠ 0:=fun h9 hz=>by
   have h1:=congrArg List.length hx.marks.pcs
   simp only [List.length_map,hz] at h1
   have h2:=Wdf hc.up j (by omega)
   have h3:=hc.up j hj
   rw [Wbz hj,Wwy (by rw [← eo]; exact h9)] at h3
   rw [ej,Int.toNat_natCast] at h1
   omega
  generalize opN p.1 x.pc = o at *
  have c12:o.1 ≥ 12 → Zgu N w.e (k:Int) o = some (((Wo.put (Wue w x k o) k).e,()),()):=fun h12=>boost_run hk hxe hk4 hc hx ok h12 hs hh hN
  by_cases h5:o.1 = 5
  ·rw [if_pos h5,if_pos h5,Int.toNat_natCast,read_run hk hxe hc hx hm h5 ok hN]; rfl
  ·rw [if_neg h5,if_neg h5]
   by_cases h10:o.1 = 10
   ·rw [if_pos h10,if_pos h10,abort_run hk hxe hk4 hc hx hu hs hh hN]; rfl
   ·rw [if_neg h10,if_neg h10]
    by_cases h11:o.1 = 11
    ·rw [if_pos h11,if_pos h11,show ilen p.2 = ((p.2.length:Nat):Int) from rfl,Wrw (by omega) (by omega) hp.k3 hN,Int.toNat_natCast]
     exact finW rfl rfl rfl
    ·rw [if_neg h11,if_neg h11]
     by_cases h12:o.1 ≥ 12
     ·rw [if_pos h12]
      have hb:=c12 h12
      have:o.1 = 12 ∨ o.1 = 13 ∨ o.1 = 14 ∨ o.1 = 15 ∨ o.1 = 16:=by omega
      rcases this with h | h | h | h | h
      ·rw [if_pos h,if_pos h,hb]; rfl
      ·rw [if_neg (by omega),if_pos h,if_pos h,hb]; rfl
      ·rw [if_neg (by omega),if_neg (by omega),if_pos h,if_pos h,hb]; rfl
      ·rw [if_neg (by omega),if_neg (by omega),if_neg (by omega),if_pos h,if_pos h,hb]; rfl
      ·rw [if_neg (by omega),if_neg (by omega),if_neg (by omega),if_neg (by omega),if_pos h,hb]; rfl
     ·rw [if_neg h12,if_neg (show ¬ o.1 = 12 by omega),if_neg (show ¬ o.1 = 13 by omega),if_neg (show ¬ o.1 = 14 by omega),if_neg (show ¬ o.1 = 15 by omega),if_neg (show ¬ o.1 = 16 by omega)]
      by_cases h6:o.1 = 6
      ·rw [if_pos h6,if_pos h6,Wcg (ok_6 ok h6).2 hrl,Ws (by simp; omega),Int.toNat_natCast]
       exact finW rfl rfl rfl
      ·rw [if_neg h6,if_neg h6]
       by_cases h7:o.1 = 7
       ·rw [if_pos h7,if_pos h7]
        have h:=ok_7 ok h7
        rw [Wcg h.1 hrl,Wz (a:=x.pc) (b:=o.2.2.1) (by unfold I64; omega),Wez (a:=x.pc + o.2.2.1) (by omega),Int.toNat_natCast]
        by_cases hg:List.getD x.regs (Int.toNat o.2.1) 0 = 0
        ·rw [if_pos hg,if_pos (show getI x.regs o.2.1 0 = 0 from hg)]
         exact finW rfl rfl rfl
        ·rw [if_neg hg,if_neg (show ¬ getI x.regs o.2.1 0 = 0 from hg)]
         exact finW rfl rfl rfl
       ·rw [if_neg h7,if_neg h7]
        by_cases h8:o.1 = 8
        ·rw [if_pos h8,if_pos h8,Wcv (by omega)]
         simp only [ret,Option.bind_some]
         rw [Ws (by simp; omega),Int.toNat_natCast]
         exact finW rfl rfl rfl
        ·rw [if_neg h8,if_neg h8]
         by_cases h9:o.1 = 9
         ·rw [if_pos h9,if_pos h9]
          have hz:=h9pos h9
          obtain ⟨a,b,c,d⟩:=Wjf hz (by omega) zRM
          obtain ⟨m,q,e1,e2,⟨hm',hm8⟩,e4,e5,e6,e7,e8,e9,e10,e11,e12,e13,e14⟩:=hx.mk24 hc hz
          rw [Wzl hz (by omega)]
          simp only [Option.bind_some]
          rw [d,c,e2,War,decide_eq_true hm']
          have o1:List.getD p.1 (Int.toNat ((m:Nat):Int)) ((0,0,0,0):Opn) = opN p.1 (m:Int):=rfl
          have hr:=ok_8 (hc.ok m hm').1 hm8
          rw [← Wvf hm'] at hr
          simp only [cond_true,o1]
          rw [Wcg hr hrl,Int.toNat_natCast]
          exact finW rfl rfl rfl
         ·rw [if_neg h9,if_neg h9,Woa hN ok (by omega) (by omega) hx.regs,Int.toNat_natCast]
          exact finW rfl rfl rfl
theorem idle_run (hk:k < w.roots.length) (hxe:w.roots[k] = x) (hl4:w.roots.length ≤ 8) (hN:1048576 < N) :
  Zch N w.e (k:Int) = some (((Wo.put (Wuu w x k) k).e,()),()):=by
 obtain ⟨g1,g2,g3,g4,g5⟩:=woG hk hxe
 have hself:=put_self hk hxe
 have hrl:(w.roots.map Rt.e).length = w.roots.length:=by simp
 unfold Zch
 rw [show P5 w.e = w.roots.map Rt.e from rfl,g4,g2,Wez (by omega),Int.toNat_natCast]
 simp only [cond_true,Wfc,Ww,Wby,show w.e.2.1 = w.token from rfl,show x.e.2.1 = x.tries from rfl,show w.e.1 = w.now from rfl,show w.e.2.2.1.1 = w.mem.1 from rfl]
 have hgo:∀ (K0:Bool → Int → Bool → Option ((Y_World × Unit) × Unit)) (d j n:Nat) (al:Bool),j + d = w.roots.length → d < n →
   Zax N (k:Int) k (ilen (w.roots.map Rt.e)) w.now w.token w.mem.1 w.e.2.2.2.1.2 (w.roots.map Rt.e) w.e.2.2.1.2 w.e.2.2.2.1.1 (P4 w.e) (Q6 w.e) K0 n al (j:Int) = K0 (al && Wgt k (w.roots.drop j) j) (w.roots.length:Int) false:=by
  intro K0 d
  induction d with
  | zero =>
   intro j n al hj hn
   obtain ⟨n,rfl⟩:∃ n',n = n' + 1:=⟨n - 1,by omega⟩
   have:j = (w.roots.map Rt.e).length:=by omega
   rw [Zax,this,Wbj (Nat.le_refl _),hrl,List.drop_length]
   simp [Wgt]
  | succ d ih =>
   intro j n al hj hn
   obtain ⟨n,rfl⟩:∃ n',n = n' + 1:=⟨n - 1,by omega⟩
   have hlt:j < (w.roots.map Rt.e).length:=by omega
   have hlt':j < w.roots.length:=by omega
   rw [Zax]
   simp only [Wba hlt,Wp hlt,Wu hlt,Wi (show j < 4611686018427387904 by omega),cond_true,ih (j + 1) n _ (by omega) (by omega),List.getElem_map]
   rw [List.drop_eq_getElem_cons hlt',Wgt]
   generalize Wgt k (w.roots.drop (j + 1)) (j + 1) = b
   have hp:(Rt.e w.roots[j]).1 = w.roots[j].phase:=rfl
   rw [hp]
   simp only [Ww]
   cases al with
   | false=>simp
   | true =>
    simp only [cond_true,Bool.true_and]
    by_cases h1:j = k
    ·rw [if_pos (by omega),decide_eq_true h1]; simp
    ·rw [if_neg (by omega),decide_eq_false h1]
     by_cases h2:w.roots[j].phase = 0
     ·rw [if_pos h2,decide_eq_true h2]; simp
     ·rw [if_neg h2,decide_eq_false h2]
      have:(w.roots[j].phase == 8) = decide (w.roots[j].phase = 8):=by
       by_cases h3:w.roots[j].phase = 8 <;> simp [h3]
      rw [this]; simp
 have:=hgo
 refine (hgo _ w.roots.length 0 N true (by omega) (by omega)).trans ?_
 rw [List.drop_zero,Bool.true_and]
 unfold Wuu
 have hnew:some ((S5 (List.set (w.roots.map Rt.e) k ((1:Int),(x.tries,((0:Int),((0:Int),(w.mem.1,((0:Int),((0:Int),((0:Int),((0:Int),(w.now,((0:Int),(false,(List.replicate (Int.toNat (4:Int)) (0:Int),(([]:List (Int × Int)),(([]:List (Int × Int)),(([]:List (Int × Int × Int × Int × List Int)),(([]:List (Int × Int × Int)),(([]:List Int),(false,(((0:Int),((0:Int),((0:Int),(0:Int)))),(((0:Int),((0:Int),((0:Int),((0:Int),((0:Int),(([]:List (Int × Int)),([]:List Int))))))),d_Family)))))))))))))))))))))) w.e,()),()) = some (((Wo.put (w,{ phase:=1,tries:=x.tries,rv:=w.mem.1,began:=w.now,regs:=[0,0,0,0] }) k).e,()),()):=finW (x':={ phase:=1,tries:=x.tries,rv:=w.mem.1,began:=w.now,regs:=[0,0,0,0] }) (w':=w) rfl rfl rfl
 have htok:some (((w.now,((k:Int) + 1,w.e.2.2)),()),()) = some (((Wo.put ({ w with token:=(k:Int) + 1 },x) k).e,()),()):=by
  have:Wo.put ({ w with token:=(k:Int) + 1 },x) k = { w with token:=(k:Int) + 1 }:=by unfold Wo.put; simp only; rw [← hxe,List.set_getElem_self]
  rw [this]; rfl
 have hroom:(((decide ((0:Int) ≤ (4:Int))) && (decide ((4:Int) ≤ (4:Int)))) && (room (Int.toNat (4:Int)))) = true:=rfl
 have hsame:some ((w.e,()),()) = some (((Wo.put (w,x) k).e,()),()):=by rw [hself]
 rw [hroom]
 simp only [cond_true,hnew]
 by_cases t0:w.token = 0
 ·rw [if_pos t0]
  rw [if_neg (show ¬ (w.token ≠ 0 ∧ w.token ≠ (k:Int) + 1) by omega)]
  by_cases ht:x.tries ≥ 3
  ·rw [if_pos ht,if_pos t0,if_pos ⟨ht,t0⟩]; exact htok
  ·rw [if_neg ht,if_neg (show ¬ w.token = (k:Int) + 1 by omega),if_neg (fun h=>ht h.1),if_neg (by omega)]
 ·rw [if_neg t0]
  by_cases t1:w.token = (k:Int) + 1
  ·rw [if_pos t1,if_neg (show ¬ (w.token ≠ 0 ∧ w.token ≠ (k:Int) + 1) by omega),if_neg (show ¬ (x.tries ≥ 3 ∧ w.token = 0) by omega)]
   have hfin:∀ b:Bool,(bif !b then some ((w.e,()),()) else some (((Wo.put (w,{ phase:=1,tries:=x.tries,rv:=w.mem.1,began:=w.now,regs:=[0,0,0,0] }) k).e,()),())) = some (((Wo.put (if w.token = (k:Int) + 1 ∧ b = false then (w,x) else (w,{ phase:=1,tries:=x.tries,rv:=w.mem.1,began:=w.now,regs:=[0,0,0,0] })) k).e,()),()):=fun b=>by
    cases b with
    | false=>rw [if_pos ⟨t1,rfl⟩]; exact hsame
    | true=>rw [if_neg (by simp)]; rfl
   by_cases ht:x.tries ≥ 3
   ·rw [if_pos ht,if_neg t0,if_pos t1]; exact hfin _
   ·rw [if_neg ht,if_pos t1]; exact hfin _
  ·rw [if_neg t1,if_pos ⟨t0,t1⟩]; exact hsame
theorem fork_run (hp:POk p) (hx:RLive p n x) (h2:x.phase = 2) (hN:1048576 < N):Zhu N x.e = some (((Wyb x).e,()),()):=by
 obtain ⟨r0,r1,r2,r3,r4,r5,r6,r7,r8,r11,r12,r13,r14,r15,r16,r18,r19,r20,r21,r24,r28,r29⟩:=rtP x
 have hc:=hp.code
 obtain ⟨z1,z2,z3,z4,z5,z6⟩:=hx.sz hc
 obtain ⟨f1,f2,f3⟩:=hx.fork h2
 have hpc:=hx.pc
 have hcl:=hc.len
 have hk3:x.fam.kids.length ≤ 3:=by have:=f3.len; have:=hp.k3; omega
 have hord:=f3.len3 hp.k3
 have hrd:=f3.readsL
 unfold Zhu Wyb
 simp only [r3,r13,r21,r24,r28,r29,Wju,Option.bind_some]
 rw [Wxi hk3 hN,Www f3.regs hk3 (fun y hy=>by
  obtain ⟨i,hi,rfl⟩:=List.getElem_of_mem hy
  rw [(f3.kid i hi).regs.len]; omega) hN,Wyc (by have:=f3.buf8; omega) hN,Ws (by omega),Wcv (by omega),Wez (by omega),Wpd]
 by_cases hl:x.fam.lost = true
 ·rw [if_pos hl,if_pos hl]
 ·rw [if_neg hl,if_neg hl]
  simp only [ret,Option.bind_some,cond_true]
  cases ho:Wkp x.fam
  ·rw [if_neg (by simp)]; rfl
  ·rw [if_pos rfl]; rfl
theorem extend_run (hk:k < w.roots.length) (hxe:w.roots[k] = x) (hp:POk p) (hx:RLive p n x) (h4:x.phase = 4) (hm:Wbi w.mem = true) :
  Zge N w.e k = some (((Wo.put (w,Wjh w x) k).e,()),()):=by
 obtain ⟨g1,g2,g3,g4,g5⟩:=woG hk hxe
 obtain ⟨r0,r1,r2,r3,r4,r5,r6,r7,r8,r11,r12,r13,r14,r15,r16,r18,r19,r20,r21,r24,r28,r29⟩:=rtP x
 have hc:=hp.code
 obtain ⟨z1,z2,z3,z4,z5,z6⟩:=hx.sz hc
 have hz:=hx.back (.inr h4)
 obtain ⟨m,q,e1,e2,⟨hm',hm8⟩,e4,e5,e6,e7,e8,e9,e10,e11,e12,e13,e14⟩:=hx.mk24 hc hz
 have hps:=hx.pos h4
 have hpc:=hx.pc
 have hcl:=hc.len
 unfold Zge Wjh
 simp only [Wq]
 rw [show P5 w.e = w.roots.map Rt.e from rfl,g1,last_run hz (by omega)]
 simp only [Option.bind_some,r4,r5,r6,r13,r14,Wby,Wju,show w.e.2.2.1.2 = w.mem.2 from rfl]
 by_cases hlt:x.pos < x.last.2.1
 ·rw [if_pos hlt,if_pos hlt]
  have hj:x.pos.toNat < x.reads.length:=by omega
  have hin:inb x.pos x.reads.length = true:=by unfold inb; simp; omega
  have hg:List.getD x.reads (Int.toNat x.pos) ((0:Int),(0:Int)) = getI x.reads x.pos (0,0):=rfl
  have hv:0 ≤ (getI x.reads x.pos (0,0)).1 ∧ (getI x.reads x.pos (0,0)).1 ≤ 7:=by
   unfold getI; rw [Wm hj]; exact (hx.reads _ (List.getElem_mem hj)).1
  rw [hin,hg,Wnr hm hv,show List.getD w.mem.2 (Int.toNat (getI x.reads x.pos (0,0)).1) ((0:Int),((0:Int),(0:Int))) = Wdm w.mem (getI x.reads x.pos (0,0)).1 from rfl,Wez (by omega)]
  simp only [cond_true,Wfc]
  by_cases a:(Wdm w.mem (getI x.reads x.pos (0,0)).1).2.2 = 0
  ·rw [if_pos a]
   by_cases b:(Wdm w.mem (getI x.reads x.pos (0,0)).1).2.1 > x.rv
   ·rw [if_pos b,if_pos (.inr b)]; exact finW rfl rfl rfl
   ·rw [if_neg b,if_neg (by omega)]; exact finW rfl rfl rfl
  ·rw [if_neg a,if_pos (.inl a)]; exact finW rfl rfl rfl
 ·rw [if_neg hlt,if_neg hlt]
  have b1:(decide ((0:Int) ≤ x.last.2.1) && decide (x.last.2.1 ≤ (x.reads.length:Int))) = true:=by simp; omega
  have b2:(decide ((0:Int) ≤ x.last.2.2.1) && decide (x.last.2.2.1 ≤ (x.writes.length:Int))) = true:=by simp; omega
  rw [b1,b2,Wgy (by rw [List.length_take]; omega),Wgy (by rw [List.length_take]; omega),Wcv (by rw [e9.len]; omega),Wez (by omega)]
  simp only [cond_true,ret,Option.bind_some]
  exact finW rfl rfl rfl
theorem commit_run (hk:k < w.roots.length) (hxe:w.roots[k] = x) (hk4:k ≤ 8) (hcm:CmOk x.cm) (hm:Wbi w.mem = true) (hh:w.hist.length ≤ 500000) (hN:1048576 < N) :
  Zgf N w.e (k:Int) = some (((Wo.put (Wij w x k) k).e,()),()):=by
 obtain ⟨g1,g2,g3,g4,g5⟩:=woG hk hxe
 obtain ⟨r0,r1,r2,r3,r4,r5,r6,r7,r8,r11,r12,r13,r14,r15,r16,r18,r19,r20,r21,r24,r28,r29⟩:=rtP x
 have hst:=Wxm hcm hm
 unfold Zgf Wij
 simp only [Wq,Wif]
 rw [show P5 w.e = w.roots.map Rt.e from rfl,g4,g2,Wez (by omega),Int.toNat_natCast]
 simp only [cond_true,r7,r11,r20,show w.e.2.2.1 = w.mem from rfl,show Q6 w.e = w.hist from rfl]
 rw [Wpd]
 by_cases hd:x.doomed = true
 ·rw [if_pos hd,if_pos hd]
  obtain ⟨b,hb⟩:=break_run (N:=N) hcm hN
  rw [hb]
  simp only [Option.bind_some,Ww,show (Wfh x.cm).e.2.2.1 = (Wfh x.cm).phase from rfl]
  by_cases h8:(Wfh x.cm).phase = 8
  ·rw [if_pos h8,if_pos h8]
   have:S20 (Wfh x.cm).e (S11 false x.e) = Rt.e { x with cm:=Wfh x.cm,doomed:=false }:=rfl
   rw [this,Wju]
   exact finW rfl rfl rfl
  ·rw [if_neg h8,if_neg h8]; exact finW rfl rfl rfl
 ·rw [if_neg hd,if_neg hd,implStep_run hcm hm hN]
  simp only [Option.bind_some]
  obtain ⟨m',c',hq⟩:∃ m' c',Wlp w.mem x.cm = (m',c'):=⟨_,_,rfl⟩
  rw [hq] at hst ⊢
  simp only at hst ⊢
  have hcp:Zbi N (P5 c'.e) = ret c'.puts:=Wgy (by have:=hst.1.plen; show c'.puts.length ≤ 1048576; omega)
  have hS:S20 c'.e x.e = Rt.e { x with cm:=c' }:=rfl
  rw [hcp,hS,Wju]
  simp only [ret,Option.bind_some]
  rw [Ws (by simp; omega)]
  simp only [cond_true,Ww,Wby,show c'.e.2.2.1 = c'.phase from rfl,show (Cm.e x.cm).2.2.1 = x.cm.phase from rfl,show P4 c'.e = c'.wv from rfl]
  unfold cmDone
  simp only
  by_cases h3:x.cm.phase ≤ 3
  ·rw [if_pos h3]
   by_cases h4:c'.phase = 4
   ·rw [if_pos h4,if_neg (by omega),if_neg (by omega),if_pos (show x.cm.phase ≤ 3 ∧ c'.phase = 4 from ⟨h3,h4⟩),if_neg (by omega),if_neg (by omega)]
    exact finW (w':={ w with mem:=m',hist:=w.hist ++ [(c'.wv,(k:Int) + 1,c'.puts)] }) rfl rfl rfl
   ·rw [if_neg h4,if_neg (show ¬ (x.cm.phase ≤ 3 ∧ c'.phase = 4) from fun h=>h4 h.2)]
    by_cases h8:c'.phase = 8
    ·rw [if_pos h8,if_pos h8]; exact finW (w':={ w with mem:=m' }) rfl rfl rfl
    ·rw [if_neg h8,if_neg h8]
     by_cases h6:c'.phase = 6
     ·rw [if_pos h6,if_pos h6]
      by_cases h2:x.fate = 2
      ·rw [if_pos h2,if_pos h2]; exact finW (w':={ w with mem:=m' }) rfl rfl rfl
      ·rw [if_neg h2,if_neg h2]; exact finW (w':={ w with mem:=m' }) rfl rfl rfl
     ·rw [if_neg h6,if_neg h6]; exact finW (w':={ w with mem:=m' }) rfl rfl rfl
  ·rw [if_neg h3,if_neg (show ¬ (x.cm.phase ≤ 3 ∧ c'.phase = 4) from fun h=>h3 h.1)]
   by_cases h8:c'.phase = 8
   ·rw [if_pos h8,if_pos h8]; exact finW (w':={ w with mem:=m' }) rfl rfl rfl
   ·rw [if_neg h8,if_neg h8]
    by_cases h6:c'.phase = 6
    ·rw [if_pos h6,if_pos h6]
     by_cases h2:x.fate = 2
     ·rw [if_pos h2,if_pos h2]; exact finW (w':={ w with mem:=m' }) rfl rfl rfl
     ·rw [if_neg h2,if_neg h2]; exact finW (w':={ w with mem:=m' }) rfl rfl rfl
    ·rw [if_neg h6,if_neg h6]; exact finW (w':={ w with mem:=m' }) rfl rfl rfl
end Go.Sx
