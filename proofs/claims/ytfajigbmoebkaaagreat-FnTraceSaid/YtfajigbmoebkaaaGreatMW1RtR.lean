/- Plain laws of the Lean functions. -/
import Derived.Test.YtfajigbmoebkaaaGreatMW1Rt

namespace Go.Sx
set_option linter.unusedVariables false
set_option linter.unusedSimpArgs false
theorem rtP (x:Rt):x.e.1 = x.phase ∧ x.e.2.1 = x.tries ∧ x.e.2.2.1 = x.spare ∧ x.e.2.2.2.1 = x.pc ∧ P4 x.e = x.rv ∧ P5 x.e = x.newRv ∧ P6 x.e = x.pos ∧ P7 x.e = x.fate ∧ P8 x.e = x.stamp ∧ P11 x.e = x.doomed ∧ P12 x.e = x.regs ∧ P13 x.e = x.reads ∧ P14 x.e = x.writes ∧ P15 x.e = x.marks ∧ P16 x.e = x.undos ∧ P18 x.e = x.busy ∧ P19 x.e = x.pb ∧ P20 x.e = x.cm.e ∧ Q21 x.e = x.fam.e ∧ P24 x.e = x.fam.lost ∧ P28 x.e = x.fam.order ∧ P29 x.e = x.fam.reads :=
 ⟨rfl,rfl,rfl,rfl,rfl,rfl,rfl,rfl,rfl,rfl,rfl,rfl,rfl,rfl,rfl,rfl,rfl,rfl,rfl,rfl,rfl,rfl⟩
theorem S5e (w:Wo) (k:Nat) (x:Rt):S5 (List.set (w.roots.map Rt.e) k x.e) w.e = Wo.e { w with roots:=w.roots.set k x }:=by
 unfold S5 Wo.e; rw [List.map_set]
theorem finW {w w':Wo} {k:Nat} {x':Rt} {y:Y_Root} {g:Y_World} (hy:y = x'.e) (hg:g = w'.e) (hr:w'.roots = w.roots) :
  some ((S5 (List.set (w.roots.map Rt.e) k y) g,()),()) = some (((Wo.put (w',x') k).e,()),()):=by
 subst hy hg
 rw [← hr,S5e]; rfl
variable {N:Nat} {w:Wo} {k:Nat} {x:Rt} {o:Opn} {p:Pg} {n:Int} {code:List Opn}
theorem woG (hk:k < w.roots.length) (hxe:w.roots[k] = x):List.getD (w.roots.map Rt.e) k d_Root = x.e ∧ List.getD (w.roots.map Rt.e) (Int.toNat (k:Int)) d_Root = x.e ∧ S5 (List.set (w.roots.map Rt.e) (Int.toNat (k:Int)) x.e) w.e = w.e ∧ inb (k:Int) (w.roots.map Rt.e).length = true ∧ S5 (List.set (w.roots.map Rt.e) k x.e) w.e = w.e:=by
 have h1:List.getD (w.roots.map Rt.e) k d_Root = x.e:=by
  have:=Wjj Rt.e w.roots k {}
  rw [Wm hk,hxe] at this
  exact this
 have h2:S5 (List.set (w.roots.map Rt.e) k x.e) w.e = w.e:=by rw [S5e,← hxe,List.set_getElem_self]
 rw [Int.toNat_natCast]
 refine ⟨h1,h1,h2,?_,h2⟩
 rw [War,List.length_map]
 exact decide_eq_true hk
theorem put_self (hk:k < w.roots.length) (hxe:w.roots[k] = x):Wo.put (w,x) k = w:=by
 unfold Wo.put; simp only; rw [← hxe,List.set_getElem_self]
theorem Wju:Zbd N x.e = some (((Wup x).e,()),()):=rfl
theorem Wii (hs:0 ≤ x.spare ∧ x.spare ≤ 2):Zc5 N x.e = some (((Wgk x).e,()),()):=by
 obtain ⟨r0,r1,r2,r3,r4,r5,r6,r7,r8,r11,r12,r13,r14,r15,r16,r18,r19,r20,r21,r24,r28,r29⟩:=rtP x
 unfold Zc5 Wgk
 simp only [Ww,r15,r2,ilen,Wju,Option.bind_some]
 by_cases h1:x.marks.length = 0
 ·rw [if_pos (by omega),if_pos (.inl h1)]
 ·rw [if_neg (by omega)]
  by_cases h2:x.spare = 2
  ·rw [if_pos h2,if_pos (.inr h2)]
  ·rw [if_neg h2,if_neg (by omega),Wz (by unfold I64; omega)]; rfl
theorem Wjf {α:Type} {l:List α} (h:l.length ≠ 0) (hl:l.length ≤ 1000) (d:α):inb (isub .i64 (ilen l) 1) l.length = true ∧ List.getD l (Int.toNat (isub .i64 (ilen l) 1)) d = Woy l d ∧ List.take (Int.toNat (isub .i64 (ilen l) 1)) l = l.dropLast ∧ (decide ((0:Int) ≤ isub .i64 (ilen l) 1) && decide (isub .i64 (ilen l) 1 ≤ (l.length:Int))) = true:=by
 have e:isub .i64 (ilen l) 1 = ((l.length - 1:Nat):Int):=by rw [len_m1 (by omega)]; omega
 rw [e]
 refine ⟨by rw [War]; exact decide_eq_true (by omega),by rw [Int.toNat_natCast]; rfl,by rw [Int.toNat_natCast,List.dropLast_eq_take],by simp⟩
theorem last_run (h:x.marks.length ≠ 0) (hl:x.marks.length ≤ 1000):Zhr N x.e = some ((x.e,()),(x.last,())):=by
 obtain ⟨a,b,c,d⟩:=Wjf h hl zRM
 unfold Zhr
 rw [show x.e.2.2.2.2.2.2.2.2.2.2.2.2.2.2.2.1 = x.marks from rfl,a]
 simp only [cond_true]
 rw [show ((0:Int),((0:Int),((0:Int),((0:Int),([]:List Int))))) = zRM from rfl,b]; rfl
theorem Wzl (h:x.marks.length ≠ 0) (hl:x.marks.length ≤ 1000):Zdr N x.e = some ((),((x.last.1,(x.last.2.1,(x.last.2.2.1,x.last.2.2.2.1))),())):=by
 obtain ⟨a,b,c,d⟩:=Wjf h hl zRM
 unfold Zdr
 simp only [Wq]
 rw [show P15 x.e = x.marks from rfl,a]
 simp only [cond_true]
 rw [show ((0:Int),((0:Int),((0:Int),((0:Int),([]:List Int))))) = zRM from rfl,b]; rfl
theorem Wuq (hk:k < w.roots.length) (hxe:w.roots[k] = x) (hz:x.undos.length ≠ 0) (hl:x.undos.length ≤ 1000) (hu:∀ u ∈ x.undos,UnV u) (hs:ShOk w.shelf) (hN:1048576 < N) :
  Zci N w.e k = some (((Wo.put (Wsa w x) k).e,()),()):=by
 obtain ⟨g1,g2,g3,g4,g5⟩:=woG hk hxe
 obtain ⟨a,b,c,d⟩:=Wjf hz hl ((0,0,0):Un)
 have hmem:Woy x.undos ((0,0,0):Un) ∈ x.undos:=by
  unfold Woy; rw [Wm (show x.undos.length - 1 < x.undos.length by omega)]; exact List.getElem_mem _
 unfold Zci Wsa
 simp only [Wq]
 rw [show P5 w.e = w.roots.map Rt.e from rfl,g1]
 rw [show x.e.2.2.2.2.2.2.2.2.2.2.2.2.2.2.2.2.1 = x.undos from rfl,a,b,show w.e.2.2.2.1 = w.shelf from rfl,Wrg hs (hu _ hmem) hN,c]
 simp only [cond_true,Option.bind_some,d]
 exact finW rfl rfl rfl
theorem end_run (hk:k < w.roots.length) (hxe:w.roots[k] = x) (hk4:k ≤ 1000):Zgh N w.e (k:Int) = some (((Wo.put (rEnd w x k) k).e,()),()):=by
 obtain ⟨g1,g2,g3,g4,g5⟩:=woG hk hxe
 unfold Zgh rEnd
 simp only [Wq]
 rw [show P5 w.e = w.roots.map Rt.e from rfl,g4,g2,Wez (by omega),Int.toNat_natCast]
 simp only [cond_true,Ww]
 rw [show w.e.2.1 = w.token from rfl]
 by_cases h:w.token = (k:Int) + 1
 ·rw [if_pos h]; simp only [if_pos h]; exact finW rfl rfl rfl
 ·rw [if_neg h]; simp only [if_neg h]; exact finW rfl rfl rfl
theorem Wxe (hk:k < w.roots.length) (hxe:w.roots[k] = x) (hk4:k ≤ 8) (hh:HOk w.holds) (hrv:0 ≤ x.rv ∧ x.rv ≤ 1000000) (hr:Wcn x.reads = true) (hw:Wcn x.writes = true) {out:Int} (hN:1048576 < N) :
  Zgt N w.e (k:Int) out = some (((Wo.put (Wsq w x k out) k).e,()),()):=by
 obtain ⟨g1,g2,g3,g4,g5⟩:=woG hk hxe
 obtain ⟨r0,r1,r2,r3,r4,r5,r6,r7,r8,r11,r12,r13,r14,r15,r16,r18,r19,r20,r21,r24,r28,r29⟩:=rtP x
 have hhl:=Wvs hh
 have hen:∀ y:Rt,Zgh N (S5 (List.set (w.roots.map Rt.e) (Int.toNat (k:Int)) y.e) w.e) (k:Int) = some (((Wo.put (rEnd w y k) k).e,()),()):=fun y=>by
  rw [Int.toNat_natCast,S5e]
  have h1:k < ({ w with roots:=w.roots.set k y }:Wo).roots.length:=by simpa using hk
  rw [end_run (x:=y) h1 (by simp) (by omega)]
  unfold rEnd Wo.put
  simp only [List.set_set]
 unfold Zgt Wsq
 simp only [Wq]
 rw [show P5 w.e = w.roots.map Rt.e from rfl,g4,g2,Wez (by omega),show P4 w.e = w.holds from rfl]
 have hz0:∀ {α:Type} (a b:α),(bif ((0:Int) == (0:Int)) then a else b) = a:=fun _ _=>rfl
 have hz1:∀ {α:Type} (a b:α),(bif ((0:Nat) == (0:Nat)) then a else b) = a:=fun _ _=>rfl
 simp only [hz0,hz1]
 simp only [cond_true,Ww,r4,r13,r14,Wqf (who:=(k:Int) + 1) hh (by omega) hN,ret,Option.bind_some,ilen]
 have hcn:∀ rows,Wcn rows = true → Zej N ((k:Int) + 1) x.rv rows x.reads = some ((),((Wpt ((k:Int) + 1) x.rv rows x.reads).e,(true,()))):=fun rows hro=>new_run (by omega) hrv hro hr hN
 have hnil:Zej N ((k:Int) + 1) x.rv ([]:List (Int × Int)) x.reads = some ((),((Wpt ((k:Int) + 1) x.rv [] x.reads).e,(true,()))):=hcn [] rfl
 have hst:(S8 x.rv (S7 out x.e)) = Rt.e { x with fate:=out,stamp:=x.rv }:=rfl
 rw [hnil,hcn _ hw,hst,hen]
 simp only [Option.bind_some]
 by_cases ho:out = 2
 ·rw [if_pos ho,if_pos ho]
  by_cases hz:(Wqt w.holds ((k:Int) + 1)).length = 0
  ·rw [if_pos (by omega),if_pos ⟨rfl,hz⟩]
  ·rw [if_neg (by omega),if_neg (fun h=>hz h.2),Int.toNat_natCast]
   exact finW rfl rfl rfl
 ·rw [if_neg ho,if_neg ho]
  by_cases hy:x.writes.length = 0
  ·rw [if_pos (by omega)]
   by_cases hz:(Wqt w.holds ((k:Int) + 1)).length = 0
   ·rw [if_pos (by omega),if_pos ⟨hy,hz⟩]
   ·rw [if_neg (by omega),if_neg (fun h=>hz h.2),Int.toNat_natCast]
    exact finW rfl rfl rfl
  ·rw [if_neg (by omega),if_neg (fun h=>hy h.1),Int.toNat_natCast]
   exact finW rfl rfl rfl
theorem Wzb {l:List Rw} (h:Rows l) (hl:l.length ≤ 300):Wcn l = true:=by
 unfold Wcn; rw [Wvz.2 h,decide_eq_true hl]; rfl
theorem frk_le1 (hc:CC code):∀ j,j ≤ code.length → frk code j ≤ 1
 | 0,_=>by simp [frk]
 | j + 1,h=>by
  have hj:j < code.length:=by omega
  by_cases h11:code[j].1 = 11
  ·exact (hc.fk j hj h11).2
  ·rw [Wpk hj,show (code[j].1 == 11) = false by simpa using h11]
   have:=frk_le1 hc j (by omega)
   simpa using this
theorem RLive.sz (hc:CC p.1) (h:RLive p n x):x.reads.length ≤ 96 ∧ x.writes.length ≤ 32 ∧ x.undos.length ≤ 24 ∧ x.marks.length ≤ 24 ∧ Wcn x.reads = true ∧ Wcn x.writes = true:=by
 have h1:=h.pc
 have h2:=hc.len
 have h3:=frk_le1 hc x.pc.toNat (by omega)
 have h4:=h.rl
 have h5:=h.wl
 have h6:=h.ul
 have h7:=congrArg List.length h.marks.pcs
 simp only [List.length_map] at h7
 have h8:=Wdf hc.up x.pc.toNat (by omega)
 have h9:=(Wgo p.1 x.pc.toNat).2
 exact ⟨by omega,by omega,by omega,by omega,Wzb h.reads (by omega),Wzb h.writes (by omega)⟩
theorem pbIf_ok (hb:x.busy = true → pbOk x.pb = true) {c:Int} (hc:0 ≤ c ∧ c ≤ 7):pbOk (if x.busy then x.pb else (c,0,0,0)) = true:=by
 split
 ·exact hb ‹_›
 ·rw [Wka]; simp only; omega
theorem read_run (hk:k < w.roots.length) (hxe:w.roots[k] = x) (hc:CC p.1) (hx:RLive p n x) (hm:Wbi w.mem = true) (h5:o.1 = 5) (ho:opOk o = true) (hN:1048576 < N) :
  Ziy N w.e k o = some (((Wo.put (w,rRead w x o) k).e,()),()):=by
 obtain ⟨g1,g2,g3,g4,g5⟩:=woG hk hxe
 obtain ⟨r0,r1,r2,r3,r4,r5,r6,r7,r8,r11,r12,r13,r14,r15,r16,r18,r19,r20,r21,r24,r28,r29⟩:=rtP x
 obtain ⟨z1,z2,z3,z4,z5,z6⟩:=hx.sz hc
 obtain ⟨hA,hB⟩:=ok_5 ho h5
 have hB':0 ≤ o.2.2.1 ∧ o.2.2.1 ≤ 7:=by unfold Way at hB; simpa using hB
 have hrl:=hx.regs.len
 have hpc:=hx.pc
 have hcl:=hc.len
 have hsp:=hx.spare
 unfold Ziy rRead
 simp only [Wq]
 rw [show P5 w.e = w.roots.map Rt.e from rfl,g1,show w.e.2.2.1 = w.mem from rfl]
 simp only [r3,r4,r12,r13,r14,r18,r19]
 rw [Wjg (by omega) hN,Wcg hA hrl,Wez (by omega)]
 cases hl:Wfe x.writes o.2.2.1 with
 | some v =>
  simp only [opI,Option.bind_some,cond_true]
  exact finW rfl rfl rfl
 | none =>
  have hroom:room (x.reads.length + [(o.2.2.1,(0:Int))].length) = true:=Ws (by simp; omega)
  have hpn:Zfi N o.2.2.1 = some ((),((o.2.2.1,0,0,0),(true,()))):=by
   unfold Zfi; rw [Wj,hB]; rfl
  have hpb:=pbIf_ok hx.pb hB'
  have hbusy:S18 true x.e = Rt.e { x with busy:=true }:=rfl
  simp only [opI,Option.bind_some,cond_false,Ww,hpn,hbusy]
  have hset:∀ q:Pb,S19 q (Rt.e { x with busy:=true }) = Rt.e { x with busy:=true,pb:=q }:=fun q=>rfl
  simp only [hset,Wii (x:={ x with busy:=true,pb:=_ }) hsp]
  cases hb:x.busy with
  | false =>
   rw [hb] at hpb
   simp only [Bool.false_eq_true,if_false] at hpb
   rw [Wjw hm hpb hN]
   simp only [Bool.not_false,cond_true,ret,Option.bind_some,Bool.false_eq_true,if_false]
   generalize Wcs w.mem x.rv (o.2.2.1,0,0,0) = q
   by_cases h4:q.2.1 = 4
   ·rw [if_pos h4,if_pos h4]; exact finW rfl rfl rfl
   ·rw [if_neg h4,if_neg h4]
    by_cases h3:q.2.1 = 3
    ·rw [if_pos h3,if_pos h3,Ws (by simp; omega)]; exact finW rfl rfl rfl
    ·rw [if_neg h3,if_neg h3]; exact finW rfl rfl rfl
  | true =>
   have hsame:∀ q:Pb,S19 q x.e = Rt.e { x with busy:=true,pb:=q }:=fun q=>by
    have:S19 q x.e = Rt.e { x with pb:=q }:=rfl
    rw [this]
    conv=>lhs; rw [show ({ x with pb:=q }:Rt) = { x with busy:=x.busy,pb:=q } from rfl,hb]
   rw [hb] at hpb
   simp only [if_true] at hpb
   rw [Wjw hm hpb hN]
   simp only [Bool.not_true,cond_false,ret,Option.bind_some,if_true,hsame,Wii (x:={ x with busy:=true,pb:=_ }) hsp]
   generalize Wcs w.mem x.rv x.pb = q
   by_cases h4:q.2.1 = 4
   ·rw [if_pos h4,if_pos h4]; exact finW rfl rfl rfl
   ·rw [if_neg h4,if_neg h4]
    by_cases h3:q.2.1 = 3
    ·rw [if_pos h3,if_pos h3,Ws (by simp; omega)]; exact finW rfl rfl rfl
    ·rw [if_neg h3,if_neg h3]; exact finW rfl rfl rfl
end Go.Sx
