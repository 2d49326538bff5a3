/- Plain laws of the Lean functions. -/
import Derived.Test.YtfajigbmoebkaaaGreatMW1Rt

namespace Go.Sx
set_option linter.unusedVariables false
set_option linter.unusedSimpArgs false
theorem rtP (x:Rt):x.e.1 = x.phase ∧ x.e.2.1 = x.tries ∧ x.e.2.2.1 = x.spare ∧ x.e.2.2.2.1 = x.pc ∧ P4 x.e = x.rv ∧ P5 x.e = x.newRv ∧ P6 x.e = x.pos ∧ P7 x.e = x.fate ∧ P8 x.e = x.stamp ∧ P11 x.e = x.doomed ∧ P12 x.e = x.regs ∧ P13 x.e = x.reads ∧ P14 x.e = x.writes ∧ P15 x.e = x.marks ∧ P16 x.e = x.undos ∧ P18 x.e = x.busy ∧ P19 x.e = x.pb ∧ P20 x.e = x.cm.e ∧ Q21 x.e = x.fam.e ∧ P24 x.e = x.fam.lost ∧ P28 x.e = x.fam.order ∧ P29 x.e = x.fam.reads :=
 ⟨rfl,rfl,rfl,rfl,rfl,rfl,rfl,rfl,rfl,rfl,rfl,rfl,rfl,rfl,rfl,rfl,rfl,rfl,rfl,rfl,rfl,rfl⟩
theorem S5e (w:Wo) (k:Nat) (x:Rt):S5 (List.set (w.roots.map Rt.e) k x.e) w.e = Wo.e { w with roots:=w.roots.set k x }:=by
 unfold S5 Wo.e; rw [List.map_set]
theorem finW {w w':Wo} {k:Nat} {x':Rt} {y:Y_Root} {g:Y_World} (hy:y = x'.e) (hg:g = w'.e) (hr:w'.roots = w.roots) :
  some ((S5 (List.set (w.roots.map Rt.e) k y) g,()),()) = some (((Wo.put (w',x') k).e,()),()):=by
 subst hy hg
 rw [← hr,S5e]; rfl
variable {N:Nat} {w:Wo} {k:Nat} {x:Rt} {o:Opn} {p:Pg} {n:Int} {code:List Opn}
theorem woG (hk:k < w.roots.length) (hxe:w.roots[k] = x):List.getD (w.roots.map Rt.e) k d_Root = x.e ∧ List.getD (w.roots.map Rt.e) (Int.toNat (k:Int)) d_Root = x.e ∧ S5 (List.set (w.roots.map Rt.e) (Int.toNat (k:Int)) x.e) w.e = w.e ∧ inb (k:Int) (w.roots.map Rt.e).length = true ∧ S5 (List.set (w.roots.map Rt.e) k x.e) w.e = w.e:=by
 have h1:List.getD (w.roots.map Rt.e) k d_Root = x.e:=by
  have:=Wlr Rt.e w.roots k {}
  rw [Wae hk,hxe] at this
  exact this
 have h2:S5 (List.set (w.roots.map Rt.e) k x.e) w.e = w.e:=by rw [S5e,← hxe,List.set_getElem_self]
 rw [Int.toNat_natCast]
 refine ⟨h1,h1,h2,?_,h2⟩
 rw [Waq,List.length_map]
 exact decide_eq_true hk
theorem put_self (hk:k < w.roots.length) (hxe:w.roots[k] = x):Wo.put (w,x) k = w:=by
 unfold Wo.put; simp only; rw [← hxe,List.set_getElem_self]
theorem Wjr:Zba N x.e = some (((Wow x).e,()),()):=rfl
theorem Wjh (hs:0 ≤ x.spare ∧ x.spare ≤ 2):Zc7 N x.e = some (((Wdb x).e,()),()):=by
 obtain ⟨r0,r1,r2,r3,r4,r5,r6,r7,r8,r11,r12,r13,r14,r15,r16,r18,r19,r20,r21,r24,r28,r29⟩:=rtP x
 unfold Zc7 Wdb
 simp only [Ws,r15,r2,ilen,Wjr,Option.bind_some]
 by_cases h1:x.marks.length = 0
 ·rw [if_pos (by omega),if_pos (.inl h1)]
 ·rw [if_neg (by omega)]
  by_cases h2:x.spare = 2
  ·rw [if_pos h2,if_pos (.inr h2)]
  ·rw [if_neg h2,if_neg (by omega),Wx (by unfold I64; omega)]; rfl
theorem Wil {α:Type} {l:List α} (h:l.length ≠ 0) (hl:l.length ≤ 1000) (d:α):inb (isub .i64 (ilen l) 1) l.length = true ∧ List.getD l (Int.toNat (isub .i64 (ilen l) 1)) d = Woy l d ∧ List.take (Int.toNat (isub .i64 (ilen l) 1)) l = l.dropLast ∧ (decide ((0:Int) ≤ isub .i64 (ilen l) 1) && decide (isub .i64 (ilen l) 1 ≤ (l.length:Int))) = true:=by
 have e:isub .i64 (ilen l) 1 = ((l.length - 1:Nat):Int):=by rw [len_m1 (by omega)]; omega
 rw [e]
 refine ⟨by rw [Waq]; exact decide_eq_true (by omega),by rw [Int.toNat_natCast]; rfl,by rw [Int.toNat_natCast,List.dropLast_eq_take],by simp⟩
theorem last_run (h:x.marks.length ≠ 0) (hl:x.marks.length ≤ 1000):Zhk N x.e = some ((x.e,()),(x.last,())):=by
 obtain ⟨a,b,c,d⟩:=Wil h hl zRM
 unfold Zhk
 rw [show x.e.2.2.2.2.2.2.2.2.2.2.2.2.2.2.2.1 = x.marks from rfl,a]
 simp only [cond_true]
 rw [show ((0:Int),((0:Int),((0:Int),((0:Int),([]:List Int))))) = zRM from rfl,b]; rfl
theorem lastj_run (h:x.marks.length ≠ 0) (hl:x.marks.length ≤ 1000):Zdu N x.e = some ((),((x.last.1,(x.last.2.1,(x.last.2.2.1,x.last.2.2.2.1))),())):=by
 obtain ⟨a,b,c,d⟩:=Wil h hl zRM
 unfold Zdu
 simp only [Wp]
 rw [show P15 x.e = x.marks from rfl,a]
 simp only [cond_true]
 rw [show ((0:Int),((0:Int),((0:Int),((0:Int),([]:List Int))))) = zRM from rfl,b]; rfl
theorem Wvt (hk:k < w.roots.length) (hxe:w.roots[k] = x) (hz:x.undos.length ≠ 0) (hl:x.undos.length ≤ 1000) (hu:∀ u ∈ x.undos,UnV u) (hs:ShOk w.shelf) (hN:1048576 < N) :
  Zch N w.e k = some (((Wo.put (Wmy w x) k).e,()),()):=by
 obtain ⟨g1,g2,g3,g4,g5⟩:=woG hk hxe
 obtain ⟨a,b,c,d⟩:=Wil hz hl ((0,0,0):Un)
 have hmem:Woy x.undos ((0,0,0):Un) ∈ x.undos:=by
  unfold Woy; rw [Wae (show x.undos.length - 1 < x.undos.length by omega)]; exact List.getElem_mem _
 unfold Zch Wmy
 simp only [Wp]
 rw [show P5 w.e = w.roots.map Rt.e from rfl,g1]
 rw [show x.e.2.2.2.2.2.2.2.2.2.2.2.2.2.2.2.2.1 = x.undos from rfl,a,b,show w.e.2.2.2.1 = w.shelf from rfl,Wpz hs (hu _ hmem) hN,c]
 simp only [cond_true,Option.bind_some,d]
 exact finW rfl rfl rfl
theorem end_run (hk:k < w.roots.length) (hxe:w.roots[k] = x) (hk4:k ≤ 1000):Zgi N w.e (k:Int) = some (((Wo.put (rEnd w x k) k).e,()),()):=by
 obtain ⟨g1,g2,g3,g4,g5⟩:=woG hk hxe
 unfold Zgi rEnd
 simp only [Wp]
 rw [show P5 w.e = w.roots.map Rt.e from rfl,g4,g2,Wfe (by omega),Int.toNat_natCast]
 simp only [cond_true,Ws]
 rw [show w.e.2.1 = w.token from rfl]
 by_cases h:w.token = (k:Int) + 1
 ·rw [if_pos h]; simp only [if_pos h]; exact finW rfl rfl rfl
 ·rw [if_neg h]; simp only [if_neg h]; exact finW rfl rfl rfl
theorem Wyb (hk:k < w.roots.length) (hxe:w.roots[k] = x) (hk4:k ≤ 8) (hh:HOk w.holds) (hrv:0 ≤ x.rv ∧ x.rv ≤ 1000000) (hr:Wco x.reads = true) (hw:Wco x.writes = true) {out:Int} (hN:1048576 < N) :
  Zgr N w.e (k:Int) out = some (((Wo.put (Woo w x k out) k).e,()),()):=by
 obtain ⟨g1,g2,g3,g4,g5⟩:=woG hk hxe
 obtain ⟨r0,r1,r2,r3,r4,r5,r6,r7,r8,r11,r12,r13,r14,r15,r16,r18,r19,r20,r21,r24,r28,r29⟩:=rtP x
 have hhl:=Wwo hh
 have hen:∀ y:Rt,Zgi N (S5 (List.set (w.roots.map Rt.e) (Int.toNat (k:Int)) y.e) w.e) (k:Int) = some (((Wo.put (rEnd w y k) k).e,()),()):=fun y=>by
  rw [Int.toNat_natCast,S5e]
  have h1:k < ({ w with roots:=w.roots.set k y }:Wo).roots.length:=by simpa using hk
  rw [end_run (x:=y) h1 (by simp) (by omega)]
  unfold rEnd Wo.put
  simp only [List.set_set]
 unfold Zgr Woo
 simp only [Wp]
 rw [show P5 w.e = w.roots.map Rt.e from rfl,g4,g2,Wfe (by omega),show P4 w.e = w.holds from rfl]
 have hz0:∀ {α:Type} (a b:α),(bif ((0:Int) == (0:Int)) then a else b) = a:=fun _ _=>rfl
 have hz1:∀ {α:Type} (a b:α),(bif ((0:Nat) == (0:Nat)) then a else b) = a:=fun _ _=>rfl
 simp only [hz0,hz1]
 simp only [cond_true,Ws,r4,r13,r14,Wqn (who:=(k:Int) + 1) hh (by omega) hN,ret,Option.bind_some,ilen]
 have hcn:∀ rows,Wco rows = true → Zem N ((k:Int) + 1) x.rv rows x.reads = some ((),((Wqx ((k:Int) + 1) x.rv rows x.reads).e,(true,()))):=fun rows hro=>new_run (by omega) hrv hro hr hN
 have hnil:Zem N ((k:Int) + 1) x.rv ([]:List (Int × Int)) x.reads = some ((),((Wqx ((k:Int) + 1) x.rv [] x.reads).e,(true,()))):=hcn [] rfl
 have hst:(S8 x.rv (S7 out x.e)) = Rt.e { x with fate:=out,stamp:=x.rv }:=rfl
 rw [hnil,hcn _ hw,hst,hen]
 simp only [Option.bind_some]
 by_cases ho:out = 2
 ·rw [if_pos ho,if_pos ho]
  by_cases hz:(Wrl w.holds ((k:Int) + 1)).length = 0
  ·rw [if_pos (by omega),if_pos ⟨rfl,hz⟩]
  ·rw [if_neg (by omega),if_neg (fun h=>hz h.2),Int.toNat_natCast]
   exact finW rfl rfl rfl
 ·rw [if_neg ho,if_neg ho]
  by_cases hy:x.writes.length = 0
  ·rw [if_pos (by omega)]
   by_cases hz:(Wrl w.holds ((k:Int) + 1)).length = 0
   ·rw [if_pos (by omega),if_pos ⟨hy,hz⟩]
   ·rw [if_neg (by omega),if_neg (fun h=>hz h.2),Int.toNat_natCast]
    exact finW rfl rfl rfl
  ·rw [if_neg (by omega),if_neg (fun h=>hy h.1),Int.toNat_natCast]
   exact finW rfl rfl rfl
theorem rowsOk_of {l:List Rw} (h:Rows l) (hl:l.length ≤ 300):Wco l = true:=by
 unfold Wco; rw [Wvw.2 h,decide_eq_true hl]; rfl
theorem frk_le1 (hc:CC code):∀ j,j ≤ code.length → frk code j ≤ 1
 | 0,_=>by simp [frk]
 | j + 1,h=>by
  have hj:j < code.length:=by omega
  by_cases h11:code[j].1 = 11
  ·exact (hc.fk j hj h11).2
  ·rw [Wpk hj,show (code[j].1 == 11) = false by simpa using h11]
   have:=frk_le1 hc j (by omega)
   simpa using this
theorem RLive.sz (hc:CC p.1) (h:RLive p n x):x.reads.length ≤ 96 ∧ x.writes.length ≤ 32 ∧ x.undos.length ≤ 24 ∧ x.marks.length ≤ 24 ∧ Wco x.reads = true ∧ Wco x.writes = true:=by
 have h1:=h.pc
 have h2:=hc.len
 have h3:=frk_le1 hc x.pc.toNat (by omega)
 have h4:=h.rl
 have h5:=h.wl
 have h6:=h.ul
 have h7:=congrArg List.length h.marks.pcs
 simp only [List.length_map] at h7
 have h8:=Wde hc.up x.pc.toNat (by omega)
 have h9:=(Wgr p.1 x.pc.toNat).2
 exact ⟨by omega,by omega,by omega,by omega,rowsOk_of h.reads (by omega),rowsOk_of h.writes (by omega)⟩
theorem pbIf_ok (hb:x.busy = true → pbOk x.pb = true) {c:Int} (hc:0 ≤ c ∧ c ≤ 7):pbOk (if x.busy then x.pb else (c,0,0,0)) = true:=by
 split
 ·exact hb ‹_›
 ·rw [Wkb]; simp only; omega
theorem read_run (hk:k < w.roots.length) (hxe:w.roots[k] = x) (hc:CC p.1) (hx:RLive p n x) (hm:Wbi w.mem = true) (h5:o.1 = 5) (ho:opOk o = true) (hN:1048576 < N) :
  Zip N w.e k o = some (((Wo.put (w,Wum w x o) k).e,()),()):=by
 obtain ⟨g1,g2,g3,g4,g5⟩:=woG hk hxe
 obtain ⟨r0,r1,r2,r3,r4,r5,r6,r7,r8,r11,r12,r13,r14,r15,r16,r18,r19,r20,r21,r24,r28,r29⟩:=rtP x
 obtain ⟨z1,z2,z3,z4,z5,z6⟩:=hx.sz hc
 obtain ⟨hA,hB⟩:=ok_5 ho h5
 have hB':0 ≤ o.2.2.1 ∧ o.2.2.1 ≤ 7:=by unfold Way at hB; simpa using hB
 have hrl:=hx.regs.len
 have hpc:=hx.pc
 have hcl:=hc.len
 have hsp:=hx.spare
 unfold Zip Wum
 simp only [Wp]
 rw [show P5 w.e = w.roots.map Rt.e from rfl,g1,show w.e.2.2.1 = w.mem from rfl]
 simp only [r3,r4,r12,r13,r14,r18,r19]
 rw [Wis (by omega) hN,Wcf hA hrl,Wfe (by omega)]
 cases hl:Wey x.writes o.2.2.1 with
 | some v =>
  simp only [opI,Option.bind_some,cond_true]
  exact finW rfl rfl rfl
 | none =>
  have hroom:room (x.reads.length + [(o.2.2.1,(0:Int))].length) = true:=Ww (by simp; omega)
  have hpn:Zfj N o.2.2.1 = some ((),((o.2.2.1,0,0,0),(true,()))):=by
   unfold Zfj; rw [Wj,hB]; rfl
  have hpb:=pbIf_ok hx.pb hB'
  have hbusy:S18 true x.e = Rt.e { x with busy:=true }:=rfl
  simp only [opI,Option.bind_some,cond_false,Ws,hpn,hbusy]
  have hset:∀ q:Pb,S19 q (Rt.e { x with busy:=true }) = Rt.e { x with busy:=true,pb:=q }:=fun q=>rfl
  simp only [hset,Wjh (x:={ x with busy:=true,pb:=_ }) hsp]
  cases hb:x.busy with
  | false =>
   rw [hb] at hpb
   simp only [Bool.false_eq_true,if_false] at hpb
   rw [Wjx hm hpb hN]
   simp only [Bool.not_false,cond_true,ret,Option.bind_some,Bool.false_eq_true,if_false]
   generalize Wcp w.mem x.rv (o.2.2.1,0,0,0) = q
   by_cases h4:q.2.1 = 4
   ·rw [if_pos h4,if_pos h4]; exact finW rfl rfl rfl
   ·rw [if_neg h4,if_neg h4]
    by_cases h3:q.2.1 = 3
    ·rw [if_pos h3,if_pos h3,Ww (by simp; omega)]; exact finW rfl rfl rfl
    ·rw [if_neg h3,if_neg h3]; exact finW rfl rfl rfl
  | true =>
   have hsame:∀ q:Pb,S19 q x.e = Rt.e { x with busy:=true,pb:=q }:=fun q=>by
    have:S19 q x.e = Rt.e { x with pb:=q }:=rfl
    rw [this]
    conv=>lhs; rw [show ({ x with pb:=q }:Rt) = { x with busy:=x.busy,pb:=q } from rfl,hb]
   rw [hb] at hpb
   simp only [if_true] at hpb
   rw [Wjx hm hpb hN]
   simp only [Bool.not_true,cond_false,ret,Option.bind_some,if_true,hsame,Wjh (x:={ x with busy:=true,pb:=_ }) hsp]
   generalize Wcp w.mem x.rv x.pb = q
   by_cases h4:q.2.1 = 4
   ·rw [if_pos h4,if_pos h4]; exact finW rfl rfl rfl
   ·rw [if_neg h4,if_neg h4]
    by_cases h3:q.2.1 = 3
    ·rw [if_pos h3,if_pos h3,Ww (by simp; omega)]; exact finW rfl rfl rfl
    ·rw [if_neg h3,if_neg h3]; exact finW rfl rfl rfl
end Go.Sx
