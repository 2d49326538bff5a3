/- Plain laws of the Lean functions. -/
import Derived.Test.YtfajigbmoebkaaaGreatMW1RtS

namespace Go.Sx
set_option linter.unusedVariables false
set_option linter.unusedSimpArgs false
section
variable {code:List Opn} {pc pc' rl wl ul rl' wl' ul':Nat} {ms q:List RM} {y:RM} {n n':Int} {x:Rt} {w:Wo} {p:Pg} {k:Nat} {o:Opn}
theorem frk_mono (code:List Opn) {a b:Nat} (h:a ≤ b):frk code a ≤ frk code b:=by
 unfold frk
 exact List.Sublist.countP_le (List.take_sublist_take_left h)
theorem RMk.mono (h:RMk code pc ms rl wl ul) (hs:stk code pc' = stk code pc) (h1:rl ≤ rl') (h2:wl ≤ wl') (h3:ul ≤ ul'):RMk code pc' ms rl' wl' ul' :=
 ⟨by rw [hs]; exact h.pcs,fun q hq=>by obtain ⟨a,b,c,d⟩:=h.each q hq; exact ⟨a,by omega,by omega,by omega⟩,h.up⟩
theorem RMk.cut (h:RMk code pc ms rl wl ul) (hms:ms = q ++ [y]) (h1:y.2.1 ≤ rl') (h2:y.2.2.1 ≤ wl') (h3:y.2.2.2.1 ≤ ul'):RMk code pc ms rl' wl' ul':=by
 refine ⟨h.pcs,fun a ha=>?_,h.up⟩
 obtain ⟨c1,c2,c3,c4⟩:=h.each a ha
 have hle:a.2.1 ≤ y.2.1 ∧ a.2.2.1 ≤ y.2.2.1 ∧ a.2.2.2.1 ≤ y.2.2.2.1:=by
  have hu:=h.up
  rw [hms] at ha hu
  rcases List.mem_append.1 ha with ha | ha
  ·exact (List.pairwise_append.1 hu).2.2 a ha y (by simp)
  ·rw [List.mem_singleton] at ha; subst ha; omega
 exact ⟨c1,by omega,by omega,by omega⟩
theorem RMk.begin (h:RMk code pc ms rl wl ul) (hp:pc < code.length) (h8:code[pc].1 = 8) {regs:List Int} (hr:Vals 4 regs) (h1:rl ≤ pc + 72 * frk code pc) (h2:wl ≤ pc + 8) (h3:ul ≤ pc) :
  RMk code (pc + 1) (ms ++ [((pc:Int),(rl:Int),(wl:Int),(ul:Int),regs)]) rl wl ul:=by
 refine ⟨?_,?_,?_⟩
 ·rw [Wrs hp h8,List.map_append,List.map_append,h.pcs]; rfl
 ·intro q hq
  rcases List.mem_append.1 hq with hq | hq
  ·exact h.each q hq
  ·rw [List.mem_singleton] at hq; subst hq
   refine ⟨hr,?_,?_,?_⟩
   ·simp only [Int.toNat_natCast]; omega
   ·simp only; omega
   ·simp only; omega
 ·refine List.pairwise_append.2 ⟨h.up,List.pairwise_singleton _ _,fun a ha b hb=>?_⟩
  rw [List.mem_singleton] at hb; subst hb
  obtain ⟨c1,c2,c3,c4⟩:=h.each a ha
  exact ⟨c2.2.2,c3.2.2,c4.2.2⟩
theorem RMk.drop (h:RMk code pc ms rl wl ul) (hms:ms = q ++ [y]) (hs:stk code pc' = (stk code pc).dropLast) (h1:y.2.1 ≤ rl') (h2:y.2.2.1 ≤ wl') (h3:y.2.2.2.1 ≤ ul'):RMk code pc' q rl' wl' ul':=by
 have h':=h.cut hms h1 h2 h3
 subst hms
 have e:=h.pcs
 refine ⟨?_,fun a ha=>h'.each a (List.mem_append_left _ ha),(List.pairwise_append.1 h.up).1⟩
 rw [hs,List.map_dropLast,← e,List.map_append]; simp
theorem RLive.wk (h:RLive p n x) (hn:n ≤ n'):RLive p n' x:={ h with fork:=fun h2=>by obtain ⟨a,b,c⟩:=h.fork h2; exact ⟨a,b,c.wk hn⟩ }
theorem ROk.wk (h:ROk p n x) (hn:n ≤ n'):ROk p n' x:={ h with tries:=by have:=h.tries; omega,live:=fun hl=>(h.live hl).wk hn }
theorem RLive.on (hcc:CC p.1) (h:RLive p n x) (h1:x.phase = 1) {i:Nat} (hi:i < p.1.length) (hpc:x.pc = i) {regs:List Int} {reads writes:List Rw} {marks:List RM} {undos:List Un} {busy:Bool} {pb:Pb} {pc':Nat}
  (hp:pc' ≤ p.1.length) (hlt:i < pc') (hr:Vals 4 regs) (hrd:Rows reads) (hrl:reads.length ≤ x.reads.length + 1) (hwr:Rows writes) (hwl:writes.length ≤ x.writes.length + 1) (hul:undos.length ≤ x.undos.length + 1) (hm:RMk p.1 pc' marks reads.length writes.length undos.length) (hb:busy = true → pbOk pb = true) :
  RLive p n { x with regs:=regs,reads:=reads,writes:=writes,marks:=marks,undos:=undos,busy:=busy,pb:=pb,pc:=(pc':Int) } where
 pc:=by show (0:Int) ≤ (pc':Int) ∧ (pc':Int) ≤ _; omega
 spare:=h.spare
 rv:=h.rv
 regs:=hr
 reads:=hrd
 rl:=by
  have h2:=h.rl
  have h3:=frk_mono p.1 (show i ≤ pc' by omega)
  rw [hpc,Int.toNat_natCast] at h2
  show (reads.length:Int) ≤ (pc':Int) + 72 * (frk p.1 ((pc':Nat):Int).toNat:Int)
  rw [Int.toNat_natCast]; omega
 writes:=hwr
 wl:=by have:=h.wl; show (writes.length:Int) ≤ (pc':Int) + 8; omega
 ul:=by have:=h.ul; show (undos.length:Int) ≤ (pc':Int); omega
 marks:=by show RMk p.1 ((pc':Nat):Int).toNat _ _ _ _; rw [Int.toNat_natCast]; exact hm
 pb:=hb
 fork:=fun h2=>by (change x.phase = 2 at h2; omega)
 back:=fun h2=>by (change x.phase = 3 ∨ x.phase = 4 at h2; omega)
 newRv:=h.newRv
 pos:=fun h2=>by (change x.phase = 4 at h2; omega)
 unw:=fun h2=>by (change x.phase = 4 at h2; omega)
theorem Vals.le4 {r:List Int} (h:Vals 4 r):r.length ≤ 4:=Nat.le_of_eq h.len
theorem Wjo (h:ROk p n x):ROk p n (Wup x) where
 phase:=by show (0:Int) ≤ 6 ∧ (6:Int) ≤ 8; omega
 tries:=h.tries
 live:=fun h=>by (change (1:Int) ≤ 6 ∧ (6:Int) ≤ 4 at h; omega)
 comm:=fun h=>by (change (6:Int) = 5 at h; omega)
 undos:=h.undos
 ul:=h.ul
 rg:=by show ([]:List Int).length ≤ 4; simp
 ord:=by show ([]:List Int).length ≤ 3; simp
theorem Woc (h:ROk p n x) (hl:RLive p n x):ROk p n (Wgk x):=by
 unfold Wgk
 split
 ·exact Wjo h
 ·rename_i hc
  exact { h with
   phase:=by show (0:Int) ≤ 3 ∧ (3:Int) ≤ 8; omega
   live:=fun _=>{ hl with
    spare:=by have:=hl.spare; show 0 ≤ x.spare + 1 ∧ x.spare + 1 ≤ 2; omega
    pb:=fun h=>by cases h
    fork:=fun h=>by (change (3:Int) = 2 at h; omega)
    back:=fun _=>by show x.marks.length ≠ 0; omega
    pos:=fun h=>by (change (3:Int) = 4 at h; omega)
    unw:=fun h=>by (change (3:Int) = 4 at h; omega) }
   comm:=fun h=>by (change (3:Int) = 5 at h; omega) }
structure QOk (p:Pg) (n:Int) (w:Wo) (q:Wo × Rt):Prop where
 root:ROk p n q.2
 mem:Wbi q.1.mem = true
 shelf:ShOk q.1.shelf
 holds:HOk q.1.holds
 hist:q.1.hist.length ≤ w.hist.length + 1
 histE:∀ h ∈ q.1.hist,h ∈ w.hist ∨ HE h
 roots:q.1.roots = w.roots
 now:q.1.now = w.now
structure GOk (w:Wo):Prop where
 mem:Wbi w.mem = true
 shelf:ShOk w.shelf
 holds:HOk w.holds
theorem GOk.st (h:GOk w) {y:Rt} (hy:ROk p n y):QOk p n w (w,y):=⟨hy,h.mem,h.shelf,h.holds,by simp,fun _ hh=>.inl hh,rfl,rfl⟩
theorem GOk.qt (h:GOk w) {y:Rt} (hy:ROk p n y) (t:Int):QOk p n w ({ w with token:=t },y):=⟨hy,h.mem,h.shelf,h.holds,by simp,fun _ hh=>.inl hh,rfl,rfl⟩
theorem rEnd_ok (h:GOk w) (hx:ROk p n x):QOk p n w (rEnd w x k):=by
 unfold rEnd
 refine h.qt ?_ _
 exact { hx with
  phase:=by show (0:Int) ≤ 8 ∧ (8:Int) ≤ 8; omega
  live:=fun h=>by (change (1:Int) ≤ 8 ∧ (8:Int) ≤ 4 at h; omega)
  comm:=fun h=>by (change (8:Int) = 5 at h; omega)
  undos:=fun u hu=>by cases hu
  ul:=by simp }
theorem Wzr (h:GOk w) (hx:ROk p n x) (hrv:0 ≤ x.rv ∧ x.rv ≤ 1000000) (hk:k ≤ 8) {out:Int}:QOk p n w (Wsq w x k out):=by
 unfold Wsq
 simp only
 generalize (if out = 2 then [] else x.writes) = rows
 split
 ·exact rEnd_ok (x:={ x with fate:=out,stamp:=x.rv }) h
   { phase:=hx.phase,tries:=hx.tries,live:=fun hh=>{ hx.live hh with },comm:=hx.comm,undos:=hx.undos,ul:=hx.ul,rg:=hx.rg,ord:=hx.ord }
 ·refine h.st ?_
  exact { hx with
   phase:=by show (0:Int) ≤ 5 ∧ (5:Int) ≤ 8; omega
   live:=fun h=>by (change (1:Int) ≤ 5 ∧ (5:Int) ≤ 4 at h; omega)
   comm:=fun _=>cmNew_ok (by omega) hrv }
theorem lastD_mem {α:Type} {l:List α} (h:l.length ≠ 0) (d:α):Woy l d ∈ l:=by
 unfold Woy; rw [Wm (show l.length - 1 < l.length by omega)]; exact List.getElem_mem _
theorem Wwz (h:GOk w) (hx:ROk p n x) (hz:x.undos.length ≠ 0) (hcc:1 ≤ x.phase ∧ x.phase ≤ 4 → CC p.1 ∧ (x.marks.length ≠ 0 → x.last.2.2.2.1 < x.undos.length)):QOk p n w (Wsa w x):=by
 unfold Wsa
 refine ⟨?_,h.mem,undoOne_ok h.shelf (hx.undos _ (lastD_mem hz _)),h.holds,by simp,fun _ hh=>.inl hh,rfl,rfl⟩
 have hdl:x.undos.dropLast.length = x.undos.length - 1:=List.length_dropLast
 exact { hx with
  live:=fun hh=>by
   have hl:=hx.live hh
   obtain ⟨c1,c2⟩:=hcc hh
   exact { hl with
    ul:=by have:=hl.ul; show (x.undos.dropLast.length:Int) ≤ x.pc; omega
    unw:=fun h4=>by have:=hl.unw h4; show (x.undos.dropLast.length:Int) ≤ x.last.2.2.2.1; omega
    marks:=by
     show RMk p.1 x.pc.toNat x.marks x.reads.length x.writes.length x.undos.dropLast.length
     by_cases hm:x.marks.length = 0
     ·have:x.marks = []:=List.eq_nil_of_length_eq_zero hm
      have hM:=hl.marks
      rw [this] at hM ⊢
      exact ⟨hM.pcs,(fun q hq=>by cases hq),hM.up⟩
     ·obtain ⟨m,q,e1,e2,⟨hm',hm8⟩,e4,e5,e6,e7,e8,e9,e10,e11,e12,e13,e14⟩:=hl.mk24 c1 hm
      have:=c2 hm
      exact hl.marks.cut e1 e10.2.2 e11.2.2 (by omega) }
  undos:=fun u hu=>hx.undos u (by rw [List.dropLast_eq_take] at hu; exact List.mem_of_mem_take hu)
  ul:=by have:=hx.ul; show x.undos.dropLast.length ≤ 24; omega }
theorem rRead_ok (hcc:CC p.1) (h:GOk w) (hx:ROk p n x) (hl:RLive p n x) (h1:x.phase = 1) {i:Nat} (hi:i < p.1.length) (hpc:x.pc = i) (h5:p.1[i].1 = 5):ROk p n (rRead w x p.1[i]):=by
 have hok:=ok_5 (hcc.ok i hi).1 h5
 have hB:0 ≤ p.1[i].2.2.1 ∧ p.1[i].2.2.1 ≤ 7:=by have:=hok.2; unfold Way at this; simpa using this
 have hM:=hl.marks
 rw [hpc,Int.toNat_natCast] at hM
 have hst:stk p.1 (i + 1) = stk p.1 i:=Wmn hi (by omega) (by omega)
 have hpc1:x.pc + 1 = ((i + 1:Nat):Int):=by omega
 unfold rRead
 cases hlr:Wfe x.writes p.1[i].2.2.1 with
 | some v =>
  have hv:=hl.writes _ (Wqw hlr).2
  simp only [hpc1]
  exact { hx with rg:=Vals.le4 (hl.regs.set _ hv.2),live:=fun _=>RLive.on hcc hl h1 hi hpc (by omega) (by omega) (hl.regs.set _ hv.2) hl.reads (by omega) hl.writes (by omega) (by omega) (hM.mono hst (by omega) (by omega) (by omega)) hl.pb }
 | none =>
  simp only
  have hps:=Wzf (rv:=x.rv) h.mem (pbIf_ok hl.pb hB)
  generalize Wcs w.mem x.rv (if x.busy = true then x.pb else (p.1[i].2.2.1,0,0,0)) = b at *
  have hp:=Wka.1 hps.1
  have hbz:RLive p n { x with busy:=true,pb:=b }:={ hl with pb:=fun _=>hps.1 }
  have hbo:ROk p n { x with busy:=true,pb:=b }:={ hx with live:=fun _=>hbz }
  split
  ·exact Woc hbo hbz
  ·split
   ·simp only [hpc1]
    refine { hx with rg:=Vals.le4 (hl.regs.set _ hp.2.2.2),live:=fun _=>RLive.on hcc hl h1 hi hpc (by omega) (by omega) (hl.regs.set _ hp.2.2.2) (fun r hr=>?_) (by simp) hl.writes (by omega) (by omega) (hM.mono hst (by simp) (by omega) (by omega)) (fun h=>by cases h) }
    rcases List.mem_append.1 hr with hr | hr
    ·exact hl.reads r hr
    ·rw [List.mem_singleton] at hr; subst hr; exact ⟨hB,hp.2.2.2⟩
   ·exact hbo
theorem rAbort_ok (hcc:CC p.1) (h:GOk w) (hx:ROk p n x) (hl:RLive p n x) (h1:x.phase = 1) (hk:k ≤ 8) {i:Nat} (hi:i < p.1.length) (hpc:x.pc = i):QOk p n w (rAbort w x k p.1):=by
 have hM:=hl.marks
 rw [hpc,Int.toNat_natCast] at hM
 unfold rAbort
 split
 ·exact Wzr h hx hl.rv hk
 ·rename_i hz
  obtain ⟨m,q,e1,e2,⟨hm',hm8⟩,e4,e5,e6,e7,e8,e9,e10,e11,e12,e13,e14⟩:=hl.mk24 hcc hz
  split
  ·exact Wwz h hx (by omega) fun _=>⟨hcc,fun _=>by omega⟩
  ·refine h.st ?_
   rw [e8]
   simp only [e2,Int.toNat_natCast,← Int.natCast_succ]
   have hlen:=e5.len
   have ht:(List.take x.last.2.2.1.toNat x.writes).length = x.last.2.2.1.toNat:=by rw [List.length_take]; omega
   refine { hx with rg:=Vals.le4 (e9.set _ (by omega)),live:=fun _=>RLive.on hcc hl h1 hi hpc (pc':=Wsd p.1 m + 1) (by omega) (by omega) (e9.set _ (by omega)) hl.reads (by omega) (fun r hr=>hl.writes r (List.mem_of_mem_take hr)) (by omega) (by omega) ?_ hl.pb }
   exact hM.drop e1 (by rw [e5.st,e7,hpc]; rfl) (by omega) (by rw [ht]; omega) (by omega)
theorem rBoost_ok (hcc:CC p.1) (h:GOk w) (hx:ROk p n x) (hl:RLive p n x) (h1:x.phase = 1) (hk:k ≤ 8) {i:Nat} (hi:i < p.1.length) (hpc:x.pc = i) (h12:12 ≤ p.1[i].1):QOk p n w (Wue w x k p.1[i]):=by
 have ho:=(hcc.ok i hi).1
 have hM:=hl.marks
 rw [hpc,Int.toNat_natCast] at hM
 have hst:stk p.1 (i + 1) = stk p.1 i:=Wmn hi (by omega) (by omega)
 have hpc1:x.pc + 1 = ((i + 1:Nat):Int):=by omega
 have hul:=hl.ul
 have hcl:=hcc.len
 have hbm:(0 ≤ (Whi p.1[i]).1 ∧ (Whi p.1[i]).1 ≤ 8) ∧ 1 ≤ (Whi p.1[i]).2 ∧ (Whi p.1[i]).2 ≤ 2:=by
  unfold Whi
  have h16:=ok_16 ho
  split
  ·rename_i h
   have:Wed p.1[i].2.1 = true:=by
    rcases h with h | h
    ·exact (ok_12 ho h).1
    ·exact (ok_14 ho h).1
   rw [Wdu] at this; simp only; omega
  ·split
   ·have:=(ok_13 ho ‹_›).2
    rw [Wdu] at this; simp only; omega
   ·split <;> (simp only; omega)
 unfold Wue
 cases ha:Wle w.holds ((k:Int) + 1) (Whi p.1[i]).1 (Whi p.1[i]).2 with
 | none=>exact h.st (Woc hx hl)
 | some hs =>
  have hhs:HOk hs:=by
   unfold Wle at ha
   split at ha
   ·injection ha with ha; subst ha; exact holdPut_ok h.holds (by omega) hbm.1 hbm.2 ‹_›
   ·cases ha
  obtain ⟨b1,b2,b3,b4⟩:=boostDo_ok h.shelf hl.regs ho h12
  simp only [hpc1]
  refine ⟨?_,h.mem,b1,hhs,by simp,fun _ hh=>.inl hh,rfl,rfl⟩
  by_cases hz:(Wdr w.shelf p.1[i] x.regs).2.2.1 = 0
  ·simp only [if_pos hz]
   exact { hx with rg:=Vals.le4 b2,live:=fun _=>RLive.on hcc hl h1 hi hpc (by omega) (by omega) b2 hl.reads (by omega) hl.writes (by omega) (by omega) (hM.mono hst (by omega) (by omega) (by omega)) hl.pb }
  ·simp only [if_neg hz]
   refine { hx with rg:=Vals.le4 b2,live:=fun _=>RLive.on hcc hl h1 hi hpc (by omega) (by omega) b2 hl.reads (by omega) hl.writes (by omega) (by simp) (hM.mono hst (by omega) (by omega) (by simp)) hl.pb,undos:=fun u hu=>?_,ul:=by simp; omega }
   rcases List.mem_append.1 hu with hu | hu
   ·exact hx.undos u hu
   ·rw [List.mem_singleton] at hu; subst hu; exact b3 hz
theorem rRun_ok (hp:POk p) (h:GOk w) (hx:ROk p n x) (h1:x.phase = 1) (hk:k ≤ 8) (hn:0 ≤ n):QOk p n w (rRun w x k p):=by
 have hl:=hx.live (by omega)
 have hcc:=hp.code
 unfold rRun
 split
 ·exact Wzr h hx hl.rv hk
 ·obtain ⟨i,hi,hpc,ho⟩:=Wxt (l:=p.1) hl.pc.1 (by have:=hl.pc; omega)
  simp only [ho]
  obtain ⟨ok,o1,o16⟩:=hcc.ok i hi
  have hM:=hl.marks
  rw [hpc,Int.toNat_natCast] at hM
  have hpc1:x.pc + 1 = ((i + 1:Nat):Int):=by omega
  have hrl:=hl.rl
  have hwl:=hl.wl
  have hul:=hl.ul
  rw [hpc,Int.toNat_natCast] at hrl
  split
  ·exact h.st (rRead_ok hcc h hx hl h1 hi hpc ‹_›)
  ·split
   ·exact rAbort_ok hcc h hx hl h1 hk hi hpc
   ·split
    ·rename_i h11
     refine h.st ?_
     exact { hx with
      phase:=by show (0:Int) ≤ 2 ∧ (2:Int) ≤ 8; omega
      live:=fun _=>{ hl with
       fork:=fun _=>⟨by show x.pc < p.1.length; omega,by show (opN p.1 x.pc).1 = 11; rw [ho]; exact h11,famNew_ok hl.regs hn⟩
       back:=fun h=>by (change (2:Int) = 3 ∨ (2:Int) = 4 at h; omega)
       pos:=fun h=>by (change (2:Int) = 4 at h; omega)
       unw:=fun h=>by (change (2:Int) = 4 at h; omega) }
      comm:=fun h=>by (change (2:Int) = 5 at h; omega) }
    ·split
     ·exact rBoost_ok hcc h hx hl h1 hk hi hpc (by omega)
     ·split
      ·refine h.st ?_
       have hk:=ok_6 ok ‹_›
       have hst:stk p.1 (i + 1) = stk p.1 i:=Wmn hi (by omega) (by omega)
       simp only [hpc1]
       refine { hx with live:=fun _=>RLive.on hcc hl h1 hi hpc (by omega) (by omega) hl.regs hl.reads (by omega) (fun r hr=>?_) (by simp) (by omega) (hM.mono hst (by omega) (by simp) (by omega)) hl.pb }
       rcases List.mem_append.1 hr with hr | hr
       ·exact hl.writes r hr
       ·rw [List.mem_singleton] at hr; subst hr
        have:=hk.1; unfold Way at this
        exact ⟨by simpa using this,hl.regs.get _⟩
      ·split
       ·refine h.st ?_
        obtain ⟨s1,s2⟩:=hcc.sk i hi ‹_›
        have hk:=ok_7 ok ‹_›
        have hst:stk p.1 (i + 1) = stk p.1 i:=Wmn hi (by omega) (by omega)
        have hst2:stk p.1 (i + 1 + p.1[i].2.2.1.toNat) = stk p.1 i:=by rw [← hst]; exact stk_part (by omega) s1 s2
        by_cases hg:getI x.regs p.1[i].2.1 0 = 0
        ·simp only [if_pos hg,show x.pc + p.1[i].2.2.1 + 1 = ((i + 1 + p.1[i].2.2.1.toNat:Nat):Int) by omega]
         exact { hx with live:=fun _=>RLive.on hcc hl h1 hi hpc s1 (by omega) hl.regs hl.reads (by omega) hl.writes (by omega) (by omega) (hM.mono hst2 (by omega) (by omega) (by omega)) hl.pb }
        ·simp only [if_neg hg,hpc1]
         exact { hx with live:=fun _=>RLive.on hcc hl h1 hi hpc (by omega) (by omega) hl.regs hl.reads (by omega) hl.writes (by omega) (by omega) (hM.mono hst (by omega) (by omega) (by omega)) hl.pb }
       ·split
        ·refine h.st ?_
         simp only [hpc1]
         rw [hpc]
         exact { hx with live:=fun _=>RLive.on hcc hl h1 hi hpc (by omega) (by omega) hl.regs hl.reads (by omega) hl.writes (by omega) (by omega) (hM.begin hi ‹_› hl.regs (by omega) (by omega) (by omega)) hl.pb }
        ·split
         ·rename_i h9
          refine h.st ?_
          have hz:x.marks.length ≠ 0:=fun hz=>by
           have h1:=congrArg List.length hM.pcs
           simp only [List.length_map,hz] at h1
           have h2:=Wdf hcc.up i (by omega)
           have h3:=hcc.up i hi
           rw [Wbz hi,Wwy h9] at h3
           omega
          obtain ⟨m,q,e1,e2,⟨hm',hm8⟩,e4,e5,e6,e7,e8,e9,e10,e11,e12,e13,e14⟩:=hl.mk24 hcc hz
          simp only [hpc1]
          rw [e8]
          exact { hx with rg:=Vals.le4 (hl.regs.set _ (by omega)),live:=fun _=>RLive.on hcc hl h1 hi hpc (by omega) (by omega) (hl.regs.set _ (by omega)) hl.reads (by omega) hl.writes (by omega) (by omega) (hM.drop e1 (Wvw hi h9) (by omega) (by omega) (by omega)) hl.pb }
         ·refine h.st ?_
          have hst:stk p.1 (i + 1) = stk p.1 i:=Wmn hi (by omega) (by omega)
          simp only [hpc1]
          exact { hx with rg:=Vals.le4 (Wuv ok (by omega) (by omega) hl.regs),live:=fun _=>RLive.on hcc hl h1 hi hpc (by omega) (by omega) (Wuv ok (by omega) (by omega) hl.regs) hl.reads (by omega) hl.writes (by omega) (by omega) (hM.mono hst (by omega) (by omega) (by omega)) hl.pb }
theorem rIdle_ok (h:GOk w) (hx:ROk p n x) (hu:x.phase = 0) (hcl:0 ≤ (p.1.length:Int)):QOk p n w (Wuu w x k):=by
 have hmm:=Wan h.mem
 unfold Wuu
 split
 ·exact h.st hx
 ·split
  ·exact h.qt hx _
  ·split
   ·exact h.st hx
   ·refine h.st ?_
    exact {
     phase:=by show (0:Int) ≤ 1 ∧ (1:Int) ≤ 8; omega
     tries:=hx.tries
     live:=fun _=>{
      pc:=by show (0:Int) ≤ 0 ∧ (0:Int) ≤ _; omega
      spare:=by show (0:Int) ≤ 0 ∧ (0:Int) ≤ 2; omega
      rv:=⟨hmm.2.1,hmm.2.2.1⟩
      regs:=⟨rfl,fun v hv=>by simp at hv; omega⟩
      reads:=fun r hr=>by cases hr
      rl:=by simp; omega
      writes:=fun r hr=>by cases hr
      wl:=by simp
      ul:=by simp
      marks:=⟨by simp [stk],(fun q hq=>by cases hq),List.Pairwise.nil⟩
      pb:=fun h=>by cases h
      fork:=fun h=>by (change (1:Int) = 2 at h; omega)
      back:=fun h=>by (change (1:Int) = 3 ∨ (1:Int) = 4 at h; omega)
      newRv:=by show (0:Int) ≤ 0 ∧ (0:Int) ≤ 1000000; omega
      pos:=fun h=>by (change (1:Int) = 4 at h; omega)
      unw:=fun h=>by (change (1:Int) = 4 at h; omega) }
     comm:=fun h=>by (change (1:Int) = 5 at h; omega)
     undos:=fun u hu=>by cases hu
     ul:=by simp
     rg:=by simp
     ord:=by simp }
theorem Wyt {codes:List (List Opn)} {f:Fm} (h:FOk codes n f):Rows (Wnv f) ∧ (Wnv f).length ≤ 8:=by
 refine ⟨fun r hr=>?_,by unfold Wnv; rw [List.length_map]; exact h.buf8⟩
 obtain ⟨e,he,rfl⟩:=List.mem_map.1 hr
 have:=h.bufE e he
 exact ⟨this.1,this.2.1⟩
theorem Wts {codes:List (List Opn)} {f:Fm} (h:FOk codes n f) (h3:codes.length ≤ 3):Vals 4 (Wqx f):=by
 have hl:=h.len
 have hr:=h.regs
 unfold Wqx
 rw [if_pos ⟨Wjr.2 hr,by omega⟩]
 refine ⟨by simp [hr.len]; omega,fun v hv=>?_⟩
 rcases List.mem_append.1 hv with hv | hv
 ·obtain ⟨y,hy,rfl⟩:=List.mem_map.1 hv
  unfold kidReg
  split
  ·rename_i hc
   exact (Wjr.1 hc.2).get _
  ·omega
 ·exact hr.val v (List.mem_of_mem_drop hv)
theorem rFork_ok (hp:POk p) (hx:ROk p n x) (h2:x.phase = 2):ROk p n (Wyb x):=by
 have hl:=hx.live (by omega)
 have hcc:=hp.code
 obtain ⟨f1,f2,f3⟩:=hl.fork h2
 obtain ⟨i,hi,hpc,ho⟩:=Wxt (l:=p.1) hl.pc.1 f1
 rw [ho] at f2
 have hM:=hl.marks
 have hrl:=hl.rl
 have hul:=hl.ul
 rw [hpc,Int.toNat_natCast] at hM hrl
 unfold Wyb
 split
 ·exact Wjo hx
 ·split
  ·have hz:x.marks = []:=by
    have h1:=congrArg List.length hM.pcs
    simp only [List.length_map] at h1
    have h3:=Wdf hcc.up i (by omega)
    have h4:=(hcc.fk i hi f2).1
    exact List.eq_nil_of_length_eq_zero (by omega)
   have hst:stk p.1 (i + 1) = stk p.1 i:=Wmn hi (by omega) (by omega)
   have hp8:=Wyt f3
   have hord:=f3.len3 hp.k3
   have hrdl:=f3.readsL
   have hfk:frk p.1 (i + 1) = frk p.1 i + 1:=by rw [Wpk hi]; simp [f2]
   exact { hx with
    phase:=by show (0:Int) ≤ 1 ∧ (1:Int) ≤ 8; omega
    rg:=(Wts f3 hp.k3).le4
    ord:=hord
    live:=fun _=>{ hl with
     pc:=by show 0 ≤ x.pc + 1 ∧ x.pc + 1 ≤ _; omega
     regs:=Wts f3 hp.k3
     reads:=fun r hr=>by
      rcases List.mem_append.1 hr with hr | hr
      ·exact hl.reads r hr
      ·exact f3.readsE r hr
     rl:=by
      show ((x.reads ++ x.fam.reads).length:Int) ≤ x.pc + 1 + 72 * (frk p.1 (x.pc + 1).toNat:Int)
      rw [show (x.pc + 1).toNat = i + 1 by omega,hfk,List.length_append]
      omega
     writes:=hp8.1
     wl:=by have:=hp8.2; show ((Wnv x.fam).length:Int) ≤ x.pc + 1 + 8; omega
     ul:=by show (x.undos.length:Int) ≤ x.pc + 1; omega
     marks:=by
      show RMk p.1 (x.pc + 1).toNat x.marks _ _ _
      rw [show (x.pc + 1).toNat = i + 1 by omega]
      rw [hz] at hM ⊢
      exact ⟨by rw [hst]; exact hM.pcs,(fun q hq=>by cases hq),List.Pairwise.nil⟩
     fork:=fun h=>by (change (1:Int) = 2 at h; omega)
     back:=fun h=>by (change (1:Int) = 3 ∨ (1:Int) = 4 at h; omega)
     pos:=fun h=>by (change (1:Int) = 4 at h; omega)
     unw:=fun h=>by (change (1:Int) = 4 at h; omega) }
    comm:=fun h=>by (change (1:Int) = 5 at h; omega) }
  ·exact hx
theorem rUnwind_ok (hp:POk p) (h:GOk w) (hx:ROk p n x) (h3:x.phase = 3):QOk p n w (Wlk w x):=by
 have hl:=hx.live (by omega)
 have hz:=hl.back (.inl h3)
 obtain ⟨m,q,e1,e2,⟨hm',hm8⟩,e4,e5,e6,e7,e8,e9,e10,e11,e12,e13,e14⟩:=hl.mk24 hp.code hz
 have hmm:=Wan h.mem
 unfold Wlk
 split
 ·exact Wwz h hx (by omega) fun _=>⟨hp.code,fun _=>by omega⟩
 ·refine h.st ?_
  exact { hx with
   phase:=by show (0:Int) ≤ 4 ∧ (4:Int) ≤ 8; omega
   live:=fun _=>{ hl with
    fork:=fun h=>by (change (4:Int) = 2 at h; omega)
    back:=fun _=>hz
    newRv:=⟨hmm.2.1,hmm.2.2.1⟩
    pos:=fun _=>by (show (0:Int) ≤ 0 ∧ (0:Int) ≤ x.last.2.1; omega)
    unw:=fun _=>by (show (x.undos.length:Int) ≤ x.last.2.2.2.1; omega) }
   comm:=fun h=>by (change (4:Int) = 5 at h; omega) }
theorem rExtend_ok (hp:POk p) (h:GOk w) (hx:ROk p n x) (h4:x.phase = 4):ROk p n (Wjh w x):=by
 have hl:=hx.live (by omega)
 have hz:=hl.back (.inr h4)
 have hps:=hl.pos h4
 obtain ⟨m,q,e1,e2,⟨hm',hm8⟩,e4,e5,e6,e7,e8,e9,e10,e11,e12,e13,e14⟩:=hl.mk24 hp.code hz
 unfold Wjh
 split
 ·simp only
  split
  ·exact Wjo hx
  ·exact { hx with live:=fun _=>{ hl with pos:=fun _=>by (show 0 ≤ x.pos + 1 ∧ x.pos + 1 ≤ x.last.2.1; omega) } }
 ·rename_i hge
  have hst:stk p.1 (m + 1) = stk p.1 x.pc.toNat:=by
   have hpcl:=hl.pc
   rw [Wrs hm' hm8,e7]
   rcases Wdx (stk p.1 x.pc.toNat) with h0 | ⟨t,j,ht⟩
   ·have h1:=congrArg List.length hl.marks.pcs
    rw [h0] at h1; simp at h1; exact absurd h1 (by intro hh; rw [hh] at hz; simp at hz)
   ·have h1:=hl.marks.pcs
    rw [e1,ht] at h1
    simp only [List.map_append,List.map_cons,List.map_nil] at h1
    have h2:=(List.append_inj' h1 rfl).2
    injection h2 with h2
    rw [e2] at h2
    rw [ht,List.dropLast_concat,show m = j by omega]
  have hfm:=frk_mono p.1 (show m ≤ m + 1 by omega)
  rw [e2,Int.toNat_natCast] at e10
  have hpc1:x.last.1 + 1 = ((m + 1:Nat):Int):=by omega
  have t1:(List.take x.last.2.1.toNat x.reads).length = x.last.2.1.toNat:=by rw [List.length_take]; omega
  have t2:(List.take x.last.2.2.1.toNat x.writes).length = x.last.2.2.1.toNat:=by rw [List.length_take]; omega
  exact { hx with
   phase:=by show (0:Int) ≤ 1 ∧ (1:Int) ≤ 8; omega
   rg:=e9.le4
   live:=fun _=>{ hl with
    pc:=by show 0 ≤ x.last.1 + 1 ∧ x.last.1 + 1 ≤ _; omega
    rv:=hl.newRv
    regs:=e9
    reads:=fun r hr=>hl.reads r (List.mem_of_mem_take hr)
    rl:=by
     show ((List.take x.last.2.1.toNat x.reads).length:Int) ≤ x.last.1 + 1 + 72 * (frk p.1 (x.last.1 + 1).toNat:Int)
     rw [hpc1,Int.toNat_natCast,t1]; omega
    writes:=fun r hr=>hl.writes r (List.mem_of_mem_take hr)
    wl:=by show ((List.take x.last.2.2.1.toNat x.writes).length:Int) ≤ x.last.1 + 1 + 8; rw [t2]; omega
    ul:=by
     show (x.undos.length:Int) ≤ x.last.1 + 1
     have:=hl.unw h4
     omega
    marks:=by
     show RMk p.1 (x.last.1 + 1).toNat x.marks (List.take x.last.2.1.toNat x.reads).length (List.take x.last.2.2.1.toNat x.writes).length x.undos.length
     rw [hpc1,Int.toNat_natCast,t1,t2]
     exact (hl.marks.cut e1 (by omega) (by omega) e14).mono hst (Nat.le_refl _) (Nat.le_refl _) (Nat.le_refl _)
    fork:=fun h=>by (change (1:Int) = 2 at h; omega)
    back:=fun h=>by (change (1:Int) = 3 ∨ (1:Int) = 4 at h; omega)
    newRv:=by show (0:Int) ≤ 0 ∧ (0:Int) ≤ 1000000; omega
    pos:=fun h=>by (change (1:Int) = 4 at h; omega)
    unw:=fun h=>by (change (1:Int) = 4 at h; omega) }
   comm:=fun h=>by (change (1:Int) = 5 at h; omega) }
end
end Go.Sx
