/- Plain laws of the Lean functions. -/
import Derived.Test.YtfajigbmoebkaaaGreatMW1Fam

namespace Go.Sx
set_option linter.unusedVariables false
set_option linter.unusedSimpArgs false
theorem Wka {p:Pb}:pbOk p = true ↔ (0 ≤ p.1 ∧ p.1 ≤ 7) ∧ (0 ≤ p.2.1 ∧ p.2.1 ≤ 4) ∧ (0 ≤ p.2.2.1 ∧ p.2.2.1 ≤ 1000000) ∧ 0 ≤ p.2.2.2 ∧ p.2.2.2 ≤ 65535:=by
 unfold pbOk Way Wct
 simp only [Bool.and_eq_true,decide_eq_true_eq]
theorem Wis {c:Int} {w:Wd}:isWd c w = true ↔ (0 ≤ w.1 ∧ w.1 ≤ 65535) ∧ (0 ≤ w.2.1 ∧ w.2.1 ≤ c) ∧ 0 ≤ w.2.2 ∧ w.2.2 ≤ 99:=by
 unfold isWd Wct
 simp only [Bool.and_eq_true,decide_eq_true_eq]
theorem mem_wd {m:Mm} (h:Wbi m = true) {c:Int} (hc:0 ≤ c ∧ c ≤ 7):isWd m.1 (getI m.2 c (0,0,0)) = true:=by
 obtain ⟨h8,h0,h1,hw⟩:=Wan h
 unfold getI
 rw [Wm (show c.toNat < m.2.length by omega)]
 exact hw _ (List.getElem_mem _)
theorem Wzf {m:Mm} {rv:Int} {p:Pb} (hm:Wbi m = true) (hp:pbOk p = true):pbOk (Wcs m rv p) = true ∧ (Wcs m rv p).1 = p.1:=by
 have hp':=Wka.1 hp
 have hw:=mem_wd hm hp'.1
 rw [Wis] at hw
 obtain ⟨h8,h0,h1,_⟩:=Wan hm
 unfold Wcs
 simp only [Ww,Wby]
 have hw2:isWd m.1 (List.getD m.2 (Int.toNat p.1) (0,0,0)) = true:=mem_wd hm hp'.1
 rw [Wis] at hw2
 refine ⟨?_,?_⟩
 ·rw [Wka]
  repeat' split
  all_goals (try simp only); omega
 ·repeat' split
  all_goals rfl
section
variable {code:List Opn} {pc pc' wl wl':Nat} {ms q:List KM} {y:KM} {c c' n n':Int} {x:Kd} {f:Fm} {m:Mm} {codes:List (List Opn)} {k:Nat}
theorem KMk.mono (h:KMk code pc ms wl) (hs:stk code pc' = stk code pc) (hw:wl ≤ wl'):KMk code pc' ms wl' :=
 ⟨by rw [hs]; exact h.pcs,fun q hq=>by have:=h.each q hq; exact ⟨this.1,this.2.1,this.2.2.1,by omega⟩,h.up⟩
theorem KMk.begin (h:KMk code pc ms wl) (hp:pc < code.length) (h8:code[pc].1 = 8) {regs:List Int} (hr:Vals 4 regs) (hw:wl ≤ pc):KMk code (pc + 1) (ms ++ [((pc:Int),(wl:Int),regs)]) wl:=by
 refine ⟨?_,?_,?_⟩
 ·rw [Wrs hp h8,List.map_append,List.map_append,h.pcs]; rfl
 ·intro q hq
  rcases List.mem_append.1 hq with hq | hq
  ·exact h.each q hq
  ·rw [List.mem_singleton] at hq; subst hq; exact ⟨hr,by simp,by simpa using hw,by simp⟩
 ·refine List.pairwise_append.2 ⟨h.up,List.pairwise_singleton _ _,fun a ha b hb=>?_⟩
  rw [List.mem_singleton] at hb; subst hb; exact (h.each a ha).2.2.2
theorem KMk.drop (h:KMk code pc ms wl) (hms:ms = q ++ [y]) (hs:stk code pc' = (stk code pc).dropLast) (hw:y.2.1 ≤ wl'):KMk code pc' q wl':=by
 subst hms
 have h1:=h.pcs
 refine ⟨?_,fun a ha=>?_,(List.pairwise_append.1 h.up).1⟩
 ·rw [hs,List.map_dropLast,← h1,List.map_append]; simp
 ·have h2:=h.each a (List.mem_append_left _ ha)
  have h3:=(List.pairwise_append.1 h.up).2.2 a ha y (by simp)
  exact ⟨h2.1,h2.2.1,h2.2.2.1,by omega⟩
theorem KOk.wk (h:KOk code c n x) (hc:c ≤ c') (hn:n ≤ n'):KOk code c' n' x :=
 { h with since:=by have:=h.since; omega,tries:=by have:=h.tries; omega }
theorem again_ok (h:KOk code c n x) (hc:c = f.clock) (hf:Vals 4 f.regs) (h0:0 ≤ f.clock):KOk code c (n + 1) (f.again x) where
 pc:=⟨Int.le_refl _,by show (0:Int) ≤ _; omega⟩
 regs:=hf
 rows:=fun r hr=>by cases hr
 wl:=Int.le_refl _
 sl:=Int.le_refl _
 since:=by show 0 ≤ f.clock ∧ f.clock ≤ c; omega
 tries:=by have:=h.tries; show 0 ≤ x.tries + 1 ∧ x.tries + 1 ≤ n + 1; omega
 seen:=fun e he=>by cases he
 marks:=fun _=>⟨by show ([]:List KM).map _ = (stk code 0).map _; rfl,(fun q hq=>by cases hq),List.Pairwise.nil⟩
 pos:=⟨Int.le_refl _,Int.le_refl _⟩
 pb:=fun h=>by cases h
 phase:=by show (0:Int) ≤ 0 ∧ (0:Int) ≤ 3; omega
 out:=by show (0:Int) ≤ 0 ∧ (0:Int) ≤ 2; omega
theorem KMk.len (hc:CC code) (h:KMk code pc ms wl) (hp:pc ≤ code.length):(ms.length:Int) = dep code pc:=by
 have:=congrArg List.length h.pcs
 simp only [List.length_map] at this
 rw [this,Wdf hc.up pc hp]
theorem KOk.on (hcc:CC code) (h:KOk code c n x) (h0:x.phase = 0) {i:Nat} (hi:i < code.length) (hpc:x.pc = i) {regs:List Int} {seen:List En} {writes:List Rw} {marks:List KM} {busy:Bool} {pb:Pb} {pc':Nat} (hp:pc' ≤ code.length) (hlt:i < pc') (hr:Vals 4 regs) (hrow:Rows writes) (hwl:writes.length ≤ x.writes.length + 1) (hsl:seen.length ≤ x.seen.length + 1)
  (hs:∀ e ∈ seen,(0 ≤ e.1 ∧ e.1 ≤ 7) ∧ (0 ≤ e.2.1 ∧ e.2.1 ≤ 65535) ∧ -1 ≤ e.2.2 ∧ e.2.2 ≤ x.since) (hse:x.seen.length ≤ seen.length) (hm:KMk code pc' marks writes.length) (hb:busy = true → pbOk pb = true) :
  KOk code c n { x with regs:=regs,seen:=seen,writes:=writes,marks:=marks,busy:=busy,pb:=pb,pc:=(pc':Int) } :=
 { h with
  pc:=by show (0:Int) ≤ (pc':Int) ∧ (pc':Int) ≤ _; omega
  regs:=hr
  rows:=hrow
  wl:=by have:=h.wl; show (writes.length:Int) ≤ (pc':Int); omega
  sl:=by have:=h.sl; show (seen.length:Int) ≤ (pc':Int); omega
  seen:=hs
  marks:=fun _=>by show KMk code ((pc':Nat):Int).toNat marks writes.length; rw [Int.toNat_natCast]; exact hm
  pos:=by have:=h.pos; show 0 ≤ x.pos ∧ x.pos ≤ (seen.length:Int); omega
  pb:=hb }
theorem kRead_ok (hcc:CC code) (hF:FOk codes n f) (h:KOk code f.clock n x) (h0:x.phase = 0) {i:Nat} (hi:i < code.length) (hpc:x.pc = i) (h5:code[i].1 = 5) (hm:Wbi m = true) :
  KOk code f.clock (n + 1) (Wow m f x code[i]).2 ∧ ((Wow m f x code[i]).1 = f ∨ (Wow m f x code[i]).1 = { f with lost:=true }):=by
 have hok:=ok_5 (hcc.ok i hi).1 h5
 have hB:0 ≤ code[i].2.2.1 ∧ code[i].2.2.1 ≤ 7:=by have:=hok.2; unfold Way at this; simpa using this
 have hM:=h.marks h0
 rw [hpc,Int.toNat_natCast] at hM
 have hst:stk code (i + 1) = stk code i:=Wmn hi (by omega) (by omega)
 have hpc1:x.pc + 1 = ((i + 1:Nat):Int):=by omega
 unfold Wow
 cases hl:Wfe x.writes code[i].2.2.1 with
 | some v =>
  have hv:=h.rows _ (Wqw hl).2
  refine ⟨?_,.inl rfl⟩
  simp only [hpc1]
  exact (KOk.on hcc h h0 hi hpc (by omega) (by omega) (h.regs.set _ hv.2) h.rows (by omega) (by omega) h.seen (by omega) (hM.mono hst (by omega)) h.pb).wk (by omega) (by omega)
 | none =>
  simp only
  cases he:ent f.buf code[i].2.2.1 with
  | some r =>
   simp only
   have hr:=Wgj he
   have hre:r.2 ∈ f.buf:=by
    have:=hr.2.2.2
    exact List.mem_of_getElem? this
   have hr2:=hF.bufE _ hre
   split
   ·exact ⟨again_ok h rfl hF.regs hF.clock.1,.inl rfl⟩
   ·refine ⟨?_,.inl rfl⟩
    simp only [hpc1]
    refine (KOk.on hcc h h0 hi hpc (by omega) (by omega) (h.regs.set _ hr2.2.1) h.rows (by omega) (by simp) (fun e hee=>?_) (by simp) (hM.mono hst (by omega)) h.pb).wk (by omega) (by omega)
    rcases List.mem_append.1 hee with hee | hee
    ·exact h.seen e hee
    ·rw [List.mem_singleton] at hee; subst hee; exact ⟨hr2.1,hr2.2.1,by omega,by omega⟩
  | none =>
   simp only
   have hpb:pbOk (if x.busy = true then x.pb else (code[i].2.2.1,0,0,0)) = true:=by
    split
    ·exact h.pb ‹_›
    ·rw [Wka]; simp only; omega
   have hps:=Wzf (rv:=f.rv) hm hpb
   generalize Wcs m f.rv (if x.busy = true then x.pb else (code[i].2.2.1,0,0,0)) = p at *
   have hp:=Wka.1 hps.1
   split
   ·refine ⟨?_,.inr rfl⟩
    exact KOk.wk (n:=n) { h with pb:=fun _=>hps.1 } (by omega) (by omega)
   ·split
    ·refine ⟨?_,.inl rfl⟩
     simp only [hpc1]
     refine (KOk.on hcc h h0 hi hpc (by omega) (by omega) (h.regs.set _ hp.2.2.2) h.rows (by omega) (by simp) (fun e hee=>?_) (by simp) (hM.mono hst (by omega)) (fun h=>by cases h)).wk (by omega) (by omega)
     rcases List.mem_append.1 hee with hee | hee
     ·exact h.seen e hee
     ·rw [List.mem_singleton] at hee; subst hee; exact ⟨hB,hp.2.2.2,by simp,by have:=h.since; simp only; omega⟩
    ·refine ⟨?_,.inl rfl⟩
     exact KOk.wk (n:=n) { h with pb:=fun _=>hps.1 } (by omega) (by omega)
theorem kRun_ok (hkc:KC code) (hF:FOk codes n f) (h:KOk code f.clock n x) (h0:x.phase = 0) (hm:Wbi m = true) :
  KOk code f.clock (n + 1) (kRun m f x code).2 ∧ ((kRun m f x code).1 = f ∨ (kRun m f x code).1 = { f with lost:=true }):=by
 have hcc:=hkc.toCC
 unfold kRun
 split
 ·refine ⟨?_,.inl rfl⟩
  exact KOk.wk (n:=n) { h with marks:=fun h=>by (change (1:Int) = 0 at h; omega),phase:=by (show (0:Int) ≤ 1 ∧ (1:Int) ≤ 3; omega),out:=by (show (0:Int) ≤ 1 ∧ (1:Int) ≤ 2; omega) } (by omega) (by omega)
 ·obtain ⟨i,hi,hpc,ho⟩:=Wxt (l:=code) h.pc.1 (by have:=h.pc; omega)
  simp only [ho]
  obtain ⟨ok,o1,o16⟩:=hkc.ok i hi
  have o10:=hkc.k10 i hi
  have hM:=h.marks h0
  rw [hpc,Int.toNat_natCast] at hM
  have hpc1:x.pc + 1 = ((i + 1:Nat):Int):=by omega
  have hwl:x.writes.length ≤ i:=by have:=h.wl; omega
  split
  ·exact kRead_ok hcc hF h h0 hi hpc ‹_› hm
  ·split
   ·refine ⟨?_,.inl rfl⟩
    unfold Wxu
    split
    ·refine KOk.wk (n:=n) { h with rows:=(fun r hr=>by cases hr),wl:=by (have:=h.pc; show (0:Int) ≤ x.pc; omega),marks:=fun h=>by (change (1:Int) = 0 at h; omega),phase:=by (show (0:Int) ≤ 1 ∧ (1:Int) ≤ 3; omega),out:=by (show (0:Int) ≤ 2 ∧ (2:Int) ≤ 2; omega) } (by omega) (by omega)
    ·obtain ⟨j,q,y,e1,e2,e3,⟨hj,h8⟩,hjp,hmate,hpe,e5,e6⟩:=Wyv (d:=((0,0,[]):KM)) hcc (show i ≤ code.length by omega) hM.pcs ‹_›
     obtain ⟨y1,y2,y3,y4⟩:=hM.each y (by rw [e1]; simp)
     simp only [e2,e3,Int.toNat_natCast,← Int.natCast_succ]
     have hl:=hmate.len
     have ht:(List.take y.2.1.toNat x.writes).length = y.2.1.toNat:=by rw [List.length_take]; omega
     refine (KOk.on hcc h h0 hi hpc (pc':=Wsd code j + 1) (by omega) (by omega) (y1.set _ (by omega)) (fun r hr=>h.rows r (List.mem_of_mem_take hr)) (by omega) (by omega) h.seen (by omega) ?_ h.pb).wk (by omega) (by omega)
     rw [show x.marks.dropLast = q by rw [e1]; simp]
     exact hM.drop e1 (by rw [hmate.st]; exact e5) (by rw [ht]; omega)
   ·split
    ·refine ⟨?_,.inl rfl⟩
     have hk:=ok_6 ok ‹_›
     have hst:stk code (i + 1) = stk code i:=Wmn hi (by omega) (by omega)
     simp only [hpc1]
     refine (KOk.on hcc h h0 hi hpc (by omega) (by omega) h.regs (fun r hr=>?_) (by simp) (by omega) h.seen (by omega) (hM.mono hst (by simp)) h.pb).wk (by omega) (by omega)
     rcases List.mem_append.1 hr with hr | hr
     ·exact h.rows r hr
     ·rw [List.mem_singleton] at hr; subst hr
      have:=hk.1; unfold Way at this
      exact ⟨by simpa using this,h.regs.get _⟩
    ·split
     ·refine ⟨?_,.inl rfl⟩
      obtain ⟨s1,s2⟩:=hkc.sk i hi ‹_›
      have hk:=ok_7 ok ‹_›
      have hst:stk code (i + 1) = stk code i:=Wmn hi (by omega) (by omega)
      have hst2:stk code (i + 1 + code[i].2.2.1.toNat) = stk code i:=by rw [← hst]; exact stk_part (by omega) s1 s2
      by_cases hg:getI x.regs code[i].2.1 0 = 0
      ·simp only [if_pos hg,show x.pc + code[i].2.2.1 + 1 = ((i + 1 + code[i].2.2.1.toNat:Nat):Int) by omega]
       exact (KOk.on hcc h h0 hi hpc s1 (by omega) h.regs h.rows (by omega) (by omega) h.seen (by omega) (hM.mono hst2 (by omega)) h.pb).wk (by omega) (by omega)
      ·simp only [if_neg hg,hpc1]
       exact (KOk.on hcc h h0 hi hpc (by omega) (by omega) h.regs h.rows (by omega) (by omega) h.seen (by omega) (hM.mono hst (by omega)) h.pb).wk (by omega) (by omega)
     ·split
      ·refine ⟨?_,.inl rfl⟩
       simp only [hpc1]
       rw [hpc]
       exact (KOk.on hcc h h0 hi hpc (by omega) (by omega) h.regs h.rows (by omega) (by omega) h.seen (by omega) (hM.begin hi ‹_› h.regs hwl) h.pb).wk (by omega) (by omega)
      ·split
       ·refine ⟨?_,.inl rfl⟩
        have hz:x.marks.length ≠ 0:=by
         have h1:=hM.len hcc (by omega)
         have h3:=hcc.up i hi
         rw [Wbz hi,Wwy ‹_›] at h3
         omega
        obtain ⟨j,q,y,e1,e2,e3,⟨hj,h8⟩,hjp,hmate,hpe,e5,e6⟩:=Wyv (d:=((0,0,[]):KM)) hcc (show i ≤ code.length by omega) hM.pcs hz
        obtain ⟨y1,y2,y3,y4⟩:=hM.each y (by rw [e1]; simp)
        simp only [hpc1]
        refine (KOk.on hcc h h0 hi hpc (by omega) (by omega) (h.regs.set _ (by omega)) h.rows (by omega) (by omega) h.seen (by omega) ?_ h.pb).wk (by omega) (by omega)
        rw [show x.marks.dropLast = q by rw [e1]; simp]
        exact hM.drop e1 (Wvw hi ‹_›) (by omega)
       ·refine ⟨?_,.inl rfl⟩
        have hst:stk code (i + 1) = stk code i:=Wmn hi (by omega) (by omega)
        simp only [hpc1]
        exact (KOk.on hcc h h0 hi hpc (by omega) (by omega) (Wuv ok (by omega) (by omega) h.regs) h.rows (by omega) (by omega) h.seen (by omega) (hM.mono hst (by omega)) h.pb).wk (by omega) (by omega)
end
end Go.Sx
