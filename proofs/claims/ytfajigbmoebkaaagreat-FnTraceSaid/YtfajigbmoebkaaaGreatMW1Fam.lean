/- Plain laws of the Lean functions. -/
import Derived.Test.YtfajigbmoebkaaaGreatMW1Net

namespace Go.Sx
set_option linter.unusedVariables false
set_option linter.unusedSimpArgs false
theorem Wjj {α β:Type} (g:α → β) (l:List α) (i:Nat) (d:α):List.getD (l.map g) i (g d) = g (l.getD i d):=by
 by_cases h:i < l.length
 ·rw [Wm (show i < (l.map g).length by simpa using h),Wm h]; simp
 ·rw [List.getD_eq_getElem?_getD,List.getD_eq_getElem?_getD,List.getElem?_eq_none (by simpa using h),List.getElem?_eq_none (by simpa using h)]; rfl
theorem kdP (x:Kd):x.e.1 = x.phase ∧ x.e.2.1 = x.pc ∧ x.e.2.2.1 = x.since ∧ x.e.2.2.2.1 = x.tries ∧ P4 x.e = x.pos ∧ P5 x.e = x.out ∧ P6 x.e = x.regs ∧ P7 x.e = x.seen ∧ P8 x.e = x.writes ∧ P9 x.e = x.marks ∧ P10 x.e = x.busy:=⟨rfl,rfl,rfl,rfl,rfl,rfl,rfl,rfl,rfl,rfl,rfl⟩
theorem fmP (f:Fm):f.e.1 = f.rv ∧ f.e.2.1 = f.clock ∧ f.e.2.2.1 = f.owner ∧ f.e.2.2.2.1 = f.lost ∧ P4 f.e = f.regs ∧ P5 f.e = f.start ∧ P6 f.e = f.buf ∧ P7 f.e = f.order ∧ P8 f.e = f.reads ∧ Q9 f.e = f.kids.map Kd.e:=⟨rfl,rfl,rfl,rfl,rfl,rfl,rfl,rfl,rfl,rfl⟩
theorem U9e (f:Fm) (k:Nat) (x:Kd):U9 (List.set (f.kids.map Kd.e) k x.e) f.e = Fm.e { f with kids:=f.kids.set k x }:=by
 unfold U9 Fm.e; rw [List.map_set]
theorem fin9 {f f':Fm} {k:Nat} {x':Kd} {y:Y_KidRun} {g:Y_Family} (hy:y = x'.e) (hg:g = f'.e) (hf:f'.kids = f.kids) :
  some ((U9 (List.set (f.kids.map Kd.e) k y) g,()),()) = some (((Fm.put (f',x') k).e,()),()):=by
 subst hy hg
 rw [← hf,U9e]; rfl
theorem kidRead_e (m:Mm) (f:Fm) (x:Kd) (o:Opn):Wqd m f.e x.e o = ((Wow m f x o).1.e,(Wow m f x o).2.e):=by
 unfold Wqd Wow
 have h1:P8 x.e = x.writes:=rfl
 have h2:P6 f.e = f.buf:=rfl
 rw [h1,h2]
 rcases Wfe x.writes o.2.2.1 with _ | v
 ·rcases ent f.buf o.2.2.1 with _ | r
  ·have h3:pbOf x.e o.2.2.1 = if x.busy then x.pb else (o.2.2.1,0,0,0):=by
    unfold pbOf
    have:P10 x.e = x.busy:=rfl
    rw [this]
    cases x.busy <;> rfl
   simp only [h3]
   have h4:f.e.1 = f.rv:=rfl
   rw [h4]
   generalize Wcs m f.rv (if x.busy then x.pb else (o.2.2.1,0,0,0)) = p
   by_cases e4:p.2.1 = 4
   ·have:(p.2.1 == 4) = true:=by simpa using e4
    rw [if_pos e4,this]; rfl
   ·have:(p.2.1 == 4) = false:=by simpa using e4
    rw [if_neg e4,this]
    by_cases e3:p.2.1 = 3
    ·have:(p.2.1 == 3) = true:=by simpa using e3
     rw [if_pos e3,this]; rfl
    ·have:(p.2.1 == 3) = false:=by simpa using e3
     rw [if_neg e3,this]; rfl
  ·simp only
   have h5:x.e.2.2.1 = x.since:=rfl
   rw [h5]
   by_cases hv:r.2.2.2 > x.since
   ·rw [if_pos hv,decide_eq_true hv]; rfl
   ·rw [if_neg hv,decide_eq_false hv]; rfl
 ·rfl
theorem kRead_kids (m:Mm) (f:Fm) (x:Kd) (o:Opn):(Wow m f x o).1.kids = f.kids:=by
 unfold Wow
 cases Wfe x.writes o.2.2.1 with
 | some v=>rfl
 | none =>
  cases ent f.buf o.2.2.1 with
  | some r=>simp only; split <;> rfl
  | none =>
   simp only
   generalize Wcs m f.rv _ = p
   repeat' split
   all_goals rfl
variable {N:Nat} {codes:List (List Opn)} {n:Int} {f:Fm} {k:Nat} {code:List Opn} {m:Mm} {x:Kd}
theorem FOk.buf8 (h:FOk codes n f):f.buf.length ≤ 8:=by
 have:∀ (l:List En) (c:Int),Ris cfE l → (∀ e ∈ l,c ≤ e.1 ∧ e.1 ≤ 7) → (l.length:Int) ≤ 8 - c ∨ l = []:=by
  intro l
  induction l with
  | nil=>intro c _ _; exact .inr rfl
  | cons a l ih =>
   intro c hr hb
   left
   have h1:=List.pairwise_cons.1 hr
   have ha:=hb a (List.mem_cons_self ..)
   rcases ih (a.1 + 1) h1.2 (fun e he=>⟨by have:=h1.1 e he; unfold cfE at this; omega,(hb e (List.mem_cons_of_mem _ he)).2⟩) with h | h
   ·rw [List.length_cons]; omega
   ·subst h; simp; omega
 rcases this f.buf 0 h.bufR (fun e he=>by have:=(h.bufE e he).1; omega) with h | h
 ·omega
 ·rw [h]; simp
theorem readOk_of (hF:FOk codes n f) (hx:KOk code f.clock n x) (hkc:KC code) (hm:Wbi m = true) (hn:n ≤ 100000) {o:Opn} (hA:Wh o.2.1 = true) (hB:Way o.2.2.1 = true):ReadOk m f.e x.e o where
 mem:=hm
 regs:=hx.regs.len
 famr:=hF.regs.len
 rA:=by unfold Wh at hA; simpa using hA
 cB:=hB
 seen:=by have:=hx.sl; have:=hx.pc; have:=hkc.len; show x.seen.length ≤ 1000; omega
 wr:=by have:=hx.wl; have:=hx.pc; have:=hkc.len; show x.writes.length ≤ 1000; omega
 buf:=by have:=hF.buf8; show f.buf.length ≤ 1000; omega
 ver:=fun e he=>(hF.bufE e he).2.2.1
 since:=hx.since.1
 pc:=by have:=hx.pc; have:=hkc.len; show 0 ≤ x.pc ∧ x.pc ≤ 1000; omega
 tries:=by have:=hx.tries; show 0 ≤ x.tries ∧ x.tries ≤ 100000; omega
 pb:=hx.pb
theorem Ww {α:Type} {a b:Int} {x y:α}:(bif a == b then x else y) = if a = b then x else y:=by
 by_cases h:a = b
 ·have:(a == b) = true:=by simpa using h
  rw [this,if_pos h]; rfl
 ·have:(a == b) = false:=by simpa using h
  rw [this,if_neg h]; rfl
theorem Wby {α:Type} {p:Prop} [Decidable p] {x y:α}:(bif decide p then x else y) = if p then x else y:=by
 by_cases h:p
 ·rw [if_pos h,decide_eq_true h]; rfl
 ·rw [if_neg h,decide_eq_false h]; rfl
theorem Wwe (hkc:KC code) (hx:KOk code f.clock n x) (h0:x.phase = 0) (hN:1048576 < N):Zh2 N x.e code = some (((Wxu x code).e,()),()):=by
 unfold Zh2 Wxu
 obtain ⟨k0,k1,k2,k3,k4,k5,k6,k7,k8,k9,k10⟩:=kdP x
 have hpc:=hx.pc
 have hlen:=hkc.len
 have hM:=hx.marks h0
 simp only [Wq,k9,k8,k1,Ww]
 by_cases hz:x.marks.length = 0
 ·rw [if_pos (by unfold ilen; omega),if_pos hz]; rfl
 ·rw [if_neg (by unfold ilen; omega),if_neg hz]
  obtain ⟨j,q,y,e1,e2,e3,⟨hj,h8⟩,hjp,hmate,hpe,e5,e6⟩:=Wyv (d:=((0,0,[]):KM)) hkc.toCC (show x.pc.toNat ≤ code.length by omega) hM.pcs hz
  have hlm:x.marks.length = q.length + 1:=by rw [e1]; simp
  have hq24:q.length ≤ 24:=by
   have:=congrArg List.length e6
   simp only [List.length_map] at this
   have h2:=Wdf hkc.up j (by omega)
   have h3:=(Wgo code j).2
   omega
  have i1:isub .i64 (ilen x.marks) 1 = (q.length:Int):=by rw [len_m1 (by omega),hlm]; omega
  have hy:y ∈ x.marks:=by rw [e1]; simp
  obtain ⟨y1,y2,y3,y4⟩:=hM.each y hy
  have g1:List.getD x.marks (Int.toNat (q.length:Int)) ((0,0,[]):KM) = y:=by rw [e1]; simp
  have t1:List.take (Int.toNat (q.length:Int)) x.marks = x.marks.dropLast:=by rw [e1]; simp
  have hwl:=hx.wl
  rw [i1,War,decide_eq_true (show q.length < x.marks.length by omega)]
  simp only [cond_true,g1,t1,e2]
  have b1:((decide ((0:Int) ≤ (q.length:Int)) && decide ((q.length:Int) ≤ (x.marks.length:Int))) && decide ((q.length:Int) ≤ ((Int.toNat (q.length:Int):Nat):Int))) = true:=by
   simp; omega
  rw [b1]
  simp only [cond_true]
  rw [Wcv (by rw [y1.len]; omega)]
  simp only [ret,Option.bind_some]
  rw [e3,War,decide_eq_true hj]
  have o1:List.getD code (Int.toNat ((j:Nat):Int)) ((0,0,0,0):Opn) = code[j]:=Wu hj _
  have o2:opN code ((j:Nat):Int) = code[j]:=Wvf hj
  have hr:=ok_8 (hkc.ok j hj).1 h8
  simp only [cond_true,o1,o2]
  rw [Wcg hr y1.len]
  have b2:(decide ((0:Int) ≤ y.2.1) && decide (y.2.1 ≤ (x.writes.length:Int))) = true:=by simp; omega
  rw [b2]
  simp only [cond_true]
  rw [Wgy (by rw [List.length_take]; omega),Wpq (by omega) hN ⟨hj,h8⟩ hmate]
  simp only [ret,Option.bind_some]
  rw [Wez (by have:=hmate.len; omega),Int.toNat_natCast]
  rfl
theorem implRun_run (hk:k < f.kids.length) (hm:Wbi m = true) (hkc:KC code) (hF:FOk codes n f) (hcode:codes.getD k [] = code) (hxe:f.kids[k] = x) (h0:x.phase = 0) (hn:n ≤ 100000) (hN:1048576 < N) :
  Ziw N f.e (k:Int) code m = some (((Fm.put (kRun m f x code) k).e,()),()):=by
 have hx:=hF.kid k hk
 rw [hcode,hxe] at hx
 obtain ⟨k0,k1,k2,k3,k4,k5,k6,k7,k8,k9,k10⟩:=kdP x
 obtain ⟨f0,f1,f2,f3,f4,f5,f6,f7,f8,f9⟩:=fmP f
 have hpc:=hx.pc
 have hlen:=hkc.len
 have hwl:=hx.wl
 have e2:List.getD (f.kids.map Kd.e) (Int.toNat (k:Int)) d_KidRun = x.e:=by
  have:=Wjj Kd.e f.kids k {}
  rw [Wm hk,hxe] at this
  exact this
 have e3:U9 (List.set (f.kids.map Kd.e) (Int.toNat (k:Int)) x.e) f.e = f.e:=by
  rw [Int.toNat_natCast,U9e,← hxe,List.set_getElem_self]
 unfold Ziw kRun
 simp only [Wq,f9,List.length_map]
 rw [War,decide_eq_true hk]
 simp only [cond_true,e2,e3,k1,k6,k8,k9,Wby,Ww,show ilen code = (code.length:Int) from rfl]
 by_cases hge:x.pc ≥ code.length
 ·rw [if_pos hge,if_pos hge]
  rw [Int.toNat_natCast]
  exact fin9 rfl rfl rfl
 ·rw [if_neg hge,if_neg hge]
  obtain ⟨j,hj,ej,eo⟩:=Wxt (l:=code) hpc.1 (by omega)
  have eo':List.getD code (Int.toNat x.pc) ((0,0,0,0):Opn) = opN code x.pc:=rfl
  have hin:inb x.pc code.length = true:=by rw [ej,War]; exact decide_eq_true hj
  rw [hin]
  obtain ⟨ok,o1,o16⟩:=hkc.ok j hj
  have o10:=hkc.k10 j hj
  simp only [cond_true,eo']
  rw [← eo] at ok o1 o10
  generalize opN code x.pc = o at *
  have hrl:=hx.regs.len
  rw [Int.toNat_natCast]
  rw [Wez (show 0 ≤ x.pc ∧ x.pc ≤ 1000000 by omega)]
  by_cases h5:o.1 = 5
  ·rw [if_pos h5,if_pos h5]
   have:=ok_5 ok h5
   have hro:=readOk_of hF hx hkc hm hn this.1 this.2
   have e4:(Q9 f.e)[k]'(by rw [f9]; simpa using hk) = x.e:=by
    simp only [f9,List.getElem_map,hxe]
   have:=Wxq (m:=m) (o:=o) (f:=f.e) (k:=k) (by rw [f9]; simpa using hk) (by rw [e4]; exact hro) hN
   rw [this]
   simp only [Option.bind_some,e4,kidRead_e]
   unfold setK
   have hkk:=kRead_kids m f x o
   rw [show Q9 (Wow m f x o).1.e = f.kids.map Kd.e by rw [← hkk]; rfl]
   exact fin9 rfl rfl hkk
  ·rw [if_neg h5,if_neg h5]
   by_cases h10:o.1 = 10
   ·rw [if_pos h10,if_pos h10,Wwe hkc hx h0 hN]
    exact fin9 rfl rfl rfl
   ·rw [if_neg h10,if_neg h10]
    by_cases h6:o.1 = 6
    ·rw [if_pos h6,if_pos h6]
     rw [Wcg (ok_6 ok h6).2 hrl,Ws (by simp; omega)]
     exact fin9 rfl rfl rfl
    ·rw [if_neg h6,if_neg h6]
     by_cases h7:o.1 = 7
     ·rw [if_pos h7,if_pos h7]
      have h:=ok_7 ok h7
      rw [Wcg h.1 hrl,Wz (a:=x.pc) (b:=o.2.2.1) (by unfold I64; omega),Wez (a:=x.pc + o.2.2.1) (by omega)]
      by_cases hg:List.getD x.regs (Int.toNat o.2.1) 0 = 0
      ·rw [if_pos hg,if_pos (show getI x.regs o.2.1 0 = 0 from hg)]
       simp only [cond_true]
       exact fin9 rfl rfl rfl
      ·rw [if_neg hg,if_neg (show ¬ getI x.regs o.2.1 0 = 0 from hg)]
       simp only [cond_true]
       exact fin9 rfl rfl rfl
     ·rw [if_neg h7,if_neg h7]
      by_cases h8:o.1 = 8
      ·rw [if_pos h8,if_pos h8]
       rw [Wcv (by omega)]
       have hml:x.marks.length ≤ 24:=by
        have:=congrArg List.length (hx.marks h0).pcs
        simp only [List.length_map] at this
        have h2:=Wdf hkc.up x.pc.toNat (by omega)
        have h3:=(Wgo code x.pc.toNat).2
        omega
       simp only [ret,Option.bind_some]
       rw [Ws (by simp; omega)]
       exact fin9 rfl rfl rfl
      ·rw [if_neg h8,if_neg h8]
       by_cases h9:o.1 = 9
       ·rw [if_pos h9,if_pos h9]
        have hM:=hx.marks h0
        have hz:x.marks.length ≠ 0:=by
         intro hz
         have h1:=congrArg List.length hM.pcs
         simp only [List.length_map,hz] at h1
         have h2:=Wdf hkc.up j (by omega)
         have h3:=hkc.up j hj
         rw [Wbz hj,Wwy (by rw [← eo]; exact h9)] at h3
         rw [ej,Int.toNat_natCast] at h1
         omega
        obtain ⟨i,q,y,e1,e2',e3',⟨hi,hi8⟩,hjp,hmate,hpe,e5,e6⟩:=Wyv (d:=((0,0,[]):KM)) hkc.toCC (show x.pc.toNat ≤ code.length by omega) hM.pcs hz
        have hlm:x.marks.length = q.length + 1:=by rw [e1]; simp
        have hml:x.marks.length ≤ 24:=by
         have:=congrArg List.length (hx.marks h0).pcs
         simp only [List.length_map] at this
         have h2:=Wdf hkc.up x.pc.toNat (by omega)
         have h3:=(Wgo code x.pc.toNat).2
         omega
        have i1:isub .i64 (ilen x.marks) 1 = (q.length:Int):=by rw [len_m1 (by omega),hlm]; omega
        have g1:List.getD x.marks (Int.toNat (q.length:Int)) ((0,0,[]):KM) = y:=by rw [e1]; simp
        have t1:List.take (Int.toNat (q.length:Int)) x.marks = x.marks.dropLast:=by rw [e1]; simp
        rw [i1,War,decide_eq_true (show q.length < x.marks.length by omega)]
        have b1:(decide ((0:Int) ≤ (q.length:Int)) && decide ((q.length:Int) ≤ (x.marks.length:Int))) = true:=by simp; omega
        rw [b1]
        simp only [cond_true,g1,t1,e2']
        rw [e3',War,decide_eq_true hi]
        have o1:List.getD code (Int.toNat ((i:Nat):Int)) ((0,0,0,0):Opn) = opN code (i:Int):=rfl
        have hr:=ok_8 (hkc.ok i hi).1 hi8
        rw [← Wvf hi] at hr
        simp only [cond_true,o1]
        rw [Wcg hr hrl]
        exact fin9 rfl rfl rfl
       ·rw [if_neg h9,if_neg h9]
        rw [Woa hN ok (by omega) (by omega) hx.regs]
        exact fin9 rfl rfl rfl
end Go.Sx
