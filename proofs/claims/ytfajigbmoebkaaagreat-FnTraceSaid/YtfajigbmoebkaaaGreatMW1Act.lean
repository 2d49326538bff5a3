/- Plain laws of the Lean functions. -/
import Derived.Test.YtfajigbmoebkaaaGreatMW1RtI

namespace Go.Sx
set_option linter.unusedVariables false
set_option linter.unusedSimpArgs false
section
variable {N:Nat} {w:Wo} {k:Nat} {x:Rt} {p:Pg} {n:Int} {ps:List Pg}
theorem rCommit_ok (h:GOk w) (hx:ROk p n x) (h5:x.phase = 5) (hk:k ≤ 8):QOk p n w (Wij w x k):=by
 have hc:=hx.comm h5
 unfold Wij
 split
 ·split
  ·exact h.st (Wjo hx)
  ·refine h.st ?_
   exact { hx with live:=fun hh=>by (change 1 ≤ x.phase ∧ x.phase ≤ 4 at hh; omega),comm:=fun _=>cmBreak_ok hc }
 ·have hst:=Wxm hc h.mem
  obtain ⟨m',c',hq⟩:∃ m' c',Wlp w.mem x.cm = (m',c'):=⟨_,_,rfl⟩
  simp only [hq] at hst ⊢
  refine ⟨?_,hst.2,h.shelf,h.holds,?_,?_,rfl,rfl⟩
  ·have hy:ROk p n { x with cm:=c' }:={ hx with live:=fun hh=>by (change 1 ≤ x.phase ∧ x.phase ≤ 4 at hh; omega),comm:=fun _=>hst.1 }
   unfold cmDone
   simp only
   split
   ·exact Wjo hy
   ·split
    ·have hph:(if x.fate = 2 then (6:Int) else 7) = 6 ∨ (if x.fate = 2 then (6:Int) else 7) = 7:=by split <;> simp
     generalize (if x.fate = 2 then (6:Int) else 7) = ph at *
     exact { hx with
      phase:=by show 0 ≤ ph ∧ ph ≤ 8; omega
      live:=fun hh=>by (change 1 ≤ ph ∧ ph ≤ 4 at hh; omega)
      comm:=fun hh=>by (change ph = 5 at hh; omega) }
    ·exact hy
  ·simp only
   split <;> simp
  ·simp only
   intro h hh
   split at hh
   ·rcases List.mem_append.1 hh with hh | hh
    ·exact .inl hh
    ·rw [List.mem_singleton] at hh; subst hh
     exact .inr ⟨hst.1.plen,hst.1.rows,by simp only; omega,by simp only; omega⟩
   ·exact .inl hh
theorem rStep_ok (hp:POk p) (h:GOk w) (hx:ROk p n x) (hk:k ≤ 8) (hn:0 ≤ n):QOk p (n + 1) w (Wur w x k p):=by
 have hx':=hx.wk (show n ≤ n + 1 by omega)
 unfold Wur
 by_cases hd:x.doomed = true ∧ 1 ≤ x.phase ∧ x.phase ≤ 4
 ·rw [if_pos hd]; exact h.st (Wjo hx')
 rw [if_neg hd]
 by_cases h0:x.phase = 0
 ·rw [if_pos h0]; exact rIdle_ok h hx' h0 (by omega)
 rw [if_neg h0]
 by_cases h1:x.phase = 1
 ·rw [if_pos h1]; exact rRun_ok hp h hx' h1 hk (by omega)
 rw [if_neg h1]
 by_cases h2:x.phase = 2
 ·rw [if_pos h2]; exact h.st (rFork_ok hp hx' h2)
 rw [if_neg h2]
 by_cases h3:x.phase = 3
 ·rw [if_pos h3]; exact rUnwind_ok hp h hx' h3
 rw [if_neg h3]
 by_cases h4:x.phase = 4
 ·rw [if_pos h4]; exact h.st (rExtend_ok hp h hx' h4)
 rw [if_neg h4]
 by_cases h5:x.phase = 5
 ·rw [if_pos h5]; exact rCommit_ok h hx' h5 hk
 rw [if_neg h5]
 by_cases h6:x.phase = 6
 ·rw [if_pos h6]
  by_cases hz:x.undos.length > 0
  ·rw [if_pos hz]; exact Wwz h hx' (by omega) fun hh=>by omega
  ·rw [if_neg hz]
   refine h.st ?_
   exact { hx' with
    phase:=by show (0:Int) ≤ 7 ∧ (7:Int) ≤ 8; omega
    live:=fun hh=>by (change (1:Int) ≤ 7 ∧ (7:Int) ≤ 4 at hh; omega)
    comm:=fun hh=>by (change (7:Int) = 5 at hh; omega) }
 rw [if_neg h6]
 by_cases h7:x.phase = 7
 ·rw [if_pos h7]
  have hg:GOk { w with holds:=Waz w.holds ((k:Int) + 1) }:=⟨h.mem,h.shelf,Wqv h.holds⟩
  by_cases hf:x.fate = 0
  ·rw [if_pos hf]
   refine ⟨?_,h.mem,h.shelf,Wqv h.holds,by simp,fun _ hh=>.inl hh,rfl,rfl⟩
   exact {
    phase:=by show (0:Int) ≤ 0 ∧ (0:Int) ≤ 8; omega
    tries:=by have:=hx.tries; show 0 ≤ x.tries + 1 ∧ x.tries + 1 ≤ n + 1; omega
    live:=fun hh=>by (change (1:Int) ≤ 0 ∧ (0:Int) ≤ 4 at hh; omega)
    comm:=fun hh=>by (change (0:Int) = 5 at hh; omega)
    undos:=fun u hu=>by cases hu
    ul:=by simp
    rg:=by simp
    ord:=by simp }
  ·rw [if_neg hf]
   have:=rEnd_ok (k:=k) hg hx'
   exact ⟨this.root,this.mem,this.shelf,this.holds,this.hist,this.histE,this.roots,this.now⟩
 ·rw [if_neg h7]; exact h.st hx'
theorem step_run (hk:k < w.roots.length) (hxe:w.roots[k] = x) (hl4:w.roots.length ≤ 8) (hp:POk p) (h:GOk w) (hx:ROk p n x) (hn:n ≤ 200000) (hh:w.hist.length ≤ 500000) (hN:1048576 < N) :
  Zhb N w.e (k:Int) p = some (((Wo.put (Wur w x k p) k).e,()),()):=by
 obtain ⟨g1,g2,g3,g4,g5⟩:=woG hk hxe
 obtain ⟨r0,r1,r2,r3,r4,r5,r6,r7,r8,r11,r12,r13,r14,r15,r16,r18,r19,r20,r21,r24,r28,r29⟩:=rtP x
 have hk8:k ≤ 8:=by omega
 have hself:=put_self hk hxe
 have htr:=hx.tries
 have hxul:=hx.ul
 have hhl:=Wvs h.holds
 unfold Zhb Wur
 simp only [Wq]
 rw [show P5 w.e = w.roots.map Rt.e from rfl,g4,g2,Wez (by omega),Wez (show 0 ≤ x.e.2.1 ∧ x.e.2.1 ≤ 1000000 by show 0 ≤ x.tries ∧ x.tries ≤ _; omega)]
 simp (maxSteps:=4000000) only [g3,r0,r7,r11,r16,cond_true,Wk,ret,Option.bind_some,Wju,Ww,Wby,show w.e.2.2.1.1 = w.mem.1 from rfl,ilen,show P4 w.e = w.holds from rfl]
 rw [Wox h.holds (by omega) hN]
 simp only [ret,Option.bind_some]
 have hS4:S4 (Waz w.holds ((k:Int) + 1)) w.e = Wo.e { w with holds:=Waz w.holds ((k:Int) + 1) }:=rfl
 have g3':S5 (List.set (w.roots.map Rt.e) (Int.toNat (k:Int)) x.e) (S4 (Waz w.holds ((k:Int) + 1)) w.e) = Wo.e { w with holds:=Waz w.holds ((k:Int) + 1) }:=(woG (w:={ w with holds:=Waz w.holds ((k:Int) + 1) }) hk hxe).2.2.1
 rw [g3',end_run (w:={ w with holds:=Waz w.holds ((k:Int) + 1) }) hk hxe (by omega),idle_run hk hxe hl4 hN]
 have hrest:∀ (A:Option ((Y_World × Unit) × Unit)),A = some (((Wo.put (
   if x.phase = 0 then Wuu w x k else
   if x.phase = 1 then rRun w x k p else
   if x.phase = 2 then (w,Wyb x) else
   if x.phase = 3 then Wlk w x else
   if x.phase = 4 then (w,Wjh w x) else
   if x.phase = 5 then Wij w x k else
   if x.phase = 6 then (if x.undos.length > 0 then Wsa w x else (w,{ x with phase:=7 })) else
   if x.phase = 7 then
    (if x.fate = 0 then ({ w with holds:=Waz w.holds ((k:Int) + 1) },{ tries:=x.tries + 1 })
     else rEnd { w with holds:=Waz w.holds ((k:Int) + 1) } x k)
   else (w,x)) k).e,()),()) → ¬ (x.doomed = true ∧ 1 ≤ x.phase ∧ x.phase ≤ 4) → A = some (((Wo.put (
   if x.doomed = true ∧ 1 ≤ x.phase ∧ x.phase ≤ 4 then (w,Wup x) else
   if x.phase = 0 then Wuu w x k else
   if x.phase = 1 then rRun w x k p else
   if x.phase = 2 then (w,Wyb x) else
   if x.phase = 3 then Wlk w x else
   if x.phase = 4 then (w,Wjh w x) else
   if x.phase = 5 then Wij w x k else
   if x.phase = 6 then (if x.undos.length > 0 then Wsa w x else (w,{ x with phase:=7 })) else
   if x.phase = 7 then
    (if x.fate = 0 then ({ w with holds:=Waz w.holds ((k:Int) + 1) },{ tries:=x.tries + 1 })
     else rEnd { w with holds:=Waz w.holds ((k:Int) + 1) } x k)
   else (w,x)) k).e,()),()):=fun A hA hn=>by rw [if_neg hn]; exact hA
 have hmain:(if x.phase = 0 then (some (((Wo.put (Wuu w x k) k).e,()),()):Option ((Y_World × Unit) × Unit)).bind (fun o6=>some ((o6.1.1,()),()))
   else if x.phase = 1 then (Zht N w.e (k:Int) p).bind (fun o7=>some ((o7.1.1,()),()))
   else if x.phase = 2 then (Zhu N x.e).bind (fun o8=>some ((S5 (List.set (w.roots.map Rt.e) (Int.toNat (k:Int)) o8.1.1) w.e,()),()))
   else if x.phase = 3 then (Zdr N x.e).bind (fun o9=>if (x.undos.length:Int) > o9.2.1.2.2.2 then (Zci N w.e (Int.toNat (k:Int))).bind (fun o10=>some ((o10.1.1,()),())) else some ((S5 (List.set (w.roots.map Rt.e) (Int.toNat (k:Int)) (S6 0 (S5 w.mem.1 (S0 4 x.e)))) w.e,()),()))
   else if x.phase = 4 then (Zge N w.e (Int.toNat (k:Int))).bind (fun o11=>some ((o11.1.1,()),()))
   else if x.phase = 5 then (Zgf N w.e (k:Int)).bind (fun o12=>some ((o12.1.1,()),()))
   else if x.phase = 6 then (if (x.undos.length:Int) > 0 then (Zci N w.e (Int.toNat (k:Int))).bind (fun o13=>some ((o13.1.1,()),())) else some ((S5 (List.set (w.roots.map Rt.e) (Int.toNat (k:Int)) (7,x.e.2)) w.e,()),()))
   else if x.phase = 7 then (if x.fate = 0 then some ((S5 (List.set (w.roots.map Rt.e) (Int.toNat (k:Int)) ((0:Int),(x.e.2.1 + 1,((0:Int),((0:Int),((0:Int),((0:Int),((0:Int),((0:Int),((0:Int),((0:Int),((0:Int),(false,(([]:List Int),(([]:List (Int × Int)),(([]:List (Int × Int)),(([]:List (Int × Int × Int × Int × List Int)),(([]:List (Int × Int × Int)),(([]:List Int),(false,(((0:Int),((0:Int),((0:Int),(0:Int)))),(((0:Int),((0:Int),((0:Int),((0:Int),((0:Int),(([]:List (Int × Int)),([]:List Int))))))),d_Family)))))))))))))))))))))) (S4 (Waz w.holds ((k:Int) + 1)) w.e),()),()) else (some (((Wo.put (rEnd { w with holds:=Waz w.holds ((k:Int) + 1) } x k) k).e,()),()):Option ((Y_World × Unit) × Unit)).bind (fun o15=>some ((o15.1.1,()),())))
   else some ((w.e,()),())) = some (((Wo.put (
   if x.phase = 0 then Wuu w x k else
   if x.phase = 1 then rRun w x k p else
   if x.phase = 2 then (w,Wyb x) else
   if x.phase = 3 then Wlk w x else
   if x.phase = 4 then (w,Wjh w x) else
   if x.phase = 5 then Wij w x k else
   if x.phase = 6 then (if x.undos.length > 0 then Wsa w x else (w,{ x with phase:=7 })) else
   if x.phase = 7 then
    (if x.fate = 0 then ({ w with holds:=Waz w.holds ((k:Int) + 1) },{ tries:=x.tries + 1 })
     else rEnd { w with holds:=Waz w.holds ((k:Int) + 1) } x k)
   else (w,x)) k).e,()),()):=by
  rw [Int.toNat_natCast]
  by_cases h0:x.phase = 0
  ·rw [if_pos h0,if_pos h0]; rfl
  ·rw [if_neg h0,if_neg h0]
   by_cases h1:x.phase = 1
   ·rw [if_pos h1,if_pos h1,run_run hk hxe hk8 hp (hx.live (by omega)) hx.undos h.mem h.shelf h.holds hN]; rfl
   ·rw [if_neg h1,if_neg h1]
    by_cases h2:x.phase = 2
    ·rw [if_pos h2,if_pos h2,fork_run hp (hx.live (by omega)) h2 hN]
     exact finW rfl rfl rfl
    ·rw [if_neg h2,if_neg h2]
     by_cases h3:x.phase = 3
     ·have hl:=hx.live (by omega)
      obtain ⟨z1,z2,z3,z4,z5,z6⟩:=hl.sz hp.code
      rw [if_pos h3,if_pos h3,Wzl (hl.back (.inl h3)) (by omega)]
      simp only [Option.bind_some]
      have hlast:=(hl.mk24 hp.code (hl.back (.inl h3)))
      obtain ⟨m,q,e1,e2,_,_,_,_,_,_,_,_,_,e14⟩:=hlast
      unfold Wlk
      by_cases hgt:(x.undos.length:Int) > x.last.2.2.2.1
      ·rw [if_pos hgt,if_pos hgt,Wuq hk hxe (by omega) (by omega) hx.undos h.shelf hN]; rfl
      ·rw [if_neg hgt,if_neg hgt]; exact finW rfl rfl rfl
     ·rw [if_neg h3,if_neg h3]
      by_cases h4:x.phase = 4
      ·rw [if_pos h4,if_pos h4,extend_run hk hxe hp (hx.live (by omega)) h4 h.mem]; rfl
      ·rw [if_neg h4,if_neg h4]
       by_cases h5:x.phase = 5
       ·rw [if_pos h5,if_pos h5,commit_run hk hxe hk8 (hx.comm h5) h.mem hh hN]; rfl
       ·rw [if_neg h5,if_neg h5]
        by_cases h6:x.phase = 6
        ·rw [if_pos h6,if_pos h6]
         by_cases hz:x.undos.length > 0
         ·rw [if_pos (by omega),if_pos hz,Wuq hk hxe (by omega) (by omega) hx.undos h.shelf hN]; rfl
         ·rw [if_neg (by omega),if_neg hz]; exact finW rfl rfl rfl
        ·rw [if_neg h6,if_neg h6]
         by_cases h7:x.phase = 7
         ·rw [if_pos h7,if_pos h7]
          by_cases hf:x.fate = 0
          ·rw [if_pos hf,if_pos hf,hS4]
           exact finW (w:=w) (w':={ w with holds:=Waz w.holds ((k:Int) + 1) }) (x':={ tries:=x.tries + 1 }) rfl rfl rfl
          ·rw [if_neg hf,if_neg hf]; rfl
         ·rw [if_neg h7,if_neg h7,hself]
 rw [Wpd]
 by_cases hd:x.doomed = true
 ·rw [if_pos hd]
  by_cases hph:1 ≤ x.phase ∧ x.phase ≤ 4
  ·rw [decide_eq_true hph.1,decide_eq_true hph.2,if_pos (show x.doomed = true ∧ 1 ≤ x.phase ∧ x.phase ≤ 4 from ⟨hd,hph⟩),Int.toNat_natCast]
   exact finW rfl rfl rfl
  ·have hb:(decide (1 ≤ x.phase) && decide (x.phase ≤ 4)) = false:=by
    rw [Bool.and_eq_false_iff,decide_eq_false_iff_not,decide_eq_false_iff_not]; omega
   rw [hb]
   exact hrest _ hmain (fun hc=>hph hc.2)
 ·rw [if_neg hd]
  exact hrest _ hmain (fun hc=>hd hc.1)
end
end Go.Sx
