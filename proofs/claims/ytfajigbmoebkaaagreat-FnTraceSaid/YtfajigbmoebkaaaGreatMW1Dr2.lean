/- Plain laws of the Lean functions. -/
import Derived.Test.YtfajigbmoebkaaaGreatMW1Ply2

namespace Go.Sx
set_option linter.unusedVariables false
set_option linter.unusedSimpArgs false
section
variable {N:Nat} {c:Cur}
theorem Wnp {b7:Int} {l8:List Int} (h8:l8.length = 8):∀ (n i:Nat) (c:Cur) (l:List Int),8 - i < n → i ≤ 8 → Wbp c → l.length = i →
  Drw (fun v:(List Int × List Int × Int) × Unit=>v.1.1.length = 8 ∧ v.1.2.1.length = 8) (Zcl N b7 l8 (fun i20 t21 b22 l23=>(some ((b22,()),((l8,(l23,b7)),())))) n (i:Int) c l)
 | 0,i,c,l,h,_,_,_=>by omega
 | n + 1,i,c,l,h,hi,hc,hl=>by
  unfold Zcl
  refine .bif (fun h0=>?_) fun h0=>.ok hc ⟨h8,?_⟩
  ·have h0:(i:Int) < 8:=of_decide_eq_true h0
   have e:iadd .i64 (i:Int) 1 = ((i + 1:Nat):Int):=Wi (by omega)
   simp only [e]
   refine (Whd 2 hc).bind fun c b hc _=>.bif (fun _=>?_) fun _=>?_
   ·exact (dVal hc).bind fun c v hc hv=>.bifT (Ws (by simp; omega)) (Wnp h8 n (i + 1) c _ (by omega) (by omega) hc (by simp [List.append_eq]; omega))
   ·exact .bifT (Ws (by simp; omega)) (Wnp h8 n (i + 1) c _ (by omega) (by omega) hc (by simp [List.append_eq]; omega))
  ·have h0:¬ (i:Int) < 8:=of_decide_eq_false h0
   simp only; omega
theorem dThings (hN:1048576 < N) (hc:Wbp c):Drw (fun v:(List Int × List Int × Int) × Unit=>v.1.1.length = 8 ∧ v.1.2.1.length = 8) (Zcm N c):=by
 unfold Zcm
 exact (dVals hN hc).bind fun c v hc hv=>(dVal hc).bind fun c w hc hw=>Wnp hv N 0 c [] (by omega) (by omega) hc rfl
theorem dAnyThings (hN:1048576 < N) (hc:Wbp c):Drw (fun v:(List Int × List Int × Int) × Unit=>v.1.1.length ≤ 100 ∧ v.1.2.1.length ≤ 100) (Zig N c):=by
 unfold Zig
 refine (dThings hN hc).bind fun c t hc ht=>(Wbe 16 hc).bind fun c v hc hv=>.bif (fun _=>?_) fun _=>.bif (fun _=>?_) fun _=>.bif (fun _=>.ok hc (by simp only; omega)) fun _=>.bif (fun _=>?_) fun _=>.bif (fun _=>?_) fun _=>.ok hc (by simp only; omega)
 ·refine .bifT (by rw [ht.1]; rfl) (.ok hc ?_)
  simp only [List.length_take]; omega
 ·refine (Wbe 8 hc).bind fun c k hc hk=>?_
  have hk:=hk.2 (by decide)
  refine .bifT (by unfold inb; rw [ht.2]; simp; omega) (.ok hc ?_)
  simp only [List.length_set]; omega
 ·refine .bifT (by rw [ht.2]; rfl) (.ok hc ?_)
  simp only [List.length_take]; omega
 ·refine (Wbe 8 hc).bind fun c k hc hk=>?_
  have hk:=hk.2 (by decide)
  refine .bifT (by unfold inb; rw [ht.1]; simp; omega) (.ok hc ?_)
  simp only [List.length_set]; omega
theorem PB_of {p:Pg} (h:p.1.length ≤ 300 ∧ p.2.length ≤ 100 ∧ ∀ x ∈ p.2,x.length ≤ 200):PB p:=⟨by omega,by omega,fun x hx=>by have:=h.2.2 x hx; omega⟩
theorem dAnyProg (hN:1048576 < N) (hc:Wbp c):Drw (fun v:Pg × Unit=>PB v.1) (Zjn N c):=by
 unfold Zjn
 refine (Whd 2 hc).bind fun c b hc _=>(dProg hN hc).bind fun c p hc hp=>(Wbe 10 hc).bind fun c v hc hv=>.bif (fun _=>?_) fun _=>.bif (fun _=>.bif (fun h0=>?_) fun _=>.ok hc (PB_of hp)) fun _=>.bif (fun _=>?_) fun _=>.bif (fun _=>.ok hc ⟨by have:=hp.1; simp only; omega,by simp,by simp⟩) fun _=>.ok hc (PB_of hp)
 ·exact (dBend hN hc (by have:=hp.1; simp only; omega)).bind fun c w hc hw=>.ok hc ⟨by simp only; omega,by have:=hp.2.1; simp only; omega,fun x hx=>by have:=hp.2.2 x hx; omega⟩
 ·have h0:ilen p.1.2 > 0:=of_decide_eq_true h0
  refine (Wbe (ilen p.1.2) hc).bind fun c k hc hk=>?_
  have hk:=hk.2 h0
  unfold ilen at hk
  have hki:inb k.1 p.1.2.length = true:=by unfold inb; simp; omega
  refine .bifT hki ((dBend hN hc ?_).bind fun c w hc hw=>.bifT hki (.ok hc ⟨by have:=hp.1; simp only; omega,by have:=hp.2.1; simp only [List.length_set]; omega,fun x hx=>?_⟩))
  ·rw [Wm (show k.1.toNat < p.1.2.length by omega)]
   have:=hp.2.2 _ (List.getElem_mem (show k.1.toNat < p.1.2.length by omega)); omega
  ·rcases List.mem_or_eq_of_mem_set hx with hx | hx
   ·have:=hp.2.2 x hx; omega
   ·subst hx; show w.1.length ≤ 1000; omega
 ·refine .bifT (Ws (by have:=hp.2.1; simp; omega)) (.ok hc ⟨by have:=hp.1; simp only; omega,by have:=hp.2.1; simp [List.append_eq]; omega,fun x hx=>?_⟩)
  simp [List.append_eq] at hx
  rcases hx with hx | hx
  ·have:=hp.2.2 x hx; omega
  ·subst hx; simp
theorem dActs_lp {n4 most5:Int} (hm:most5 ≤ 600):∀ (n i:Nat) (who:Int) (c:Cur) (l:List Ac),1000 - i < n → i ≤ 700 → Wbp c → l.length = i →
  Drw (fun v:List Ac × Unit=>v.1.length ≤ 700) (Z0 N n4 most5 (fun who43 i44 t45 b46 l47=>(some ((b46,()),(l47,())))) n who (i:Int) c l)
 | 0,i,who,c,l,h,_,_,_=>by omega
 | n + 1,i,who,c,l,h,hi,hc,hl=>by
  unfold Z0
  refine .bif (fun h0=>?_) fun h0=>.ok hc (by simp only; omega)
  have h0:(i:Int) < most5:=of_decide_eq_true h0
  have e:iadd .i64 (i:Int) 1 = ((i + 1:Nat):Int):=Wi (by omega)
  simp only [e]
  have hr:∀ (a:Ac),room (l.length + [a].length) = true:=fun a=>Ws (by simp; omega)
  have hrec:∀ (who:Int) (c:Cur) (a:Ac),Wbp c → Drw (fun v:List Ac × Unit=>v.1.length ≤ 700) (Z0 N n4 most5 (fun who43 i44 t45 b46 l47=>(some ((b46,()),(l47,())))) n who ((i + 1:Nat):Int) c (List.append l [a])):=fun who c a hc=>dActs_lp hm n (i + 1) who c _ (by omega) (by omega) hc (by simp [List.append_eq]; omega)
  refine (Whd 3 hc).bind fun c b hc _=>.bif (fun _=>?_) fun _=>?_
  ·refine (Wbe n4 hc).bind fun c k hc _=>(Whd 2 hc).bind fun c b hc _=>.bif (fun _=>?_) fun _=>?_
   ·refine (Wbe 3 hc).bind fun c j hc _=>(Whd 2 hc).bind fun c b hc _=>.bif (fun _=>?_) fun _=>?_
    ·exact (Whd 40 hc).bind fun c b hc _=>.bif (fun _=>.bifT (hr _) (hrec _ _ _ hc)) fun _=>.bifT (hr _) (hrec _ _ _ hc)
    ·exact (Whd 40 hc).bind fun c b hc _=>.bif (fun _=>.bifT (hr _) (hrec _ _ _ hc)) fun _=>.bifT (hr _) (hrec _ _ _ hc)
   ·exact (Whd 40 hc).bind fun c b hc _=>.bif (fun _=>.bifT (hr _) (hrec _ _ _ hc)) fun _=>.bifT (hr _) (hrec _ _ _ hc)
  ·refine (Whd 2 hc).bind fun c b hc _=>.bif (fun _=>?_) fun _=>?_
   ·refine (Wbe 3 hc).bind fun c j hc _=>(Whd 2 hc).bind fun c b hc _=>.bif (fun _=>?_) fun _=>?_
    ·exact (Whd 40 hc).bind fun c b hc _=>.bif (fun _=>.bifT (hr _) (hrec _ _ _ hc)) fun _=>.bifT (hr _) (hrec _ _ _ hc)
    ·exact (Whd 40 hc).bind fun c b hc _=>.bif (fun _=>.bifT (hr _) (hrec _ _ _ hc)) fun _=>.bifT (hr _) (hrec _ _ _ hc)
   ·exact (Whd 40 hc).bind fun c b hc _=>.bif (fun _=>.bifT (hr _) (hrec _ _ _ hc)) fun _=>.bifT (hr _) (hrec _ _ _ hc)
theorem dActs (hN:1048576 < N) {n4 most5:Int} (hm:most5 ≤ 600) (hc:Wbp c):Drw (fun v:List Ac × Unit=>v.1.length ≤ 700) (Zc3 N c n4 most5):=by
 unfold Zc3
 exact dActs_lp hm N 0 0 c [] (by omega) (by omega) hc rfl
structure SD (s:Sc):Prop where
 cells:s.1.1.length = 8
 map:s.1.2.1.length = 8
 progs:1 ≤ s.2.1.length ∧ s.2.1.length ≤ 10
 each:∀ p ∈ s.2.1,PB p
 acts:s.2.2.length ≤ 700
theorem Wtq (hN:1048576 < N) {n8 b12 most7:Int} {l13 l14:List Int} (hm:0 ≤ most7 ∧ most7 ≤ 500) (h13:l13.length = 8) (h14:l14.length = 8) (h8:1 ≤ n8 ∧ n8 ≤ 4):∀ (n i:Nat) (c:Cur) (l:List Pg),10 - i < n → i ≤ 4 → Wbp c → l.length = i → (∀ p ∈ l,PB p) →
  Drw (fun v:Sc × Unit=>SD v.1) (Zbj N 0 most7 n8 b12 l13 l14 (fun i32 t33 b34 l35 =>
  ((Zb N b34 (iadd .i64 most7 (1:Int))).bind fun o36 =>
 ((Zc3 N o36.1.1 n8 o36.2.1).bind fun o37 =>
 (some ((o37.1.1,()),(((l13,(l14,b12)),(l35,o37.2.1)),())))))) n (i:Int) c l)
 | 0,i,c,l,h,_,_,_,_=>by omega
 | n + 1,i,c,l,h,hi,hc,hl,hx=>by
  unfold Zbj
  refine .bif (fun h0=>?_) fun h0=>?_
  ·have h0:(i:Int) < n8:=of_decide_eq_true h0
   have e:iadd .i64 (i:Int) 1 = ((i + 1:Nat):Int):=Wi (by omega)
   simp only [e,show ((0:Int) == 2) = false from rfl,show ((0:Int) == 0) = true from rfl,cond_false,cond_true]
   refine (Whd 3 hc).bind fun c b hc _=>(dProg hN hc).bind fun c p hc hp=>.bifT (Ws (by simp; omega)) (Wtq hN hm h13 h14 h8 n (i + 1) c _ (by omega) (by omega) hc (by simp [List.append_eq]; omega) fun q hq=>?_)
   simp [List.append_eq] at hq
   rcases hq with hq | hq
   ·exact hx q hq
   ·subst hq; exact PB_of hp
  ·have h0:¬ (i:Int) < n8:=of_decide_eq_false h0
   have e:iadd .i64 most7 1 = most7 + 1:=Wz (by unfold I64; omega)
   simp only [e]
   refine (Wbe (most7 + 1) hc).bind fun c k hc hk=>?_
   have hk:=hk.2 (by omega)
   refine (dActs (most5:=k.1) hN (by omega) hc).bind fun c a hc ha=>.ok hc ⟨h13,h14,by simp only; omega,hx,ha⟩
theorem dScript (hN:1048576 < N) {most:Int} (hm:0 ≤ most ∧ most ≤ 500) (hc:Wbp c):Drw (fun v:Sc × Unit=>SD v.1) (Zcs N c 0 most):=by
 unfold Zcs
 refine (dThings hN hc).bind fun c t hc ht=>(Wbe 4 hc).bind fun c k hc hk=>?_
 have hk:=hk.2 (by decide)
 have e:iadd .i64 1 k.1 = 1 + k.1:=Wz (by unfold I64; omega)
 simp only [e]
 exact Wtq hN hm ht.1 ht.2 (by omega) N 0 c [] (by omega) (by omega) hc rfl (by simp)
theorem SD.sb {s:Sc} (h:SD s):SB s:=⟨by have:=h.cells; omega,by have:=h.map; omega,by have:=h.progs; omega,h.each,by have:=h.acts; omega⟩
theorem dAny0_lp {b7:Cur} {b9:Int} {l10 l11:List Int} {l13:List Ac} (hb:Wbp b7) (h10:l10.length = 8) (h11:l11.length = 8) (h13:l13.length ≤ 700):∀ (n:Nat) (l:List Pg),20 - l.length < n → l.length ≤ 11 → (∀ p ∈ l,PB p) →
  Drw (fun v:Sc × Unit=>SB v.1) (Zfw N b7 b9 l10 l11 l13 (fun t16 l17=>(some ((b7,()),(((l10,(l11,b9)),(l17,l13)),())))) n l)
 | 0,l,h,_,_=>by omega
 | n + 1,l,h,hl,hx=>by
  unfold Zfw
  refine .bif (fun h0=>?_) fun h0=>.ok hb ⟨by simp only; omega,by simp only; omega,by simp only; omega,hx,by simp only; omega⟩
  have h0:ilen l < 5:=of_decide_eq_true h0
  unfold ilen at h0
  refine .bifT (Ws (by simp; omega)) (dAny0_lp hb h10 h11 h13 n _ (by simp [List.append_eq]; omega) (by simp [List.append_eq]; omega) fun q hq=>?_)
  simp [List.append_eq] at hq
  rcases hq with hq | hq
  ·exact hx q hq
  ·subst hq; exact ⟨by simp,by simp,by simp⟩
theorem dAny1_lp {b20:Int} {l21 l22:List Int} {l23:List Pg} (h21:l21.length = 8) (h22:l22.length = 8) (h23:l23.length ≤ 11) (hx:∀ p ∈ l23,PB p):∀ (n:Nat) (c:Cur) (l:List Ac),1000 - l.length < n → Wbp c → l.length ≤ 800 →
  Drw (fun v:Sc × Unit=>SB v.1) (Zfx N b20 l21 l22 l23 (fun t31 b32 l33=>(some ((b32,()),(((l21,(l22,b20)),(l23,l33)),())))) n c l)
 | 0,c,l,h,_,_=>by omega
 | n + 1,c,l,h,hc,hl=>by
  unfold Zfx
  refine (Wbe 2 hc).bind fun c v hc hv=>?_
  have hv:=hv.2 (by decide)
  have e:iadd .i64 400 v.1 = 400 + v.1:=Wz (by unfold I64; omega)
  simp only [e]
  refine .bif (fun h0=>?_) fun h0=>.ok hc ⟨by simp only; omega,by simp only; omega,by simp only; omega,hx,by simp only; omega⟩
  have h0:ilen l < 400 + v.1:=of_decide_eq_true h0
  unfold ilen at h0
  exact .bifT (Ws (by simp; omega)) (dAny1_lp h21 h22 h23 hx n c _ (by simp [List.append_eq]; omega) hc (by simp [List.append_eq]; omega))
theorem dAny17 (hN:1048576 < N) {most:Int} (hm:0 ≤ most ∧ most ≤ 500) (hc:Wbp c):Drw (fun v:Sc × Unit=>SB v.1) (Zf6 N c most):=by
 unfold Zf6
 refine (dScript hN hm hc).bind fun c s hc hs=>(Wbe 30 hc).bind fun c v hc hv=>.bif (fun _=>?_) fun _=>.bif (fun _=>?_) fun _=>.bif (fun _=>?_) fun _=>.bif (fun _=>?_) fun _=>.bif (fun _=>?_) fun _=>.ok hc hs.sb
 ·exact (dAnyThings hN hc).bind fun c t hc ht=>.ok hc ⟨ht.1,ht.2,by have:=hs.progs; simp only; omega,hs.each,by have:=hs.acts; simp only; omega⟩
 ·refine (dAnyProg hN hc).bind fun c p hc hp=>.bifT (by unfold inb; have:=hs.progs; simp; omega) (.ok hc ⟨by have:=hs.cells; simp only; omega,by have:=hs.map; simp only; omega,by have:=hs.progs; simp only [List.length_set]; omega,fun q hq=>?_,by have:=hs.acts; simp only; omega⟩)
  rcases List.mem_or_eq_of_mem_set hq with hq | hq
  ·exact hs.each q hq
  ·subst hq; exact hp
 ·exact dAny0_lp hc hs.cells hs.map hs.acts N s.1.2.1 (by omega) (by have:=hs.progs; omega) hs.each
 ·exact .bifT (Ws (by have:=hs.acts; simp; omega)) (.ok hc ⟨by have:=hs.cells; simp only; omega,by have:=hs.map; simp only; omega,by have:=hs.progs; simp only; omega,hs.each,by have:=hs.acts; simp [List.append_eq]; omega⟩)
 ·exact dAny1_lp hs.cells hs.map (l23:=s.1.2.1) (by have:=hs.progs; omega) hs.each N c s.1.2.2 (by omega) hc (by have:=hs.acts; omega)
end
end Go.Sx
