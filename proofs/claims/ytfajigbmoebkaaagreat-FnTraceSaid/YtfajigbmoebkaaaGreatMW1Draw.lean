/- Plain laws of the Lean functions. -/
import Derived.Test.YtfajigbmoebkaaaGreatMW1Cur

namespace Go.Sx
set_option linter.unusedVariables false
set_option linter.unusedSimpArgs false
def Drw {ρ:Type} (P:ρ → Prop) (r:Option ((Cur × Unit) × ρ)):Prop:=∃ c v,r = some ((c,()),v) ∧ Wbp c ∧ P v
theorem Drw.of {α:Type} {P:α → Prop} {r:Option ((Cur × Unit) × (α × Unit))} (h:Draws P r):Drw (fun v:α × Unit=>P v.1) r:=by
 obtain ⟨c,v,e,h1,h2⟩:=h
 exact ⟨c,(v,()),e,h1,h2⟩
theorem Drw.bind {ρ σ:Type} {P:ρ → Prop} {Q:σ → Prop} {r:Option ((Cur × Unit) × ρ)} {k:(Cur × Unit) × ρ → Option ((Cur × Unit) × σ)} (h:Drw P r) (hk:∀ c v,Wbp c → P v → Drw Q (k ((c,()),v))):Drw Q (r.bind k):=by
 obtain ⟨c,v,e,h1,h2⟩:=h
 rw [e]
 exact hk c v h1 h2
theorem Drw.ok {ρ:Type} {P:ρ → Prop} {c:Cur} {v:ρ} (hc:Wbp c) (hv:P v):Drw P (some ((c,()),v)):=⟨c,v,rfl,hc,hv⟩
theorem Drw.bif {ρ:Type} {P:ρ → Prop} {b:Bool} {x y:Option ((Cur × Unit) × ρ)} (h1:b = true → Drw P x) (h2:b = false → Drw P y):Drw P (bif b then x else y):=by
 cases b
 ·exact h2 rfl
 ·exact h1 rfl
theorem Drw.bifT {ρ:Type} {P:ρ → Prop} {b:Bool} {x y:Option ((Cur × Unit) × ρ)} (hb:b = true) (h1:Drw P x):Drw P (bif b then x else y):=by rw [hb]; exact h1
theorem Drw.mono {ρ:Type} {P Q:ρ → Prop} {r:Option ((Cur × Unit) × ρ)} (h:Drw P r) (hq:∀ v,P v → Q v):Drw Q r:=by
 obtain ⟨c,v,e,h1,h2⟩:=h
 exact ⟨c,v,e,h1,hq v h2⟩
section
variable {N:Nat} {c:Cur}
theorem Wbe (n:Int) (h:Wbp c):Drw (fun v:Int × Unit=>(n ≤ 0 → v.1 = 0) ∧ (0 < n → 0 ≤ v.1 ∧ v.1 < n)) (Zb N c n):=.of (Wnj h)
theorem Whd (n:Int) (h:Wbp c):Drw (fun _:Bool × Unit=>True) (Zw N c n):=.of (once_draw h)
theorem dPick (l:List Int) (h:Wbp c) (hl:0 < l.length) (hl2:l.length < 1000):Drw (fun v:Int × Unit=>v.1 ∈ l) (Zbo N c l):=.of (pick_draw h hl (by omega))
theorem dReg (h:Wbp c):Drw (fun v:Int × Unit=>0 ≤ v.1 ∧ v.1 ≤ 3) (Za N c):=by
 unfold Za
 exact (Wbe 4 h).bind fun c v hc hv=>.ok hc (by have:=hv.2 (by decide); simp only []; omega)
theorem dVal (h:Wbp c):Drw (fun v:Int × Unit=>0 ≤ v.1 ∧ v.1 ≤ 65535) (Zg8 N c):=by
 unfold Zg8
 refine (Whd 6 h).bind fun c v hc _=>.bif (fun _=>?_) fun _=>?_
 ·refine (dPick _ hc (by decide) (by decide)).bind fun c v hc hv=>.ok hc ?_
  simp only [List.mem_cons,List.not_mem_nil,or_false] at hv ⊢
  omega
 ·exact (Wbe 9 hc).bind fun c v hc hv=>.ok hc (by have:=hv.2 (by decide); simp only []; omega)
theorem dCell (h:Wbp c):Drw (fun v:Int × Unit=>0 ≤ v.1 ∧ v.1 ≤ 7) (Zbx N c):=by
 unfold Zbx
 refine (Whd 8 h).bind fun c v hc _=>.bif (fun _=>?_) fun _=>?_
 ·exact (Wbe 8 hc).bind fun c v hc hv=>.ok hc (by have:=hv.2 (by decide); simp only []; omega)
 ·exact (Wbe 3 hc).bind fun c v hc hv=>.ok hc (by have:=hv.2 (by decide); simp only []; omega)
theorem dKey (h:Wbp c):Drw (fun v:Int × Unit=>True) (Zk N c):=by
 unfold Zk
 refine (Whd 4 h).bind fun c v hc _=>.bif (fun _=>?_) fun _=>?_
 ·exact (Wbe 8 hc).bind fun c v hc hv=>.ok hc trivial
 ·exact (dPick _ hc (by decide) (by decide)).bind fun c v hc hv=>.ok hc trivial
theorem dPlain (kind:Int) (h:Wbp c):Drw (fun _:Opn × Unit=>True) (Zj N c kind):=by
 unfold Zj
 repeat' first
  | with_reducible refine Drw.bif (fun _=>?_) fun _=>?_
  | with_reducible refine (dReg (by assumption)).bind fun c v hc hv=>?_
  | with_reducible refine (dVal (by assumption)).bind fun c v hc hv=>?_
  | with_reducible refine (dCell (by assumption)).bind fun c v hc hv=>?_
  | with_reducible refine (dKey (by assumption)).bind fun c v hc hv=>?_
  | with_reducible refine (Wbe _ (by assumption)).bind fun c v hc hv=>?_
  | with_reducible exact .ok (by assumption) trivial
theorem dGen_lp {rec:Cur → Int → Int → Bool → Option ((Cur × Unit) × (List Opn × Unit))} {most deep:Int} {kid:Bool} (hm:0 ≤ most ∧ most ≤ 100)
  (hrec:∀ c (m d:Int),Wbp c → 0 ≤ m → m < most → Drw (fun v:List Opn × Unit=>(v.1.length:Int) ≤ m + 2) (rec c m d kid)) :
  ∀ (n i:Nat) (c:Cur) (l:List Opn),i < n → i ≤ 1000 → Wbp c → (l.length:Int) ≤ most + 2 → Drw (fun v:List Opn × Unit=>(v.1.length:Int) ≤ most + 2) (Zc N rec most deep kid (fun n152 t153 b154 l155=>(some ((b154,()),(l155,())))) n (i:Int) c l)
 | 0,i,c,l,h,_,_,_=>by omega
 | n + 1,i,c,l,h,hib,hc,hl=>by
  have hs:(0:Int) < i → isub .i64 (i:Int) 1 = ((i - 1:Nat):Int):=fun h0=>by rw [Wap (by unfold I64; omega)]; omega
  have hi1:isub .i64 most (ilen l) = most - (l.length:Int):=Wap (by unfold I64 ilen; omega)
  have hi2:isub .i64 (most - (l.length:Int)) 3 = most - (l.length:Int) - 3:=Wap (by unfold I64; omega)
  simp only [Zc,hi1,hi2]
  refine .bif (fun h0=>?_) fun _=>.ok hc hl
  have h0:(i:Int) > 0:=of_decide_eq_true h0
  rw [hs h0]
  refine .bif (fun h1=>?_) fun _=>.ok hc hl
  have h1:(l.length:Int) < most:=of_decide_eq_true h1
  have next:∀ c' (l':List Opn),Wbp c' → (l'.length:Int) ≤ most + 2 → Drw (fun v:List Opn × Unit=>(v.1.length:Int) ≤ most + 2) (Zc N rec most deep kid (fun n152 t153 b154 l155=>(some ((b154,()),(l155,())))) n ((i - 1:Nat):Int) c' l') :=
   fun c' l' h1 h2=>dGen_lp hm hrec n (i - 1) c' l' (by omega) (by omega) h1 h2
  have rm:∀ (a:List Opn) (b:List Opn),(a.length:Int) + b.length ≤ 1000 → room (a.length + b.length) = true:=fun a b h=>Ws (by omega)
  have add1:∀ c' (o:Opn),Wbp c' → Drw (fun v:List Opn × Unit=>(v.1.length:Int) ≤ most + 2) (bif room (l.length + [o].length) then Zc N rec most deep kid (fun n152 t153 b154 l155=>(some ((b154,()),(l155,())))) n ((i - 1:Nat):Int) c' (List.append l [o]) else none) :=
   fun c' o h2=>.bifT (rm _ _ (by simp; omega)) (next _ _ h2 (by simp [List.append_eq]; omega))
  refine (Wbe 20 hc).bind fun c v hc hv=>?_
  have c12:∀ c',Wbp c' → (4:Int) ≤ most - (l.length:Int) → Drw (fun v:List Opn × Unit=>(v.1.length:Int) ≤ most + 2) ((rec c' (most - (l.length:Int) - 3) (isub .i64 deep 1) kid).bind fun o89 =>
           ((Zj N o89.1.1 (8:Int)).bind fun o90 =>
            (bif room ((List.length l) + (List.length ([o90.2.1]))) then
             (bif room ((List.length (List.append l ([o90.2.1]))) + (List.length o89.2.1)) then
              ((Zw N o90.1.1 (3:Int)).bind fun o91 =>
               (bif o91.2.1 then
                (bif room ((List.length (List.append (List.append l ([o90.2.1])) o89.2.1)) + (List.length ([((10:Int),((0:Int),((0:Int),(0:Int))))]))) then
                 (bif room ((List.length (List.append (List.append (List.append l ([o90.2.1])) o89.2.1) ([((10:Int),((0:Int),((0:Int),(0:Int))))]))) + (List.length ([((9:Int),((0:Int),((0:Int),(0:Int))))]))) then
                  (Zc N rec most deep kid (fun n152 t153 b154 l155=>(some ((b154,()),(l155,())))) n ((i - 1:Nat):Int) o91.1.1 (List.append (List.append (List.append (List.append l ([o90.2.1])) o89.2.1) ([((10:Int),((0:Int),((0:Int),(0:Int))))])) ([((9:Int),((0:Int),((0:Int),(0:Int))))]))) else none) else none)
                else
                (bif room ((List.length (List.append (List.append l ([o90.2.1])) o89.2.1)) + (List.length ([((9:Int),((0:Int),((0:Int),(0:Int))))]))) then
                 (Zc N rec most deep kid (fun n152 t153 b154 l155=>(some ((b154,()),(l155,())))) n ((i - 1:Nat):Int) o91.1.1 (List.append (List.append (List.append l ([o90.2.1])) o89.2.1) ([((9:Int),((0:Int),((0:Int),(0:Int))))]))) else none))) else none) else none))):=fun c' hc' h4=>by
   refine (hrec c' _ _ hc' (by omega) (by omega)).bind fun c2 v2 hc2 hv2=>(dPlain 8 hc2).bind fun c3 v3 hc3 _=>?_
   simp only []
   refine .bifT (rm _ _ (by simp; omega)) (.bifT (rm _ _ (by simp [List.append_eq]; omega)) ((Whd 3 hc3).bind fun c4 v4 hc4 _=>.bif (fun _=>?_) fun _=>?_))
   ·exact .bifT (rm _ _ (by simp [List.append_eq]; omega)) (.bifT (rm _ _ (by simp [List.append_eq]; omega)) (next _ _ hc4 (by simp [List.append_eq]; omega)))
   ·exact .bifT (rm _ _ (by simp [List.append_eq]; omega)) (next _ _ hc4 (by simp [List.append_eq]; omega))
  repeat' first
   | with_reducible exact add1 _ _ (by assumption)
   | with_reducible refine Drw.bif (fun _=>?_) fun _=>?_
   | with_reducible refine (dPlain _ (by assumption)).bind fun c v hc hv=>?_
   | with_reducible refine (Whd _ (by assumption)).bind fun c v hc hv=>?_
   | with_reducible refine (Wbe _ (by assumption)).bind fun c v hc hv=>?_
   | exact c12 _ (by assumption) (by simp only [decide_eq_true_eq,ge_iff_le] at *; omega)
  all_goals
   rename_i hx
   have hx:=of_decide_eq_true hx
   refine (hrec _ 2 0 (by assumption) (by omega) (by omega)).bind fun c2 v2 hc2 hv2=>(dPlain 7 hc2).bind fun c3 v3 hc3 _=>?_
   simp only []
   exact .bifT (rm _ _ (by simp; omega)) (.bifT (rm _ _ (by simp [List.append_eq]; omega)) (next _ _ hc3 (by simp [List.append_eq]; omega)))
theorem dGen_r (hN:1048576 < N):∀ (m:Nat) (c:Cur) (most deep:Int) (kid:Bool),Wbp c → 0 ≤ most → most ≤ 100 → most < m → Drw (fun v:List Opn × Unit=>(v.1.length:Int) ≤ most + 2) (Zcc N m c most deep kid)
 | 0,c,most,deep,kid,hc,h0,h1,h2=>by omega
 | m + 1,c,most,deep,kid,hc,h0,h1,h2=>by
  unfold Zcc
  refine (Wbe most hc).bind fun c v hc hv=>?_
  have hv2:0 ≤ v.1 ∧ v.1 ≤ 100:=by
   by_cases hm:most ≤ 0
   ·have:=hv.1 hm; omega
   ·have:=hv.2 (by omega); omega
  have e:iadd .i64 1 v.1 = (((1 + v.1).toNat:Nat):Int):=by rw [Wz (by unfold I64; omega)]; omega
  simp only [e]
  exact dGen_lp ⟨h0,h1⟩ (fun c m' d hc' q0 q1=>dGen_r hN m c m' d kid hc' q0 (by omega) (by omega)) N _ c [] (by omega) (by omega) hc (by simp; omega)
theorem dGen (hN:1048576 < N) {most deep:Int} {kid:Bool} (hc:Wbp c) (h0:0 ≤ most) (h1:most ≤ 100):Drw (fun v:List Opn × Unit=>v.1.length ≤ 102) (Zja N c most deep kid):=by
 unfold Zja
 exact (dGen_r hN N c most deep kid hc h0 h1 (by omega)).mono fun v hv=>by omega
theorem dVals_lp (hN:1048576 < N):∀ (n i:Nat) (c:Cur) (l:List Int),8 - i < n → i ≤ 8 → Wbp c → l.length = i →
  Drw (fun v:List Int × Unit=>v.1.length = 8) (Zco N (fun i11 t12 b13 l14=>(some ((b13,()),(l14,())))) n (i:Int) c l)
 | 0,i,c,l,h,_,_,_=>by omega
 | n + 1,i,c,l,h,hi,hc,hl=>by
  unfold Zco
  refine .bif (fun h0=>?_) fun h0=>.ok hc (by have h0:=of_decide_eq_false h0; simp only []; omega)
  have h0:(i:Int) < 8:=of_decide_eq_true h0
  rw [Wi (show i < 4611686018427387904 by omega)]
  refine (dVal hc).bind fun c v hc hv=>.bifT (Ws (by simp; omega)) ?_
  exact dVals_lp hN n (i + 1) c _ (by omega) (by omega) hc (by simp [List.append_eq]; omega)
theorem dVals (hN:1048576 < N) (hc:Wbp c):Drw (fun v:List Int × Unit=>v.1.length = 8) (Zcf N c):=by
 unfold Zcf
 exact dVals_lp hN N 0 c [] (by omega) (by omega) hc rfl
end
end Go.Sx
