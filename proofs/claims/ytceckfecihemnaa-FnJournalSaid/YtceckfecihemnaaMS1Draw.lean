/- Plain laws of the Lean functions. -/
import Derived.Test.YtceckfecihemnaaMS1Cur

namespace Go.Sx
set_option linter.unusedVariables false
set_option linter.unusedSimpArgs false
def Drw {ρ : Type} (P : ρ → Prop) (r : Option ((Cur × Unit) × ρ)) : Prop := ∃ c v, r = some ((c, ()), v) ∧ CurOk c ∧ P v
theorem Drw.of {α : Type} {P : α → Prop} {r : Option ((Cur × Unit) × (α × Unit))} (h : Draws P r) : Drw (fun v : α × Unit => P v.1) r := by
  obtain ⟨c, v, e, h1, h2⟩ := h
  exact ⟨c, (v, ()), e, h1, h2⟩
theorem Drw.bind {ρ σ : Type} {P : ρ → Prop} {Q : σ → Prop} {r : Option ((Cur × Unit) × ρ)} {k : (Cur × Unit) × ρ → Option ((Cur × Unit) × σ)} (h : Drw P r) (hk : ∀ c v, CurOk c → P v → Drw Q (k ((c, ()), v))) : Drw Q (r.bind k) := by
  obtain ⟨c, v, e, h1, h2⟩ := h
  rw [e]
  exact hk c v h1 h2
theorem Drw.ok {ρ : Type} {P : ρ → Prop} {c : Cur} {v : ρ} (hc : CurOk c) (hv : P v) : Drw P (some ((c, ()), v)) := ⟨c, v, rfl, hc, hv⟩
theorem Drw.bif {ρ : Type} {P : ρ → Prop} {b : Bool} {x y : Option ((Cur × Unit) × ρ)} (h1 : b = true → Drw P x) (h2 : b = false → Drw P y) : Drw P (bif b then x else y) := by
  cases b
  · exact h2 rfl
  · exact h1 rfl
theorem Drw.bifT {ρ : Type} {P : ρ → Prop} {b : Bool} {x y : Option ((Cur × Unit) × ρ)} (hb : b = true) (h1 : Drw P x) : Drw P (bif b then x else y) := by rw [hb]; exact h1
theorem Drw.mono {ρ : Type} {P Q : ρ → Prop} {r : Option ((Cur × Unit) × ρ)} (h : Drw P r) (hq : ∀ v, P v → Q v) : Drw Q r := by
  obtain ⟨c, v, e, h1, h2⟩ := h
  exact ⟨c, v, e, h1, hq v h2⟩
section
variable {N : Nat} {c : Cur}
theorem dBelow (n : Int) (h : CurOk c) : Drw (fun v : Int × Unit => (n ≤ 0 → v.1 = 0) ∧ (0 < n → 0 ≤ v.1 ∧ v.1 < n)) (Zc N c n) := .of (below_draw h)
theorem dOnce (n : Int) (h : CurOk c) : Drw (fun _ : Bool × Unit => True) (Zp N c n) := .of (once_draw h)
theorem dPick (l : List Int) (h : CurOk c) (hl : 0 < l.length) (hl2 : l.length < 1000) : Drw (fun v : Int × Unit => v.1 ∈ l) (Zbw N c l) := .of (pick_draw h hl (by omega))
theorem dReg (h : CurOk c) : Drw (fun v : Int × Unit => 0 ≤ v.1 ∧ v.1 ≤ 3) (Ze N c) := by
  unfold Ze
  exact (dBelow 4 h).bind fun c v hc hv => .ok hc (by have := hv.2 (by decide); simp only []; omega)
theorem dVal (h : CurOk c) : Drw (fun v : Int × Unit => 0 ≤ v.1 ∧ v.1 ≤ 65535) (Zcn N c) := by
  unfold Zcn
  refine (dOnce 6 h).bind fun c v hc _ => .bif (fun _ => ?_) fun _ => ?_
  · refine (dPick _ hc (by decide) (by decide)).bind fun c v hc hv => .ok hc ?_
    simp only [List.mem_cons, List.not_mem_nil, or_false] at hv ⊢
    omega
  · exact (dBelow 9 hc).bind fun c v hc hv => .ok hc (by have := hv.2 (by decide); simp only []; omega)
theorem dCell (h : CurOk c) : Drw (fun v : Int × Unit => 0 ≤ v.1 ∧ v.1 ≤ 7) (Z0 N c) := by
  unfold Z0
  refine (dOnce 8 h).bind fun c v hc _ => .bif (fun _ => ?_) fun _ => ?_
  · exact (dBelow 8 hc).bind fun c v hc hv => .ok hc (by have := hv.2 (by decide); simp only []; omega)
  · exact (dBelow 3 hc).bind fun c v hc hv => .ok hc (by have := hv.2 (by decide); simp only []; omega)
theorem dKey (h : CurOk c) : Drw (fun v : Int × Unit => True) (Zi N c) := by
  unfold Zi
  refine (dOnce 4 h).bind fun c v hc _ => .bif (fun _ => ?_) fun _ => ?_
  · exact (dBelow 8 hc).bind fun c v hc hv => .ok hc trivial
  · exact (dPick _ hc (by decide) (by decide)).bind fun c v hc hv => .ok hc trivial
theorem dPlain (kind : Int) (h : CurOk c) : Drw (fun _ : Opn × Unit => True) (Zh N c kind) := by
  unfold Zh
  repeat' first
    | with_reducible refine Drw.bif (fun _ => ?_) fun _ => ?_
    | with_reducible refine (dReg (by assumption)).bind fun c v hc hv => ?_
    | with_reducible refine (dVal (by assumption)).bind fun c v hc hv => ?_
    | with_reducible refine (dCell (by assumption)).bind fun c v hc hv => ?_
    | with_reducible refine (dKey (by assumption)).bind fun c v hc hv => ?_
    | with_reducible refine (dBelow _ (by assumption)).bind fun c v hc hv => ?_
    | with_reducible exact .ok (by assumption) trivial
theorem dGen_lp {rec : Cur → Int → Int → Bool → Option ((Cur × Unit) × (List Opn × Unit))} {most deep : Int} {kid : Bool} (hm : 0 ≤ most ∧ most ≤ 100)
    (hrec : ∀ c (m d : Int), CurOk c → 0 ≤ m → m < most → Drw (fun v : List Opn × Unit => (v.1.length : Int) ≤ m + 2) (rec c m d kid)) :
    ∀ (n i : Nat) (c : Cur) (l : List Opn), i < n → i ≤ 1000 → CurOk c → (l.length : Int) ≤ most + 2 → Drw (fun v : List Opn × Unit => (v.1.length : Int) ≤ most + 2) (Zg N rec most deep kid (fun n152 t153 b154 l155 => (some ((b154, ()), (l155, ())))) n (i : Int) c l)
  | 0, i, c, l, h, _, _, _ => by omega
  | n + 1, i, c, l, h, hib, hc, hl => by
    have hs : (0 : Int) < i → isub .i64 (i : Int) 1 = ((i - 1 : Nat) : Int) := fun h0 => by rw [isub_eq (by unfold I64; omega)]; omega
    have hi1 : isub .i64 most (ilen l) = most - (l.length : Int) := isub_eq (by unfold I64 ilen; omega)
    have hi2 : isub .i64 (most - (l.length : Int)) 3 = most - (l.length : Int) - 3 := isub_eq (by unfold I64; omega)
    simp only [Zg, hi1, hi2]
    refine .bif (fun h0 => ?_) fun _ => .ok hc hl
    have h0 : (i : Int) > 0 := of_decide_eq_true h0
    rw [hs h0]
    refine .bif (fun h1 => ?_) fun _ => .ok hc hl
    have h1 : (l.length : Int) < most := of_decide_eq_true h1
    have next : ∀ c' (l' : List Opn), CurOk c' → (l'.length : Int) ≤ most + 2 → Drw (fun v : List Opn × Unit => (v.1.length : Int) ≤ most + 2) (Zg N rec most deep kid (fun n152 t153 b154 l155 => (some ((b154, ()), (l155, ())))) n ((i - 1 : Nat) : Int) c' l') :=
      fun c' l' h1 h2 => dGen_lp hm hrec n (i - 1) c' l' (by omega) (by omega) h1 h2
    have rm : ∀ (a : List Opn) (b : List Opn), (a.length : Int) + b.length ≤ 1000 → room (a.length + b.length) = true := fun a b h => room_le (by omega)
    have add1 : ∀ c' (o : Opn), CurOk c' → Drw (fun v : List Opn × Unit => (v.1.length : Int) ≤ most + 2) (bif room (l.length + [o].length) then Zg N rec most deep kid (fun n152 t153 b154 l155 => (some ((b154, ()), (l155, ())))) n ((i - 1 : Nat) : Int) c' (List.append l [o]) else none) :=
      fun c' o h2 => .bifT (rm _ _ (by simp; omega)) (next _ _ h2 (by simp [List.append_eq]; omega))
    refine (dBelow 20 hc).bind fun c v hc hv => ?_
    have c12 : ∀ c', CurOk c' → (4 : Int) ≤ most - (l.length : Int) → Drw (fun v : List Opn × Unit => (v.1.length : Int) ≤ most + 2) ((rec c' (most - (l.length : Int) - 3) (isub .i64 deep 1) kid).bind fun o89 =>
                      ((Zh N o89.1.1 (8 : Int)).bind fun o90 =>
                        (bif room ((List.length l) + (List.length ([o90.2.1]))) then
                          (bif room ((List.length (List.append l ([o90.2.1]))) + (List.length o89.2.1)) then
                            ((Zp N o90.1.1 (3 : Int)).bind fun o91 =>
                              (bif o91.2.1 then
                                (bif room ((List.length (List.append (List.append l ([o90.2.1])) o89.2.1)) + (List.length ([((10 : Int), ((0 : Int), ((0 : Int), (0 : Int))))]))) then
                                  (bif room ((List.length (List.append (List.append (List.append l ([o90.2.1])) o89.2.1) ([((10 : Int), ((0 : Int), ((0 : Int), (0 : Int))))]))) + (List.length ([((9 : Int), ((0 : Int), ((0 : Int), (0 : Int))))]))) then
                                    (Zg N rec most deep kid (fun n152 t153 b154 l155 => (some ((b154, ()), (l155, ())))) n ((i - 1 : Nat) : Int) o91.1.1 (List.append (List.append (List.append (List.append l ([o90.2.1])) o89.2.1) ([((10 : Int), ((0 : Int), ((0 : Int), (0 : Int))))])) ([((9 : Int), ((0 : Int), ((0 : Int), (0 : Int))))]))) else none) else none)
                                else
                                (bif room ((List.length (List.append (List.append l ([o90.2.1])) o89.2.1)) + (List.length ([((9 : Int), ((0 : Int), ((0 : Int), (0 : Int))))]))) then
                                  (Zg N rec most deep kid (fun n152 t153 b154 l155 => (some ((b154, ()), (l155, ())))) n ((i - 1 : Nat) : Int) o91.1.1 (List.append (List.append (List.append l ([o90.2.1])) o89.2.1) ([((9 : Int), ((0 : Int), ((0 : Int), (0 : Int))))]))) else none))) else none) else none))) := fun c' hc' h4 => by
      refine (hrec c' _ _ hc' (by omega) (by omega)).bind fun c2 v2 hc2 hv2 => (dPlain 8 hc2).bind fun c3 v3 hc3 _ => ?_
      simp only []
      refine .bifT (rm _ _ (by simp; omega)) (.bifT (rm _ _ (by simp [List.append_eq]; omega)) ((dOnce 3 hc3).bind fun c4 v4 hc4 _ => .bif (fun _ => ?_) fun _ => ?_))
      · exact .bifT (rm _ _ (by simp [List.append_eq]; omega)) (.bifT (rm _ _ (by simp [List.append_eq]; omega)) (next _ _ hc4 (by simp [List.append_eq]; omega)))
      · exact .bifT (rm _ _ (by simp [List.append_eq]; omega)) (next _ _ hc4 (by simp [List.append_eq]; omega))
    repeat' first
      | with_reducible exact add1 _ _ (by assumption)
      | with_reducible refine Drw.bif (fun _ => ?_) fun _ => ?_
      | with_reducible refine (dPlain _ (by assumption)).bind fun c v hc hv => ?_
      | with_reducible refine (dOnce _ (by assumption)).bind fun c v hc hv => ?_
      | with_reducible refine (dBelow _ (by assumption)).bind fun c v hc hv => ?_
      | exact c12 _ (by assumption) (by simp only [decide_eq_true_eq, ge_iff_le] at *; omega)
    all_goals
      rename_i hx
      have hx := of_decide_eq_true hx
      refine (hrec _ 2 0 (by assumption) (by omega) (by omega)).bind fun c2 v2 hc2 hv2 => (dPlain 7 hc2).bind fun c3 v3 hc3 _ => ?_
      simp only []
      exact .bifT (rm _ _ (by simp; omega)) (.bifT (rm _ _ (by simp [List.append_eq]; omega)) (next _ _ hc3 (by simp [List.append_eq]; omega)))
theorem dGen_r (hN : 1048576 < N) : ∀ (m : Nat) (c : Cur) (most deep : Int) (kid : Bool), CurOk c → 0 ≤ most → most ≤ 100 → most < m → Drw (fun v : List Opn × Unit => (v.1.length : Int) ≤ most + 2) (Zey N m c most deep kid)
  | 0, c, most, deep, kid, hc, h0, h1, h2 => by omega
  | m + 1, c, most, deep, kid, hc, h0, h1, h2 => by
    unfold Zey
    refine (dBelow most hc).bind fun c v hc hv => ?_
    have hv2 : 0 ≤ v.1 ∧ v.1 ≤ 100 := by
      by_cases hm : most ≤ 0
      · have := hv.1 hm; omega
      · have := hv.2 (by omega); omega
    have e : iadd .i64 1 v.1 = (((1 + v.1).toNat : Nat) : Int) := by rw [iadd_eq (by unfold I64; omega)]; omega
    simp only [e]
    exact dGen_lp ⟨h0, h1⟩ (fun c m' d hc' q0 q1 => dGen_r hN m c m' d kid hc' q0 (by omega) (by omega)) N _ c [] (by omega) (by omega) hc (by simp; omega)
theorem dGen (hN : 1048576 < N) {most deep : Int} {kid : Bool} (hc : CurOk c) (h0 : 0 ≤ most) (h1 : most ≤ 100) : Drw (fun v : List Opn × Unit => v.1.length ≤ 102) (Zgr N c most deep kid) := by
  unfold Zgr
  exact (dGen_r hN N c most deep kid hc h0 h1 (by omega)).mono fun v hv => by omega
theorem dCode28 (hN : 1048576 < N) (hc : CurOk c) : Drw (fun v : List Opn × Unit => v.1.length ≤ 200) (Zf2 N c) := by
  unfold Zf2
  refine (dGen hN hc (by omega) (by omega)).bind fun c v hc hv => (dOnce 3 hc).bind fun c w hc _ => .bif (fun _ => .ok hc (by simp only []; omega)) fun _ => ?_
  refine (dCell hc).bind fun c w hc _ => (dReg hc).bind fun c w hc _ => .bifT rfl ((dBelow 3 hc).bind fun c w hc _ => .bifT rfl (.bifT (room_le ?_) (.ok hc ?_)))
  · simp; omega
  · simp [List.append_eq]; omega
theorem dAlts_lp (hN : 1048576 < N) : ∀ (n i : Nat) (c : Cur) (l : List (List Opn)), i < n → i ≤ 100 → CurOk c → l.length + i ≤ 100 → (∀ x ∈ l, x.length ≤ 200) →
    Drw (fun v : List (List Opn) × Unit => v.1.length ≤ 100 ∧ ∀ x ∈ v.1, x.length ≤ 200) (Zcd N (fun n12 t13 b14 l15 => (some ((b14, ()), (l15, ())))) n (i : Int) c l)
  | 0, i, c, l, h, _, _, _, _ => by omega
  | n + 1, i, c, l, h, hi, hc, hl, hx => by
    unfold Zcd
    refine .bif (fun h0 => ?_) fun _ => .ok hc ⟨by simp only []; omega, hx⟩
    have h0 : (i : Int) > 0 := of_decide_eq_true h0
    have e : isub .i64 (i : Int) 1 = ((i - 1 : Nat) : Int) := by rw [isub_eq (by unfold I64; omega)]; omega
    rw [e]
    refine (dCode28 hN hc).bind fun c v hc hv => .bifT (room_le (by simp; omega)) ?_
    refine dAlts_lp hN n (i - 1) c _ (by omega) (by omega) hc (by simp [List.append_eq]; omega) fun x hx' => ?_
    simp [List.append_eq] at hx'
    rcases hx' with hx' | hx'
    · exact hx x hx'
    · rw [hx']; exact hv
theorem dVals_lp (hN : 1048576 < N) : ∀ (n i : Nat) (c : Cur) (l : List Int), 8 - i < n → i ≤ 8 → CurOk c → l.length = i →
    Drw (fun v : List Int × Unit => v.1.length = 8) (Z3 N (fun i11 t12 b13 l14 => (some ((b13, ()), (l14, ())))) n (i : Int) c l)
  | 0, i, c, l, h, _, _, _ => by omega
  | n + 1, i, c, l, h, hi, hc, hl => by
    unfold Z3
    refine .bif (fun h0 => ?_) fun h0 => .ok hc (by have h0 := of_decide_eq_false h0; simp only []; omega)
    have h0 : (i : Int) < 8 := of_decide_eq_true h0
    rw [ix_succ (show i < 4611686018427387904 by omega)]
    refine (dVal hc).bind fun c v hc hv => .bifT (room_le (by simp; omega)) ?_
    exact dVals_lp hN n (i + 1) c _ (by omega) (by omega) hc (by simp [List.append_eq]; omega)
theorem dVals (hN : 1048576 < N) (hc : CurOk c) : Drw (fun v : List Int × Unit => v.1.length = 8) (Z1 N c) := by
  unfold Z1
  exact dVals_lp hN N 0 c [] (by omega) (by omega) hc rfl
theorem dZero_lp {σ : Type} {Q : σ → Prop} {K : Cur → List Int → Option ((Cur × Unit) × σ)} {l9 : List (List Opn)} {l10 : List Int} (hK : ∀ c l, CurOk c → l.length = 8 → Drw Q (K c l)) :
    ∀ (n i : Nat) (c : Cur) (l : List Int), 8 - i < n → i ≤ 8 → CurOk c → l.length = 8 → Drw Q (Zco N l9 l10 (fun i18 t19 b20 l21 => K b20 l21) n (i : Int) c l)
  | 0, i, c, l, h, _, _, _ => by omega
  | n + 1, i, c, l, h, hi, hc, hl => by
    unfold Zco
    refine .bif (fun h0 => ?_) fun h0 => hK c l hc hl
    have h0 : (i : Int) < (l.length : Int) := of_decide_eq_true h0
    rw [ix_succ (show i < 4611686018427387904 by omega)]
    refine (dOnce 2 hc).bind fun c v hc _ => .bif (fun _ => .bifT (ix_inb (by omega)) ?_) fun _ => ?_
    · exact dZero_lp hK n (i + 1) c _ (by omega) (by omega) hc (by simp; omega)
    · exact dZero_lp hK n (i + 1) c _ (by omega) (by omega) hc hl
theorem dMore_lp {l25 l26 : List Int} : ∀ (n : Nat) (c : Cur) (l : List (List Opn)), 300 - l.length < n → CurOk c → l.length ≤ 200 → (∀ x ∈ l, x.length ≤ 200) →
    Drw (fun v : List (List Opn) × (List Int × (List Int × Unit)) => (v.1.length ≤ 300 ∧ ∀ x ∈ v.1, x.length ≤ 200) ∧ v.2.1 = l25 ∧ v.2.2.1 = l26) (Zcp N l25 l26 (fun t32 b33 l34 => (some ((b33, ()), (l34, (l25, (l26, ())))))) n c l)
  | 0, c, l, h, _, _, _ => by omega
  | n + 1, c, l, h, hc, hl, hx => by
    unfold Zcp
    refine (dBelow 2 hc).bind fun c v hc hv => ?_
    have hv := hv.2 (by decide)
    have e : iadd .i64 4 v.1 = 4 + v.1 := iadd_eq (by unfold I64; omega)
    simp only [e]
    refine .bif (fun h0 => ?_) fun _ => .ok hc ⟨⟨by simp only []; omega, hx⟩, rfl, rfl⟩
    have h0 : (l.length : Int) < 4 + v.1 := of_decide_eq_true h0
    refine .bifT (room_le (by simp; omega)) (dMore_lp n c _ (by simp [List.append_eq]; omega) hc (by simp [List.append_eq]; omega) fun x hx' => ?_)
    simp [List.append_eq] at hx'
    rcases hx' with hx' | hx'
    · exact hx x hx'
    · rw [hx']; simp
theorem dAll28 (hN : 1048576 < N) (hc : CurOk c) : Drw (fun v : List (List Opn) × (List Int × (List Int × Unit)) => (v.1.length ≤ 300 ∧ ∀ x ∈ v.1, x.length ≤ 200) ∧ v.2.1.length ≤ 100 ∧ v.2.2.1.length ≤ 100) (Zka N c) := by
  unfold Zka Zib
  have hA : Drw (fun v : List (List Opn) × Unit => v.1.length ≤ 100 ∧ ∀ x ∈ v.1, x.length ≤ 200) ((Zc N c 4).bind fun o2 => Zcd N (fun n12 t13 b14 l15 => (some ((b14, ()), (l15, ())))) N o2.2.1 o2.1.1 []) := by
    refine (dBelow 4 hc).bind fun c v hc hv => ?_
    have hv := hv.2 (by decide)
    have e : v.1 = ((v.1.toNat : Nat) : Int) := by omega
    simp only []
    rw [e]
    exact dAlts_lp hN N _ c [] (by omega) (by omega) hc (by simp; omega) (by simp)
  refine hA.bind fun c a hc ha => (dBelow 3 hc).bind fun c w1 hc _ => (dVal hc).bind fun c w2 hc _ => (dBelow 2 hc).bind fun c w3 hc _ => (dVals hN hc).bind fun c w4 hc hw4 => ?_
  simp only []
  refine dZero_lp (K := fun b20 l21 => ((Zc N b20 (24 : Int)).bind fun o22 =>
                  (bif o22.2.1 == (0 : Int) then
                    (bif (decide ((0 : Int) ≤ (1 : Int))) && (decide ((1 : Int) ≤ ((List.length ([w1.1, (0 : Int), w2.1, w3.1])) : Int))) then
                      (some ((o22.1.1, ()), (a.1, (List.take (Int.toNat (1 : Int)) ([w1.1, (0 : Int), w2.1, w3.1]), (l21, ()))))) else none)
                    else
                    (bif o22.2.1 == (1 : Int) then
                      (bif (decide ((0 : Int) ≤ (1 : Int))) && (decide ((1 : Int) ≤ ((List.length l21) : Int))) then
                        (some ((o22.1.1, ()), (a.1, ([w1.1, (0 : Int), w2.1, w3.1], (List.take (Int.toNat (1 : Int)) l21, ()))))) else none)
                      else
                      (bif o22.2.1 == (2 : Int) then
                        (Zcp N ([w1.1, (0 : Int), w2.1, w3.1]) l21
                          (fun t32 b33 l34 =>
                            (some ((b33, ()), (l34, ([w1.1, (0 : Int), w2.1, w3.1], (l21, ()))))))
                           N o22.1.1 a.1)
                        else
                        (bif o22.2.1 == (3 : Int) then
                          (bif room ((List.length a.1) + (List.length ([([((11 : Int), ((0 : Int), ((0 : Int), (0 : Int))))])]))) then
                            (some ((o22.1.1, ()), (List.append a.1 ([([((11 : Int), ((0 : Int), ((0 : Int), (0 : Int))))])]), ([w1.1, (0 : Int), w2.1, w3.1], (l21, ()))))) else none)
                          else
                          (some ((o22.1.1, ()), (a.1, ([w1.1, (0 : Int), w2.1, w3.1], (l21, ()))))))))))) (fun c l hc hl => ?_) N 0 c w4.1 (by omega) (by omega) hc hw4
  refine (dBelow 24 hc).bind fun c v hc _ => .bif (fun _ => .bifT rfl (.ok hc ⟨⟨by simp only []; omega, ha.2⟩, by simp, by simp only []; omega⟩)) fun _ => .bif (fun _ => .bifT (by simp; omega) (.ok hc ⟨⟨by simp only []; omega, ha.2⟩, by simp, by simp only [List.length_take]; omega⟩)) fun _ => .bif (fun _ => ?_) fun _ => .bif (fun _ => .bifT (room_le (by simp; omega)) (.ok hc ⟨⟨by simp [List.append_eq]; omega, fun x hx => ?_⟩, by simp, by simp only []; omega⟩)) fun _ => .ok hc ⟨⟨by simp only []; omega, ha.2⟩, by simp, by simp only []; omega⟩
  · exact (dMore_lp N c a.1 (by omega) hc (by omega) ha.2).mono fun v hv => ⟨hv.1, by rw [hv.2.1]; simp, by rw [hv.2.2]; omega⟩
  · simp [List.append_eq] at hx
    rcases hx with hx | hx
    · exact ha.2 x hx
    · rw [hx]; simp
end
end Go.Sx
