/- Plain laws of the Lean functions. -/
import Derived.Test.YtceckfecihemnaaMS1Je

namespace Go.Sx
set_option linter.unusedVariables false
set_option linter.unusedSimpArgs false
theorem stamps_fold (last : Int) {x : Wr} {a b : List Wr} (ha : ∀ w ∈ a, w.1 ≤ last) (hx : last < x.1) (hx2 : x.1 ≤ 1000000) (hb : ∀ w ∈ b, x.1 < w.1) :
    (a ++ x :: b).foldl (fun best (w : Wr) => if last < w.1 ∧ w.1 < best then w.1 else best) 1000001 = x.1 := by
  have h1 : ∀ (l : List Wr) (v : Int), (∀ w ∈ l, ¬ (last < w.1 ∧ w.1 < v)) → l.foldl (fun best (w : Wr) => if last < w.1 ∧ w.1 < best then w.1 else best) v = v := by
    intro l
    induction l with
    | nil => intro v _; rfl
    | cons y l ih =>
      intro v h
      rw [List.foldl_cons, if_neg (h y (List.mem_cons_self ..))]
      exact ih v fun w hw => h w (List.mem_cons_of_mem _ hw)
  rw [List.foldl_append, h1 a _ (fun w hw => by have := ha w hw; omega), List.foldl_cons, if_pos ⟨hx, by omega⟩]
  exact h1 b _ fun w hw => by have := hb w hw; omega
theorem split_at {l : List Wr} {i : Nat} (hi : i < l.length) : l = l.take i ++ l[i] :: l.drop (i + 1) := by
  rw [← List.drop_eq_getElem_cons hi, List.take_append_drop]
theorem HistI.before {l : List Wr} (h : HistI l) {i : Nat} (hi : i < l.length) : ∀ w ∈ l.take i, w.1 < l[i].1 := by
  intro w hw
  obtain ⟨j, hj, rfl⟩ := List.mem_iff_getElem.1 hw
  simp at hj
  rw [List.getElem_take]
  exact h.lt (by omega) hi
theorem HistI.after {l : List Wr} (h : HistI l) {i : Nat} (hi : i < l.length) : ∀ w ∈ l.drop (i + 1), l[i].1 < w.1 := by
  intro w hw
  obtain ⟨j, hj, rfl⟩ := List.mem_iff_getElem.1 hw
  simp at hj
  rw [List.getElem_drop]
  exact h.lt (by omega) (by omega)
theorem HistI.rng {l : List Wr} (h : HistI l) {i : Nat} (hi : i < l.length) : 1 ≤ l[i].1 ∧ l[i].1 ≤ 1000000 := by
  have := (wOk_parts (h.ok l[i] (List.getElem_mem hi)).1).1
  simpa using this
theorem stamps1 {N : Nat} {l : List Wr} {R : Type} {l10 : List Int} {last : Int} (hl : l.length ≤ 200) (hN : 1048576 < N) (K : Int → Option R) :
    Z5 N l last l10 (fun best i t => K best) N 1000001 0 = K (l.foldl (fun best (w : Wr) => if last < w.1 ∧ w.1 < best then w.1 else best) 1000001) := by
  have h1 := loop_ix0 (l := l) (V := Int) (R := R) (lp := fun n j v => Z5 N l last l10 (fun best i t => K best) n v j) (n := N) (by omega)
    (body := fun j x v k => k (if last < x.1 ∧ x.1 < v then x.1 else v)) (K := fun _ v => K v)
    (fun n i v hi => by
      simp only [Z5, ix_lt hi, ix_inb hi, ix_get hi, ix_succ (show i < 4611686018427387904 by omega), cond_true]
      by_cases ha : last < l[i].1
      · have e : decide (l[i].1 > last) = true := decide_eq_true ha
        rw [e]
        by_cases hb : l[i].1 < v
        · rw [decide_eq_true hb, if_pos ⟨ha, hb⟩]; rfl
        · rw [decide_eq_false hb, if_neg (by omega)]; rfl
      · have e : decide (l[i].1 > last) = false := decide_eq_false ha
        rw [e, if_neg (by omega)]; rfl)
    (fun n v => by simp only [Z5, ix_ge (Nat.le_refl l.length), cond_false]) 1000001
  refine h1.trans ?_
  rw [foldK_fold (f := fun best (w : Wr) => if last < w.1 ∧ w.1 < best then w.1 else best) l 0 1000001 (fun j x v k _ => rfl)]
theorem stamps_lp {N : Nat} {l : List Wr} (h : HistI l) (hN : 1048576 < N) : ∀ (j m i : Nat) (last : Int), i + j = l.length → j < m → (∀ w ∈ l.take i, w.1 ≤ last) → (∀ w ∈ l.drop i, last < w.1) →
    Za9 N l (fun last23 t24 l25 => some ((), (l25, ()))) m last ((l.take i).map (·.1)) = ret (l.map (·.1))
  | j, 0, i, last, _, h2, _, _ => by omega
  | 0, m + 1, i, last, h1, h2, _, _ => by
    have hi : i = l.length := by omega
    subst hi
    have e : decide (ilen ((l.take l.length).map (·.1)) < ilen l) = false := decide_eq_false (by unfold ilen; simp)
    rw [Za9, e, List.take_length]
    rfl
  | j + 1, m + 1, i, last, h1, h2, ha, hb => by
    have hi : i < l.length := by omega
    have hlen := h.len
    have e : decide (ilen ((l.take i).map (·.1)) < ilen l) = true := decide_eq_true (by unfold ilen; simp; omega)
    have hst : l.foldl (fun best (w : Wr) => if last < w.1 ∧ w.1 < best then w.1 else best) 1000001 = l[i].1 := by
      have hx : last < l[i].1 := hb _ (by rw [List.drop_eq_getElem_cons hi]; exact List.mem_cons_self ..)
      have := stamps_fold last (x := l[i]) ha hx (h.rng hi).2 (h.after hi)
      rwa [← split_at hi] at this
    rw [Za9, e]
    simp only [cond_true]
    rw [stamps1 hlen hN, hst, room_le (by simp; omega)]
    simp only [cond_true]
    have e3 : List.append ((l.take i).map (·.1)) [l[i].1] = (l.take (i + 1)).map (·.1) := by
      rw [List.take_succ_eq_append_getElem hi, List.map_append]; rfl
    rw [e3]
    refine stamps_lp h hN j m (i + 1) l[i].1 (by omega) (by omega) ?_ (h.after hi)
    intro w hw
    rw [List.take_succ_eq_append_getElem hi] at hw
    rcases List.mem_append.1 hw with hw | hw
    · have := h.before hi w hw; omega
    · simp at hw; rw [hw]; exact Int.le_refl _
theorem stamps_run {N : Nat} {l : List Wr} (h : HistI l) (hN : 1048576 < N) : Zbt N l = ret (l.map (·.1)) := by
  unfold Zbt
  simp only [histOk_run h hN, ret, Option.bind_some, Bool.not_true, cond_false]
  have hlen := h.len
  refine stamps_lp h hN l.length N 0 0 (by omega) (by omega) (by simp) ?_
  intro w hw
  rw [List.drop_zero] at hw
  obtain ⟨j, hj, rfl⟩ := List.mem_iff_getElem.1 hw
  have := (h.rng hj).1
  omega
theorem one_fold {x : Wr} {a b : List Wr} (c : List Int) (ha : ∀ w ∈ a, w.1 ≠ x.1) (hb : ∀ w ∈ b, w.1 ≠ x.1) :
    (a ++ x :: b).foldl (fun c (w : Wr) => if w.1 = x.1 then stW c w else c) c = stW c x := by
  have h1 : ∀ (l : List Wr) (v : List Int), (∀ w ∈ l, w.1 ≠ x.1) → l.foldl (fun c (w : Wr) => if w.1 = x.1 then stW c w else c) v = v := by
    intro l
    induction l with
    | nil => intro v _; rfl
    | cons y l ih =>
      intro v h
      rw [List.foldl_cons, if_neg (h y (List.mem_cons_self ..))]
      exact ih v fun w hw => h w (List.mem_cons_of_mem _ hw)
  rw [List.foldl_append, h1 a _ ha, List.foldl_cons, if_pos rfl]
  exact h1 b _ hb
theorem vals_stW {l : List Wr} (h : HistI l) {w : Wr} (hw : w ∈ l) {c : List Int} (hc : valsOk c = true) : valsOk (stW c w) = true :=
  vals_ov _ hc (rowsOk_all (wOk_parts (h.ok w hw).1).2.2)
theorem state1 {N : Nat} {l : List Wr} (h : HistI l) (hN : 1048576 < N) {i : Nat} (hi : i < l.length) {R : Type} {n13 : Int} (K : List Int → Option R) {c : List Int} (hc : valsOk c = true) :
    Z8 N l n13 (i : Int) (l.map (·.1)) (fun k29 t30 l31 => K l31) N 0 c = K (stW c l[i]) := by
  have hlen := h.len
  have h1 := loop_ix0 (l := l) (V := List Int) (R := R) (lp := fun n j v => Z8 N l n13 (i : Int) (l.map (·.1)) (fun k29 t30 l31 => K l31) n j v) (n := N) (by omega)
    (body := fun j x v k => bif x.1 == l[i].1 then (Za4 N v x.2.2).bind fun o => k o.2.1 else k v) (K := fun _ v => K v)
    (fun n k v hk => by
      have e : inb (i : Int) (l.map (·.1)).length = true := ix_inb (by simpa using hi)
      have e2 : List.getD (l.map (·.1)) (Int.toNat (i : Int)) 0 = l[i].1 := by rw [ix_get (by simpa using hi)]; simp
      simp only [Z8, ix_lt hk, ix_inb hk, ix_get hk, ix_succ (show k < 4611686018427387904 by omega), cond_true, e, e2])
    (fun n v => by simp only [Z8, ix_ge (Nat.le_refl l.length), cond_false]) c
  refine h1.trans ?_
  rw [foldK_inv (f := fun c (w : Wr) => if w.1 = l[i].1 then stW c w else c) (fun v => valsOk v = true) l 0 c hc (fun x hx v hv => by split; exact vals_stW h hx hv; exact hv) (fun j x v k hx hv => by
    by_cases he : x.1 = l[i].1
    · have : (x.1 == l[i].1) = true := by simpa using he
      rw [this, if_pos he]
      simp only [cond_true]
      rw [specOv_run hv (wOk_parts (h.ok x hx).1).2.2 hN]; rfl
    · have : (x.1 == l[i].1) = false := by simpa using he
      rw [this, if_neg he]; rfl)]
  congr 1
  have := one_fold (x := l[i]) c (a := l.take i) (b := l.drop (i + 1)) (fun w hw => by have := h.before hi w hw; omega) (fun w hw => by have := h.after hi w hw; omega)
  rwa [← split_at hi] at this
theorem foldl_inv {α V : Type} {f : V → α → V} {P : V → Prop} : ∀ (l : List α) (v : V), P v → (∀ x ∈ l, ∀ v, P v → P (f v x)) → P (l.foldl f v)
  | [], v, h, _ => h
  | x :: l, v, h, hp => foldl_inv l _ (hp x (List.mem_cons_self ..) v h) fun y hy => hp y (List.mem_cons_of_mem _ hy)
theorem stateAt_lp {N : Nat} {l : List Wr} (h : HistI l) (hN : 1048576 < N) {c0 : List Int} (hc0 : valsOk c0 = true) : ∀ (j m i : Nat), i + j = l.length → j < m →
    Zax N l 1000000 (l.map (·.1)) (fun i32 t33 l34 => some ((), (l34, ()))) m (i : Int) ((l.take i).foldl stW c0) = ret (l.foldl stW c0)
  | j, 0, i, _, h2 => by omega
  | 0, m + 1, i, h1, h2 => by
    have hi : i = l.length := by omega
    subst hi
    have e : decide ((l.length : Int) < ilen (l.map (·.1))) = false := decide_eq_false (by unfold ilen; simp)
    rw [Zax, e, List.take_length]
    rfl
  | j + 1, m + 1, i, h1, h2 => by
    have hi : i < l.length := by omega
    have hlen := h.len
    have hml : i < (l.map (·.1)).length := by simpa using hi
    have e2 : List.getD (l.map (·.1)) (Int.toNat (i : Int)) 0 = l[i].1 := by rw [ix_get hml]; simp
    have hv : valsOk ((l.take i).foldl stW c0) = true := foldl_inv (P := fun v => valsOk v = true) _ _ hc0 fun x hx v hv => vals_stW h (List.mem_of_mem_take hx) hv
    rw [Zax, ix_lt hml, ix_inb hml, e2, decide_eq_true (h.rng hi).2, ix_succ (by omega)]
    simp only [cond_true]
    rw [state1 h hN hi _ hv]
    have e3 : stW ((l.take i).foldl stW c0) l[i] = (l.take (i + 1)).foldl stW c0 := by
      rw [List.take_succ_eq_append_getElem hi, List.foldl_append]; rfl
    rw [e3]
    exact stateAt_lp h hN hc0 j m (i + 1) (by omega) (by omega)
theorem stateAt_run {N : Nat} {l : List Wr} {c : List Int} (h : HistI l) (hc : valsOk c = true) (hN : 1048576 < N) : Zx N c l 1000000 = ret (l.foldl stW c) := by
  unfold Zx
  have hc2 := vals_len hc
  have hlen := h.len
  simp only [specVals_run (show c.length ≤ 1048576 by omega) hN, ret, Option.bind_some, hc, Bool.not_true, cond_false, histOk_run h hN]
  rw [room_le (by simp; omega)]
  simp only [cond_true, stamps_run h hN, ret, Option.bind_some, show List.append ([] : List Int) c = c from rfl]
  exact stateAt_lp h hN hc l.length N 0 (by omega) (by omega)
section
variable {N : Nat} {c : Cur}
theorem dRows_lp : ∀ (n i : Nat) (c : Cur) (l : List Rw), i < n → CurOk c → l.length + i ≤ 100 →
    Drw (fun v : List Rw × Unit => v.1.length ≤ 100) (Zbo N (fun n15 t16 b17 l18 => (some ((b17, ()), (l18, ())))) n (i : Int) c l)
  | 0, i, c, l, h, _, _ => by omega
  | n + 1, i, c, l, h, hc, hl => by
    unfold Zbo
    refine .bif (fun h0 => ?_) fun h0 => .ok hc (by simp only []; omega)
    have h0 : (i : Int) > 0 := of_decide_eq_true h0
    have e : isub .i64 (i : Int) 1 = ((i - 1 : Nat) : Int) := by rw [isub_eq (by unfold I64; omega)]; omega
    rw [e]
    refine (dCell hc).bind fun c v hc hv => (dVal hc).bind fun c v2 hc hv2 => .bifT (room_le (by simp; omega)) ?_
    exact dRows_lp n (i - 1) c _ (by omega) hc (by simp [List.append_eq]; omega)
theorem dRows (hN : 1048576 < N) (hc : CurOk c) : Drw (fun v : List Rw × Unit => v.1.length ≤ 100) (Zbf N c 4) := by
  unfold Zbf
  refine (dBelow _ hc).bind fun c v hc hv => ?_
  have e : iadd .i64 (4 : Int) 1 = 5 := rfl
  rw [e] at hv
  have hv := hv.2 (by decide)
  obtain ⟨q, hq⟩ := Int.eq_ofNat_of_zero_le hv.1
  simp only []
  rw [hq]
  exact dRows_lp N q c [] (by omega) hc (by simp; omega)
theorem last_lp {l : List Rw} {x : Int} (hl : l.length ≤ 1000) : ∀ (n i : Nat), i < n → i ≤ l.length → ∃ v b, Zcf N l x (fun t10 => (some ((), (t10, (true, ()))))) (fun i11 t12 => (some ((), ((0 : Int), (false, ()))))) n ((i : Int) - 1) = some ((), (v, (b, ())))
  | 0, i, h, _ => by omega
  | n + 1, 0, h, _ => ⟨0, false, rfl⟩
  | n + 1, i + 1, h, hi => by
    have e : ((i + 1 : Nat) : Int) - 1 = (i : Int) := by omega
    have e1 : decide ((i : Int) ≥ 0) = true := by simp
    have e2 : isub .i64 (i : Int) 1 = (i : Int) - 1 := isub_eq (by unfold I64; omega)
    rw [e, Zcf, e1, ix_inb (show i < l.length by omega), e2]
    simp only [cond_true]
    cases (List.getD l (Int.toNat (i : Int)) ((0 : Int), (0 : Int))).1 == x
    · exact last_lp hl n i (by omega) (by omega)
    · exact ⟨_, _, rfl⟩
theorem last_tot {l : List Rw} {x : Int} (hl : l.length ≤ 1000) (hN : 1048576 < N) : ∃ v b, Zct N l x = some ((), (v, (b, ()))) := by
  unfold Zct
  simp only [specRows_run (show l.length ≤ 1048576 by omega) hN, ret, Option.bind_some]
  cases rowsOk l
  · exact ⟨_, _, rfl⟩
  · have e : isub .i64 (ilen l) 1 = ((l.length : Nat) : Int) - 1 := by unfold ilen; exact isub_eq (by unfold I64; omega)
    rw [e]
    exact last_lp hl N l.length (by omega) (Nat.le_refl _)
theorem net_lp {l : List Rw} (hl : l.length ≤ 1000) (hN : 1048576 < N) : ∀ (j n i : Nat) (o : List Rw), i + j = 8 → j < n → o.length ≤ i → ∃ v : List Rw, Zbx N l (fun i10 t11 l12 => (some ((), (l12, ())))) n (i : Int) o = ret v ∧ v.length ≤ 8
  | j, 0, i, o, _, h, _ => by omega
  | 0, n + 1, i, o, h, _, ho => by
    have : i = 8 := by omega
    subst this
    exact ⟨o, rfl, ho⟩
  | j + 1, n + 1, i, o, h, h1, ho => by
    have e : decide ((i : Int) < 8) = true := by simp; omega
    obtain ⟨v, b, e1⟩ := last_tot (N := N) (x := (i : Int)) hl hN
    have er : room (o.length + [((i : Int), v)].length) = true := room_le (by simp; omega)
    rw [Zbx, e, e1, ix_succ (by omega)]
    simp only [cond_true, Option.bind_some, er]
    cases b
    · exact net_lp hl hN j n (i + 1) o (by omega) (by omega) (by omega)
    · exact net_lp hl hN j n (i + 1) _ (by omega) (by omega) (by simp [List.append_eq]; omega)
theorem net_tot {l : List Rw} (hl : l.length ≤ 1000) (hN : 1048576 < N) : ∃ v : List Rw, Zc2 N l = ret v ∧ v.length ≤ 8 := by
  unfold Zc2
  exact net_lp hl hN 8 N 0 [] rfl (by omega) (by simp)
theorem dWrote (hN : 1048576 < N) (hc : CurOk c) (stamp : Int) : Drw (fun v : Wr × Unit => v.1.2.2.length ≤ 8) (Zc3 N c stamp) := by
  unfold Zc3
  refine (dBelow _ hc).bind fun c v hc hv => (dRows hN hc).bind fun c v2 hc hv2 => ?_
  obtain ⟨r, e, hr⟩ := net_tot (N := N) (l := v2.1) (by omega) hN
  simp only []
  rw [e]
  exact .ok hc hr
theorem dLog_lp (hN : 1048576 < N) : ∀ (n i : Nat) (c : Cur) (a : Int) (l : List UInt8), i < n → i ≤ 10 → CurOk c → l.length + 125 * i ≤ 1250 →
    Drw (fun v : List UInt8 × Unit => v.1.length ≤ 1250) (Zbp N (fun log18 at19 n20 t21 b22 => (some ((b22, ()), (log18, ())))) n l a (i : Int) c)
  | 0, i, c, a, l, h, _, _, _ => by omega
  | n + 1, i, c, a, l, h, h10, hc, hl => by
    unfold Zbp
    refine .bif (fun h0 => ?_) fun h0 => .ok hc (by simp only []; omega)
    have h0 : (i : Int) > 0 := of_decide_eq_true h0
    have e : isub .i64 (i : Int) 1 = ((i - 1 : Nat) : Int) := by rw [isub_eq (by unfold I64; omega)]; omega
    rw [e]
    refine (dBelow _ hc).bind fun c v hc hv => (dWrote hN hc _).bind fun c v2 hc hv2 => ?_
    obtain ⟨x, b, e2, hx⟩ := specAdd_tot (N := N) (s := l) (w := v2.1) (by omega) (by omega) hN
    simp only []
    rw [e2]
    exact dLog_lp hN n (i - 1) c _ x (by omega) (by omega) hc (by omega)
theorem dLog (hN : 1048576 < N) (hc : CurOk c) : Drw (fun v : List UInt8 × Unit => v.1.length ≤ 1250) (Zbs N c) := by
  unfold Zbs
  refine (dBelow _ hc).bind fun c v hc hv => ?_
  have hv := hv.2 (by decide)
  obtain ⟨q, hq⟩ := Int.eq_ofNat_of_zero_le hv.1
  simp only []
  rw [hq]
  exact dLog_lp hN N q c 0 [] (by omega) (by omega) hc (by simp; omega)
theorem dByte (hc : CurOk c) : Drw (fun v : Int × Unit => 0 ≤ v.1 ∧ v.1 ≤ 255) (Zm N c) := .of (byte_draw hc)
theorem dText_lp {st : Int} : ∀ (n i : Nat) (c : Cur) (l : List Int), i < n → CurOk c → l.length + i ≤ 100 →
    Drw (fun v : List UInt8 × Unit => v.1.length ≤ 100) (Z4 N st (fun n15 t16 b17 l18 => (some ((b17, ()), (toStr l18, ())))) n (i : Int) c l)
  | 0, i, c, l, h, _, _ => by omega
  | n + 1, i, c, l, h, hc, hl => by
    unfold Z4
    refine .bif (fun h0 => ?_) fun h0 => .ok hc (by simp [toStr]; omega)
    have h0 : (i : Int) > 0 := of_decide_eq_true h0
    have e : isub .i64 (i : Int) 1 = ((i - 1 : Nat) : Int) := by rw [isub_eq (by unfold I64; omega)]; omega
    rw [e]
    have next : ∀ (c : Cur) (x : Int), CurOk c → Drw (fun v : List UInt8 × Unit => v.1.length ≤ 100) (bif room (l.length + [x].length) then Z4 N st (fun n15 t16 b17 l18 => (some ((b17, ()), (toStr l18, ())))) n ((i - 1 : Nat) : Int) c (List.append l [x]) else none) :=
      fun c x hc => .bifT (room_le (by simp; omega)) (dText_lp n (i - 1) c _ (by omega) hc (by simp [List.append_eq]; omega))
    refine (dByte hc).bind fun c v hc hv => ?_
    refine .bif (fun _ => .bifT rfl (.bif (fun _ => .bifT rfl (next _ _ hc)) fun _ => next _ _ hc)) fun _ => .bif (fun _ => .bifT rfl (next _ _ hc)) fun _ => next _ _ hc
theorem dText (hN : 1048576 < N) (hc : CurOk c) {m : Int} (h0 : 0 ≤ m) (hm : m ≤ 99) : Drw (fun v : List UInt8 × Unit => v.1.length ≤ 100) (Zbg N c m) := by
  unfold Zbg
  refine (dBelow _ hc).bind fun c v0 hc _ => (dBelow _ hc).bind fun c v hc hv => ?_
  have e : iadd .i64 m 1 = m + 1 := iadd_eq (by unfold I64; omega)
  rw [e] at hv
  have hv := hv.2 (by omega)
  obtain ⟨q, hq⟩ := Int.eq_ofNat_of_zero_le hv.1
  simp only []
  rw [hq]
  exact dText_lp N q c [] (by omega) hc (by simp; omega)
theorem dSpoil (hN : 1048576 < N) (hc : CurOk c) {s : List UInt8} (hs : s.length ≤ 2000) : Drw (fun v : List UInt8 × Unit => v.1.length ≤ 2001) (Zew N c s) := by
  unfold Zew
  refine .bif (fun _ => ?_) fun h0 => ?_
  · exact (dText hN hc (by decide) (by decide)).bind fun c v hc hv => .ok hc (by simp only []; omega)
  · have hpos : 0 < s.length := by
      rcases Nat.eq_zero_or_pos s.length with h | h
      · simp [ilen, h] at h0
      · exact h
    refine (dBelow _ hc).bind fun c v hc hv => ?_
    have hv := hv.2 (by unfold ilen; omega)
    obtain ⟨q, hq⟩ := Int.eq_ofNat_of_zero_le hv.1
    have hql : q < s.length := by unfold ilen at hv; omega
    obtain ⟨v, u⟩ := v
    simp only at hq
    subst hq
    refine (dBelow _ hc).bind fun c v2 hc hv2 => ?_
    obtain ⟨cb, b, eb, hcb, hb⟩ := byte_draw (N := N) hc
    obtain ⟨cx, x, ex, hcx, hx⟩ := below_draw (N := N) (n := 255) hc
    have e1 : iadd .i64 (q : Int) 1 = ((q + 1 : Nat) : Int) := ix_succ (by omega)
    have f1 : ∀ (a b : List UInt8), a.length ≤ 3000 → b.length ≤ 3000 → sfit a b = true := fun a b h1 h2 => sfit_le (by omega)
    have l1 : (s.take q).length ≤ 3000 := by simp; omega
    have l2 : (s.drop (q + 1)).length ≤ 3000 := by simp; omega
    have l3 : (s.drop q).length ≤ 3000 := by simp; omega
    have l4 : ∀ z : Int, (toStr [z]).length ≤ 3000 := fun z => by simp [toStr]
    have l5 : ∀ z : Int, (s.take q ++ toStr [z]).length ≤ 3000 := fun z => by simp [toStr]; omega
    simp only [e1, in_pre (show q ≤ s.length by omega), in_pre (show q + 1 ≤ s.length from hql), ix_inb hql, Int.toNat_natCast, eb, ex, Option.bind_some, f1 _ _ l1 l2, f1 _ _ l1 (l4 _), f1 _ _ (l5 _) l2, f1 _ _ (l5 _) l3, cond_true, both_same]
    refine .bif (fun _ => .ok hc ?_) fun _ => .bif (fun _ => .ok hcb ?_) fun _ => .bif (fun _ => .ok hc ?_) fun _ => .ok hcx ?_
    · simp; omega
    · simp [toStr]; omega
    · simp; omega
    · simp [toStr]; omega
theorem dAnyLog (hN : 1048576 < N) (hc : CurOk c) : Drw (fun v : List UInt8 × Unit => v.1.length ≤ 5000) (Zdq N c) := by
  unfold Zdq
  refine (dLog hN hc).bind fun c v hc hv => (dBelow _ hc).bind fun c v2 hc hv2 => ?_
  simp only []
  refine .bif (fun _ => ?_) fun _ => .bif (fun _ => ?_) fun _ => .bif (fun _ => ?_) fun _ => .bif (fun _ => ?_) fun _ => .ok hc (by simp only []; omega)
  · exact (dSpoil hN hc (by omega)).bind fun c v hc hv => .ok hc (by simp only []; omega)
  · have e : iadd .i64 (ilen v.1) 1 = ((v.1.length + 1 : Nat) : Int) := ix_succ (by omega)
    rw [e]
    refine (dBelow _ hc).bind fun c v3 hc hv3 => ?_
    have hv3 := hv3.2 (by omega)
    obtain ⟨q, hq⟩ := Int.eq_ofNat_of_zero_le hv3.1
    simp only []
    rw [hq]
    exact .bifT (in_pre (by omega)) (.ok hc (by simp; omega))
  · exact (dText hN hc (by decide) (by decide)).bind fun c v hc hv => .bifT (sfit_le (by simp only []; omega)) (.ok hc (by simp; omega))
  · refine (dWrote hN hc _).bind fun c v4 hc hv4 => ?_
    have hsl : (shW v4.1).length ≤ 1048576 := shW_len _
    simp only []
    rw [specShow_run (by omega) hN]
    simp only [ret, Option.bind_some]
    rw [specFrame_run hsl hN]
    simp only [ret, Option.bind_some]
    have hfl := fr_len (shW v4.1)
    exact .bifT (sfit_le (by omega)) (.ok hc (by simp; omega))
theorem drawLog_run (hN : 1048576 < N) {code : List Int} (h : code.length ≤ 1048576) : ∃ s, Zb7 N code = ret s ∧ s.length ≤ 5000 := by
  obtain ⟨c, hc, e⟩ := new_draw (N := N) h hN
  obtain ⟨c2, v, e2, _, hv⟩ := dAnyLog hN hc
  refine ⟨v.1, ?_, hv⟩
  unfold Zb7
  simp only [e, ret, Option.bind_some, e2]
theorem dHist_lp (hN : 1048576 < N) : ∀ (n i : Nat) (c : Cur) (a : Int) (l : List Wr), i < n → CurOk c → l.length + i ≤ 100 → (∀ w ∈ l, w.2.2.length ≤ 100) →
    Drw (fun v : List Wr × Unit => v.1.length ≤ 100 ∧ ∀ w ∈ v.1, w.2.2.length ≤ 100) (Zad N (fun at20 n21 t22 b23 l24 => (some ((b23, ()), (l24, ())))) n a (i : Int) c l)
  | 0, i, c, a, l, h, _, _, _ => by omega
  | n + 1, i, c, a, l, h, hc, hl, hw => by
    unfold Zad
    refine .bif (fun h0 => ?_) fun h0 => .ok hc ⟨by simp only []; omega, hw⟩
    have h0 : (i : Int) > 0 := of_decide_eq_true h0
    have e : isub .i64 (i : Int) 1 = ((i - 1 : Nat) : Int) := by rw [isub_eq (by unfold I64; omega)]; omega
    rw [e]
    refine (dBelow _ hc).bind fun c v hc hv => (dBelow _ hc).bind fun c v2 hc hv2 => (dRows hN hc).bind fun c v3 hc hv3 => (dOnce _ hc).bind fun c v4 hc _ => ?_
    refine .bif (fun _ => .bifT (room_le (by simp; omega)) (dHist_lp hN n (i - 1) c _ _ (by omega) hc (by simp [List.append_eq]; omega) ?_)) fun _ => .bifT (room_le (by simp; omega)) (dHist_lp hN n (i - 1) c _ _ (by omega) hc (by simp [List.append_eq]; omega) ?_)
    · intro w h
      simp only [List.append_eq, List.singleton_append, List.mem_cons] at h
      rcases h with rfl | h
      · exact hv3
      · exact hw w h
    · intro w h
      simp only [List.append_eq, List.mem_append, List.mem_singleton] at h
      rcases h with h | rfl
      · exact hw w h
      · exact hv3
theorem dAnyHist (hN : 1048576 < N) (hc : CurOk c) : Drw (fun _ : List Wr × Unit => True) (Zd2 N c) := by
  unfold Zd2 Zb4
  have hh : Drw (fun v : List Wr × Unit => v.1.length ≤ 100 ∧ ∀ w ∈ v.1, w.2.2.length ≤ 100) ((Zc N c (6 : Int)).bind fun o2 =>
     (Zad N (fun at20 n21 t22 b23 l24 => (some ((b23, ()), (l24, ())))) N (0 : Int) o2.2.1 o2.1.1 ([] : List (Int × Int × List (Int × Int))))) := by
    refine (dBelow _ hc).bind fun c v hc hv => ?_
    have hv := hv.2 (by decide)
    obtain ⟨q, hq⟩ := Int.eq_ofNat_of_zero_le hv.1
    simp only []
    rw [hq]
    exact dHist_lp hN N q c 0 [] (by omega) hc (by simp; omega) (by simp)
  refine hh.bind fun c v hc hv => ?_
  refine .bif (fun _ => .ok hc trivial) fun h0 => ?_
  have hpos : 0 < v.1.length := by
    rcases Nat.eq_zero_or_pos v.1.length with h | h
    · simp [ilen, h] at h0
    · exact h
  refine (dBelow _ hc).bind fun c v2 hc hv2 => ?_
  have hv2 := hv2.2 (by unfold ilen; simp only []; omega)
  obtain ⟨q, hq⟩ := Int.eq_ofNat_of_zero_le hv2.1
  have hql : q < v.1.length := by unfold ilen at hv2; simp only [] at hv2; omega
  refine (dBelow _ hc).bind fun c v3 hc hv3 => ?_
  simp only []
  rw [hq]
  have hrow : ∀ d, (List.getD v.1 (Int.toNat (q : Int)) d).2.2.length ≤ 100 := fun d => by rw [ix_get hql]; exact hv.2 _ (List.getElem_mem hql)
  have e0 : inb (0 : Int) v.1.length = true := ix_inb (j := 0) hpos
  have eb : Nat.beq (Int.toNat (q : Int)) (Int.toNat (q : Int)) = true := Nat.beq_refl _
  simp only [e0, ix_inb hql, cond_true, eb, Bool.and_self]
  refine .bif (fun _ => .ok hc trivial) fun _ => .bif (fun _ => .ok hc trivial) fun _ => .bif (fun _ => .ok hc trivial) fun _ => .bif (fun _ => .bifT (room_le ?_) (.ok hc trivial)) fun _ => .ok hc trivial
  have := hrow ((0 : Int), ((0 : Int), ([] : List (Int × Int))))
  simp only [List.length_cons, List.length_nil]
  omega
theorem dCells_lp : ∀ (n i : Nat) (c : Cur) (l : List Int), 8 - i < n → i ≤ 8 → CurOk c → l.length = i → (∀ x ∈ l, isVal x = true) →
    Drw (fun v : List Int × Unit => valsOk v.1 = true) (Z3 N (fun i11 t12 b13 l14 => (some ((b13, ()), (l14, ())))) n (i : Int) c l)
  | 0, i, c, l, h, _, _, _, _ => by omega
  | n + 1, i, c, l, h, hi, hc, hl, hx => by
    unfold Z3
    refine .bif (fun h0 => ?_) fun h0 => .ok hc (by
      have h0 := of_decide_eq_false h0
      unfold valsOk
      simp only [Bool.and_eq_true, List.all_eq_true, decide_eq_true_eq]
      exact ⟨by omega, hx⟩)
    have h0 : (i : Int) < 8 := of_decide_eq_true h0
    rw [ix_succ (show i < 4611686018427387904 by omega)]
    refine (dVal hc).bind fun c v hc hv => .bifT (room_le (by simp; omega)) ?_
    refine dCells_lp n (i + 1) c _ (by omega) (by omega) hc (by simp [List.append_eq]; omega) ?_
    intro x h
    simp only [List.append_eq, List.mem_append, List.mem_singleton] at h
    rcases h with h | rfl
    · exact hx x h
    · unfold isVal; simp; exact hv
theorem drawState_run (hN : 1048576 < N) {code : List Int} (h : code.length ≤ 1048576) : ∃ (v : List Int) (l : List Wr) (n : Int), Zbl N code = some ((), (v, (l, (n, ())))) ∧ v.length ≤ 8 ∧ (valsOk v = true ∨ v.length ≠ 8) := by
  obtain ⟨c, hc, e⟩ := new_draw (N := N) h hN
  have hd : Drw (fun v : List Int × Unit => valsOk v.1 = true) (Z1 N c) := by
    unfold Z1
    exact dCells_lp N 0 c [] (by omega) (by omega) hc rfl (by simp)
  obtain ⟨c1, v, e1, hc1, hv⟩ := hd
  obtain ⟨c2, b, e2, hc2, _⟩ := dOnce (N := N) 20 hc1
  obtain ⟨c3, l, e3, hc3, _⟩ := dAnyHist hN hc2
  obtain ⟨c4, n, e4, _, _⟩ := dBelow (N := N) 20 hc3
  have hlen := vals_len hv
  unfold Zbl
  simp only [e, ret, Option.bind_some, e1, e2, e3, e4]
  cases b.1
  · exact ⟨_, _, _, rfl, by omega, Or.inl hv⟩
  · have e5 : (decide ((0 : Int) ≤ 1) && decide ((1 : Int) ≤ ((v.1.length : Nat) : Int))) = true := by rw [hlen]; rfl
    rw [e5]
    refine ⟨_, _, _, rfl, ?_, Or.inr ?_⟩
    · show (v.1.take 1).length ≤ 8
      simp; omega
    · show (v.1.take 1).length ≠ 8
      simp; omega
end
end Go.Sx
