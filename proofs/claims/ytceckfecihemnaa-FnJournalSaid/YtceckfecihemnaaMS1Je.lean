/- Plain laws of the Lean functions. -/
import Derived.Test.YtceckfecihemnaaMS1Jd

namespace Go.Sx
set_option linter.unusedVariables false
set_option linter.unusedSimpArgs false
theorem u8_ofNat {n : Nat} (h : n < 256) : (UInt8.ofNat n).toNat = n := by simp; omega
theorem unf_fr {t : List UInt8} (h : t.length ≤ 120) (r : List UInt8) : unf (fr t ++ r) = (t, (fr t).length) := by
  have hf : fr t = fx (crc (UInt8.ofNat t.length :: t)) ++ UInt8.ofNat t.length :: t := by unfold fr; rw [if_neg (by omega)]
  have hfx : ∀ n, (fx n).length = 4 := fun n => rfl
  have hl : (fr t).length = 5 + t.length := by rw [hf]; simp [hfx]; omega
  have e1 : (fr t ++ r).getD 4 0 = UInt8.ofNat t.length := by rw [hf]; rfl
  have e2 : (fr t ++ r).drop 5 = t ++ r := by rw [hf]; rfl
  unfold unf
  rw [e1, e2, u8_ofNat (by omega), if_neg (by simp; omega), if_neg (by simp; omega), List.take_left, ← hl, List.take_left, if_pos rfl]
theorem fr_len (t : List UInt8) : (fr t).length ≤ 125 := by
  unfold fr
  split
  · simp
  · simp [fx]; omega
def W9 : Wr := (999999, (1, [(3, 7)]))
theorem rd9 : rdW (shW W9) = some W9 := by decide +kernel
theorem len9 : (shW W9).length = 7 := by decide +kernel
theorem ne9 : seq (shW W9) [] = false := by decide +kernel
theorem lastOf_get {l : List Wr} (h : 0 < l.length) (d : Int) : (l[l.length - 1]'(by omega)).1 = lastOf d l := by
  unfold lastOf
  have hl : l ≠ [] := List.length_pos_iff.1 h
  rw [List.getLast?_eq_some_getLast hl, List.getLast_eq_getElem]
def jadd (s : List UInt8) : List UInt8 × Bool :=
  if (jr 200 0 s).1.length = 200 ∨ 999999 ≤ lastOf 0 (jr 200 0 s).1 then (s, false) else (s.take (jr 200 0 s).2 ++ fr (shW W9), true)
theorem lenm1 {α : Type} {l : List α} (h : 0 < l.length) (h2 : l.length ≤ 1048576) : isub .i64 (ilen l) 1 = ((l.length - 1 : Nat) : Int) := by
  unfold ilen
  rw [isub_eq (by unfold I64; omega)]; omega
theorem implAdd_run {N : Nat} {s : List UInt8} (hs : s.length ≤ 1000000) (hN : 1048576 < N) : Zbr N s (999999, (1, [(3, 7)])) = two (jadd s) := by
  unfold Zbr jadd
  have h9 : Z2 N (999999, (1, [(3, 7)])) = ret (shW W9) := implShow_run (w := W9) (by simp [W9]) hN
  have hle := jr_le 200 0 s
  rw [h9, implJr_run (by omega) hN]
  have ef : Zbd N (shW W9) = ret (fr (shW W9)) := implFrame_run (by rw [len9]; omega) hN
  simp only [ret, Option.bind_some, ne9, cond_false, ef, in_pre hle.1, cond_true, Int.toNat_natCast, both_same]
  have hfl := fr_len (shW W9)
  rw [sfit_le (by simp; omega)]
  simp only [cond_true]
  by_cases h2 : (jr 200 0 s).1.length = 200
  · have e : (ilen (jr 200 0 s).1 == 200) = true := by simp [ilen, h2]
    rw [e, if_pos (Or.inl h2)]; rfl
  · have e : (ilen (jr 200 0 s).1 == 200) = false := by simp [ilen]; omega
    rw [e]
    simp only [cond_false]
    by_cases h0 : 0 < (jr 200 0 s).1.length
    · have e3 : decide (ilen (jr 200 0 s).1 > 0) = true := by simp [ilen]; omega
      rw [e3, lenm1 h0 (by omega), ix_inb (show (jr 200 0 s).1.length - 1 < (jr 200 0 s).1.length by omega), ix_get (show (jr 200 0 s).1.length - 1 < (jr 200 0 s).1.length by omega), lastOf_get h0 0]
      simp only [cond_true]
      by_cases h9 : 999999 ≤ lastOf 0 (jr 200 0 s).1
      · rw [decide_eq_true h9, if_pos (Or.inr h9)]; rfl
      · rw [decide_eq_false h9, if_neg (by omega)]; rfl
    · have e3 : decide (ilen (jr 200 0 s).1 > 0) = false := decide_eq_false (by unfold ilen; omega)
      have hnil : (jr 200 0 s).1 = [] := List.eq_nil_of_length_eq_zero (by omega)
      rw [e3]
      have : ¬ 999999 ≤ lastOf 0 (jr 200 0 s).1 := by rw [hnil]; decide
      rw [if_neg (by omega)]; rfl
theorem jadd_reads {s : List UInt8} (h : (jadd s).2 = true) : (jr 200 0 (jadd s).1).1 = (jr 200 0 s).1 ++ [W9] := by
  unfold jadd at h ⊢
  by_cases hc : (jr 200 0 s).1.length = 200 ∨ 999999 ≤ lastOf 0 (jr 200 0 s).1
  · rw [if_pos hc] at h; cases h
  · rw [if_neg hc]
    have hle := jr_le 200 0 s
    have hfl : (fr (shW W9)).length = 12 := by decide +kernel
    exact jr_add (f := fr (shW W9)) (t := shW W9) (w := W9) (unf_fr (by rw [len9]; omega)) (by omega) rd9 200 0 s (by omega) (by show _ < (999999 : Int); omega)
theorem shW_len (w : Wr) : (shW w).length ≤ 1048576 := by
  unfold shW
  split
  · rename_i ho
    have hr : rowsOk w.2.2 = true := by
      unfold wOk at ho
      cases h4 : rowsOk w.2.2 <;> simp [h4] at ho ⊢
    have hl2 := rowsOk_len hr
    have key : ∀ (l : List Rw) (s : List UInt8), (shR l s).length ≤ s.length + 18 * l.length := by
      intro l
      induction l with
      | nil => intro s; simp [shR]
      | cons r l ih =>
        intro s
        rw [shR_cons]
        have h1 := varI_len r.1
        have h2 := varI_len r.2
        have := ih ((s ++ varI r.1) ++ varI r.2)
        simp only [List.length_append, List.length_cons] at this ⊢
        omega
    have := key w.2.2 ((varI w.1 ++ varI w.2.1) ++ varI (w.2.2.length : Int))
    have a1 := varI_len w.1
    have a2 := varI_len w.2.1
    have a3 := varI_len (w.2.2.length : Int)
    simp only [List.length_append] at this
    omega
  · simp
theorem specAdd_tot {N : Nat} {s : List UInt8} {w : Wr} (hs : s.length ≤ 1000000) (hw : w.2.2.length ≤ 1048576) (hN : 1048576 < N) : ∃ x b, Zdf N s w = some ((), (x, (b, ()))) ∧ x.length ≤ s.length + 125 := by
  unfold Zdf
  have hle := jr_le 200 0 s
  have hsl := shW_len w
  have ef : Zbc N (shW w) = ret (fr (shW w)) := specFrame_run hsl hN
  rw [specJr_run (by omega) hN, specShow_run hw hN]
  have hfl := fr_len (shW w)
  simp only [ret, Option.bind_some, ef, in_pre hle.1, cond_true, Int.toNat_natCast]
  rw [sfit_le (by simp; omega)]
  simp only [cond_true]
  have ht : (s.take (jr 200 0 s).2 ++ fr (shW w)).length ≤ s.length + 125 := by simp; omega
  cases seq (shW w) []
  · simp only [cond_false]
    cases decide (ilen (jr 200 0 s).1 ≥ 200)
    · simp only [cond_false]
      by_cases h0 : 0 < (jr 200 0 s).1.length
      · have e3 : decide (ilen (jr 200 0 s).1 > 0) = true := by simp [ilen]; omega
        rw [e3, lenm1 h0 (by omega), ix_inb (show (jr 200 0 s).1.length - 1 < (jr 200 0 s).1.length by omega)]
        simp only [cond_true]
        cases decide (w.1 ≤ (List.getD (jr 200 0 s).1 (Int.toNat (((jr 200 0 s).1.length - 1 : Nat) : Int)) ((0 : Int), ((0 : Int), ([] : List (Int × Int))))).1)
        · exact ⟨_, _, rfl, ht⟩
        · exact ⟨_, _, rfl, by omega⟩
      · have e3 : decide (ilen (jr 200 0 s).1 > 0) = false := decide_eq_false (by unfold ilen; omega)
        rw [e3]
        exact ⟨_, _, rfl, ht⟩
    · exact ⟨_, _, rfl, by omega⟩
  · exact ⟨_, _, rfl, by omega⟩
structure HistI (l : List Wr) : Prop where
  len : l.length ≤ 200
  ok : ∀ w ∈ l, wOk w = true ∧ w.2.2.length ≤ 8
  asc : List.Pairwise (fun a b : Wr => a.1 < b.1) l
theorem jr_hist (s : List UInt8) : HistI (jr 200 0 s).1 :=
  ⟨(jr_le 200 0 s).2, fun w hw => ((jr_asc 200 0 s).1 w hw).2, (jr_asc 200 0 s).2⟩
theorem HistI.lt {l : List Wr} (h : HistI l) {i j : Nat} (hi : i < j) (hj : j < l.length) : l[i].1 < l[j].1 := List.pairwise_iff_getElem.1 h.asc i j (by omega) hj hi
theorem wOk_parts {w : Wr} (h : wOk w = true) : (decide (1 ≤ w.1) && decide (w.1 ≤ 1000000)) = true ∧ (decide (1 ≤ w.2.1) && decide (w.2.1 ≤ 99)) = true ∧ rowsOk w.2.2 = true := by
  unfold wOk at h
  cases h1 : (decide (1 ≤ w.1) && decide (w.1 ≤ 1000000)) <;> cases h2 : (decide (1 ≤ w.2.1) && decide (w.2.1 ≤ 99)) <;> cases h3 : rowsOk w.2.2 <;> simp [h1, h2, h3] at h ⊢
theorem hist1_lp {N : Nat} {l : List Wr} (h : HistI l) {i : Nat} (hi : i < l.length) {R : Type} {K0 B : Option R} : ∀ (n k : Nat), i - k < n → k ≤ i → Zbq N l (i : Int) K0 (fun k19 t20 => B) n (k : Int) = B
  | 0, k, h1, _ => by omega
  | n + 1, k, h1, h2 => by
    rw [Zbq]
    by_cases hk : k < i
    · have e : decide ((k : Int) < (i : Int)) = true := by simp; omega
      have hkl : k < l.length := by omega
      have hl := h.lt hk hi
      have e2 : (l[k].1 == l[i].1) = false := by simp; omega
      have := h.len
      rw [e, ix_inb hkl, ix_inb hi, ix_get hkl, ix_get hi, e2, ix_succ (by omega)]
      exact hist1_lp h hi n (k + 1) (by omega) (by omega)
    · have e : decide ((k : Int) < (i : Int)) = false := by simp; omega
      rw [e]; rfl
theorem histOk_run {N : Nat} {l : List Wr} (h : HistI l) (hN : 1048576 < N) : Zaz N l = ret true := by
  unfold Zaz
  have hlen := h.len
  have e : decide (ilen l > 200) = false := by simp [ilen]; omega
  rw [e]
  simp only [cond_false]
  have h1 := loop_ix0 (l := l) (V := Unit) (R := Unit × (Bool × Unit)) (lp := fun n j _ => Za8 N l (some ((), (false, ()))) (fun i21 t22 => some ((), (true, ()))) n j) (n := N) (by omega)
    (body := fun j x v k => k v) (K := fun _ v => some ((), (true, ())))
    (fun n i v hi => by
      have hp := wOk_parts (h.ok l[i] (List.getElem_mem hi)).1
      have hr := (h.ok l[i] (List.getElem_mem hi)).2
      simp only [Za8, ix_lt hi, ix_inb hi, ix_get hi, ix_succ (show i < 4611686018427387904 by omega), cond_true, in_eq, ret, Option.bind_some, hp.1, hp.2.1, specRows_run (show l[i].2.2.length ≤ 1048576 by omega) hN, hp.2.2, Bool.not_true, cond_false]
      exact hist1_lp h hi N 0 (by omega) (by omega))
    (fun n v => by simp only [Za8, ix_ge (Nat.le_refl l.length), cond_false]) ()
  refine h1.trans ?_
  rw [foldK_fold (f := fun v _ => v) l 0 () (fun j x v k _ => rfl)]
theorem sameRows_self {N : Nat} {a : List Rw} (ha : a.length ≤ 1048576) (hN : 1048576 < N) : Zba N a a = ret true := by
  unfold Zba
  have e : (ilen a != ilen a) = false := by simp
  rw [e]
  simp only [cond_false]
  have h1 := loop_ix0 (l := a) (V := Unit) (R := Unit × (Bool × Unit)) (lp := fun n j _ => Zan N a a (some ((), (false, ()))) (fun i8 t9 => some ((), (true, ()))) n j) (n := N) (by omega)
    (body := fun j x v k => k v) (K := fun _ v => some ((), (true, ())))
    (fun n i v hi => by
      have e2 : (!((ieq a[i].1 a[i].1) && ((ieq a[i].2 a[i].2) && true))) = false := by simp [ieq]
      simp only [Zan, ix_lt hi, ix_inb hi, ix_get hi, ix_succ (show i < 4611686018427387904 by omega), cond_true, e2, cond_false])
    (fun n v => by simp only [Zan, ix_ge (Nat.le_refl a.length), cond_false]) ()
  refine h1.trans ?_
  rw [foldK_fold (f := fun v _ => v) a 0 () (fun j x v k _ => rfl)]
theorem sameHist_self {N : Nat} {a : List Wr} (ha : a.length ≤ 1048576) (hr : ∀ w ∈ a, w.2.2.length ≤ 1048576) (hN : 1048576 < N) : Zo N a a = ret true := by
  unfold Zo
  have e : (ilen a != ilen a) = false := by simp
  rw [e]
  simp only [cond_false]
  have h1 := loop_ix0 (l := a) (V := Unit) (R := Unit × (Bool × Unit)) (lp := fun n j _ => Zao N a a (some ((), (false, ()))) (fun i8 t9 => some ((), (true, ()))) n j) (n := N) (by omega)
    (body := fun j x v k => k v) (K := fun _ v => some ((), (true, ())))
    (fun n i v hi => by
      have e2 : (a[i].1 != a[i].1) = false := by simp
      have e3 : (a[i].2.1 != a[i].2.1) = false := by simp
      simp only [Zao, ix_lt hi, ix_inb hi, ix_get hi, ix_succ (show i < 4611686018427387904 by omega), cond_true, e2, e3, cond_false, sameRows_self (hr a[i] (List.getElem_mem hi)) hN, ret, Option.bind_some, Bool.not_true])
    (fun n v => by simp only [Zao, ix_ge (Nat.le_refl a.length), cond_false]) ()
  refine h1.trans ?_
  rw [foldK_fold (f := fun v _ => v) a 0 () (fun j x v k _ => rfl)]
theorem foldK_inv {α V R : Type} {body : Int → α → V → (V → Option R) → Option R} {K : Int → V → Option R} {f : V → α → V} (P : V → Prop) : ∀ (l : List α) (j : Nat) (v : V), P v → (∀ x ∈ l, ∀ v, P v → P (f v x)) → (∀ (j : Nat) x v k, x ∈ l → P v → body j x v k = k (f v x)) → foldK body K l j v = K ((j + l.length : Nat) : Int) (l.foldl f v)
  | [], j, v, _, _, _ => rfl
  | x :: l, j, v, hv, hp, h => by
    rw [foldK, h j x v _ (List.mem_cons_self ..) hv, foldK_inv P l (j + 1) _ (hp x (List.mem_cons_self ..) v hv) (fun y hy => hp y (List.mem_cons_of_mem _ hy)) fun j y v k hy => h j y v k (List.mem_cons_of_mem _ hy), List.foldl_cons, List.length_cons]
    rw [show j + 1 + l.length = j + (l.length + 1) by omega]
def ov1 (c : List Int) (r : Rw) : List Int := c.set r.1.toNat r.2
def ov (c : List Int) (rows : List Rw) : List Int := rows.foldl ov1 c
theorem vals_len {c : List Int} (h : valsOk c = true) : c.length = 8 := by unfold valsOk at h; simp at h; exact h.1
theorem isRow_parts {r : Rw} (h : isRow r = true) : 0 ≤ r.1 ∧ r.1 ≤ 7 ∧ isVal r.2 = true := by
  unfold isRow isCell at h; simp at h; exact ⟨h.1.1, h.1.2, h.2⟩
theorem vals_ov1 {c : List Int} {r : Rw} (h : valsOk c = true) (hr : isRow r = true) : valsOk (ov1 c r) = true := by
  unfold valsOk ov1 at *
  simp only [List.length_set, Bool.and_eq_true, List.all_eq_true] at h ⊢
  refine ⟨h.1, fun x hx => ?_⟩
  rcases List.mem_or_eq_of_mem_set hx with hx | rfl
  · exact h.2 x hx
  · exact (isRow_parts hr).2.2
theorem rowsOk_all {l : List Rw} (h : rowsOk l = true) : ∀ r ∈ l, isRow r = true := by
  unfold rowsOk at h; simp only [Bool.and_eq_true, List.all_eq_true] at h; exact h.2
theorem vals_ov : ∀ (l : List Rw) {c : List Int}, valsOk c = true → (∀ r ∈ l, isRow r = true) → valsOk (ov c l) = true
  | [], c, h, _ => h
  | r :: l, c, h, hr => vals_ov l (vals_ov1 h (hr r (List.mem_cons_self ..))) fun x hx => hr x (List.mem_cons_of_mem _ hx)
theorem copyIntsJ {N : Nat} {l : List Int} (h : l.length ≤ 1048576) : Zc1 N l = ret l := by
  unfold Zc1
  rw [room_300 h]; rfl
theorem row_inb {r : Rw} {c : List Int} (h : isRow r = true) (hc : c.length = 8) : inb r.1 c.length = true := by
  have := isRow_parts h
  unfold inb
  rw [hc]
  simp; omega
theorem implOv_run {N : Nat} {c : List Int} {l : List Rw} (hc : valsOk c = true) (hl : rowsOk l = true) (hN : 1048576 < N) : Za3 N c l = ret (ov c l) := by
  unfold Za3
  have hl2 := rowsOk_len hl
  have hc2 := vals_len hc
  simp only [implVals_run (show c.length ≤ 1048576 by omega) hN, implRows_run (show l.length ≤ 1048576 by omega) hN, ret, Option.bind_some, hc, hl, Bool.not_true, cond_false, copyIntsJ (show c.length ≤ 1048576 by omega)]
  have h1 := loop_ix0 (l := l) (V := List Int) (R := Unit × (List Int × Unit)) (lp := fun n j v => Zav N l (fun t13 t14 l15 => some ((), (l15, ()))) n j v) (n := N) (by omega)
    (body := fun j x v k => bif inb x.1 v.length then k (ov1 v x) else none) (K := fun _ v => some ((), (v, ())))
    (fun n i v hi => by simp only [Zav, ix_lt hi, ix_inb hi, ix_get hi, ix_succ (show i < 4611686018427387904 by omega), cond_true, ov1])
    (fun n v => by simp only [Zav, ix_ge (Nat.le_refl l.length), cond_false]) c
  refine h1.trans ?_
  rw [foldK_inv (f := ov1) (fun v => valsOk v = true) l 0 c hc (fun x hx v hv => vals_ov1 hv (rowsOk_all hl x hx)) (fun j x v k hx hv => by rw [row_inb (rowsOk_all hl x hx) (vals_len hv)]; rfl)]
  rfl
theorem specOv_run {N : Nat} {c : List Int} {l : List Rw} (hc : valsOk c = true) (hl : rowsOk l = true) (hN : 1048576 < N) : Za4 N c l = ret (ov c l) := by
  unfold Za4
  have hl2 := rowsOk_len hl
  have hc2 := vals_len hc
  simp only [specVals_run (show c.length ≤ 1048576 by omega) hN, specRows_run (show l.length ≤ 1048576 by omega) hN, ret, Option.bind_some, hc, hl, Bool.not_true, cond_false]
  rw [room_le (by simp; omega)]
  simp only [cond_true, show List.append ([] : List Int) c = c from rfl]
  have h1 := loop_ix0 (l := l) (V := List Int) (R := Unit × (List Int × Unit)) (lp := fun n j v => Zaw N l (fun t13 t14 l15 => some ((), (l15, ()))) n j v) (n := N) (by omega)
    (body := fun j x v k => bif inb x.1 v.length then k (ov1 v x) else none) (K := fun _ v => some ((), (v, ())))
    (fun n i v hi => by simp only [Zaw, ix_lt hi, ix_inb hi, ix_get hi, ix_succ (show i < 4611686018427387904 by omega), cond_true, ov1])
    (fun n v => by simp only [Zaw, ix_ge (Nat.le_refl l.length), cond_false]) c
  refine h1.trans ?_
  rw [foldK_inv (f := ov1) (fun v => valsOk v = true) l 0 c hc (fun x hx v hv => vals_ov1 hv (rowsOk_all hl x hx)) (fun j x v k hx hv => by rw [row_inb (rowsOk_all hl x hx) (vals_len hv)]; rfl)]
  rfl
def stW (c : List Int) (w : Wr) : List Int := ov c w.2.2
theorem implState_run {N : Nat} {c : List Int} {s : List UInt8} (hc : valsOk c = true) (hs : s.length ≤ 1048576) (hN : 1048576 < N) : Zl N c s = ret ((jr 200 0 s).1.foldl stW c) := by
  unfold Zl
  have hh := jr_hist s
  have hc2 := vals_len hc
  have hlen := hh.len
  simp only [implVals_run (show c.length ≤ 1048576 by omega) hN, ret, Option.bind_some, hc, Bool.not_true, cond_false, copyIntsJ (show c.length ≤ 1048576 by omega), implJr_run hs hN]
  have h1 := loop_ix0 (l := (jr 200 0 s).1) (V := List Int) (R := Unit × (List Int × Unit)) (lp := fun n j v => Z6 N (ilen (jr 200 0 s).1) (jr 200 0 s).1 (fun t13 t14 l15 => some ((), (l15, ()))) n j v) (n := N) (by omega)
    (body := fun j x v k => (Za3 N v x.2.2).bind fun o => k o.2.1) (K := fun _ v => some ((), (v, ())))
    (fun n i v hi => by simp only [Z6, ix_lt hi, ix_inb hi, ix_get hi, ix_succ (show i < 4611686018427387904 by omega), cond_true])
    (fun n v => by simp only [Z6, ix_ge (Nat.le_refl _), cond_false]) c
  refine h1.trans ?_
  rw [foldK_inv (f := stW) (fun v => valsOk v = true) (jr 200 0 s).1 0 c hc (fun x hx v hv => vals_ov _ hv (rowsOk_all (wOk_parts (hh.ok x hx).1).2.2)) (fun j x v k hx hv => by rw [implOv_run hv (wOk_parts (hh.ok x hx).1).2.2 hN]; rfl)]
theorem implState_bad {N : Nat} {c : List Int} {s : List UInt8} (hc : c.length ≤ 1048576) (hb : valsOk c = false) (hN : 1048576 < N) : Zl N c s = ret [] := by
  unfold Zl
  simp only [implVals_run hc hN, ret, Option.bind_some, hb, Bool.not_false, cond_true]
end Go.Sx
