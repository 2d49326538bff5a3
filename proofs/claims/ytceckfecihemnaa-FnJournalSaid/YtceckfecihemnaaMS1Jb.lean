/- Plain laws of the Lean functions. -/
import Derived.Test.YtceckfecihemnaaMS1Ja

namespace Go.Sx
set_option linter.unusedVariables false
set_option linter.unusedSimpArgs false
def dec : List UInt8 → Nat
  | [] => 0
  | b :: r => b.toNat % 128 + 128 * dec r
theorem dec_lt : ∀ l : List UInt8, dec l < 128 ^ l.length
  | [] => by simp [dec]
  | b :: r => by
    have := dec_lt r
    rw [dec, List.length_cons, Nat.pow_succ]
    omega
theorem dec_snoc (b : UInt8) : ∀ l : List UInt8, dec (l ++ [b]) = dec l + 128 ^ l.length * (b.toNat % 128)
  | [] => by simp [dec]
  | x :: r => by
    rw [List.cons_append, dec, dec, dec_snoc b r, List.length_cons, Nat.pow_succ, Nat.mul_add]
    rw [Nat.mul_comm (128 ^ r.length) 128, Nat.mul_assoc]
    omega
theorem take_lt {l : List UInt8} {k : Nat} (hk : k ≤ 7) : dec (l.take k) < 562949953421312 := by
  have := dec_lt (l.take k)
  have h2 : (l.take k).length ≤ k := by simp; omega
  have h3 : 128 ^ (l.take k).length ≤ 128 ^ 7 := Nat.pow_le_pow_right (by omega) (by omega)
  have : (128 : Nat) ^ 7 = 562949953421312 := by decide
  omega
def rvF (s : List UInt8) : Nat → Nat → Nat × Nat
  | 0, k => (0, 0)
  | j + 1, k => if k ≤ s.length then (if var (dec (s.take k)) = s.take k then (dec (s.take k), k) else rvF s j (k + 1)) else (0, 0)
def rv (s : List UInt8) : Nat × Nat := rvF s 7 1
theorem rvF_fits (s : List UInt8) : ∀ j k, k + j ≤ 8 → 1 ≤ k → (rvF s j k = (0, 0)) ∨ (k ≤ (rvF s j k).2 ∧ (rvF s j k).2 ≤ 7 ∧ (rvF s j k).2 ≤ s.length ∧ (rvF s j k).1 < 562949953421312 ∧ var (rvF s j k).1 = s.take (rvF s j k).2)
  | 0, k, _, _ => Or.inl rfl
  | j + 1, k, h, h1 => by
    unfold rvF
    split
    · split
      · rename_i h2 h3
        exact Or.inr ⟨Nat.le_refl _, by omega, h2, take_lt (by omega), h3⟩
      · rcases rvF_fits s j (k + 1) (by omega) (by omega) with h | h
        · exact Or.inl h
        · exact Or.inr ⟨by omega, h.2⟩
    · exact Or.inl rfl
theorem rv_fits (s : List UInt8) : (rv s = (0, 0)) ∨ (1 ≤ (rv s).2 ∧ (rv s).2 ≤ 7 ∧ (rv s).2 ≤ s.length ∧ (rv s).1 < 562949953421312 ∧ var (rv s).1 = s.take (rv s).2) := rvF_fits s 7 1 (by omega) (by omega)
theorem rv_le (s : List UInt8) : (rv s).2 ≤ s.length ∧ (rv s).2 ≤ 7 ∧ (rv s).1 < 562949953421312 := by
  rcases rv_fits s with h | h
  · rw [h]; simp
  · omega
theorem rvF_over {s : List UInt8} {i : Nat} (hi : i < s.length) (hb : s[i].toNat < 128) : ∀ j k, k + j ≤ 8 → i + 1 < k → rvF s j k = (0, 0)
  | 0, k, _, _ => rfl
  | j + 1, k, h, h1 => by
    unfold rvF
    split
    · rename_i hk
      have hne : var (dec (s.take k)) ≠ s.take k := by
        intro e
        obtain ⟨a, b, e1, h2, h3⟩ := var_split (take_lt (l := s) (k := k) (by omega))
        rw [e] at e1
        have hl : (s.take k).length = a.length + 1 := by rw [e1]; simp
        rw [List.length_take, Nat.min_eq_left hk] at hl
        have hi2 : i < a.length := by omega
        have : s[i] = a[i] := by
          have e2 : (s.take k)[i]'(by simp; omega) = s[i] := by simp
          rw [← e2]
          simp only [e1]
          rw [List.getElem_append_left hi2]
        have := h3 a[i] (List.getElem_mem hi2)
        rw [← ‹s[i] = a[i]›] at this
        omega
      rw [if_neg hne]
      exact rvF_over hi hb j (k + 1) (by omega) (by omega)
    · rfl
theorem not_var {s : List UInt8} {i : Nat} (hi : i < s.length) (h6 : i ≤ 6) (hb : ¬ s[i].toNat < 128) : var (dec (s.take (i + 1))) ≠ s.take (i + 1) := by
  intro e
  obtain ⟨a, b, e1, h2, h3⟩ := var_split (take_lt (l := s) (k := i + 1) (by omega))
  rw [e] at e1
  rw [List.take_succ_eq_append_getElem hi] at e1
  have := List.append_inj' e1 rfl
  have h := this.2
  simp at h
  rw [h] at hb
  omega
theorem getD_nat {s : List UInt8} {i : Nat} (hi : i < s.length) : List.getD s (Int.toNat (i : Int)) (0 : UInt8) = s[i] := ix_get hi _
theorem specRV1 {N : Nat} {R : Type} {s : List UInt8} {kI : Int} {k : Nat} (hk : k ≤ s.length) (hk7 : k ≤ 7) {K : Int → Int → Bool → Option R} : ∀ (j m : Nat), j ≤ k → j < m →
    Zbi N s kI K m ((dec ((s.take k).drop j) : Nat) : Int) ((j : Int) - 1) = K ((dec (s.take k) : Nat) : Int) (-1) false
  | j, 0, _, h => by omega
  | 0, m + 1, _, _ => by
    simp only [List.drop_zero]
    rfl
  | j + 1, m + 1, h, h1 => by
    have hj : j < s.length := by omega
    have e0 : ((j + 1 : Nat) : Int) - 1 = (j : Int) := by omega
    rw [e0, Zbi]
    have e1 : decide ((j : Int) ≥ 0) = true := by simp
    have hb := u8_lt s[j]
    have e2 : irem (IntKind.wrap .i64 ((s[j].toNat : Nat) : Int)) 128 = ((s[j].toNat % 128 : Nat) : Int) := by rw [wrap_i64 (natI64 (by omega))]; rfl
    have hd := take_lt (l := (s.take k).drop (j + 1)) (k := 7) (by omega)
    rw [List.take_of_length_le (by simp; omega)] at hd
    have hlt : dec ((s.take k).drop (j + 1)) < 128 ^ (k - (j + 1)) := by
      have := dec_lt ((s.take k).drop (j + 1))
      simp at this
      rwa [Nat.min_eq_left hk] at this
    have e3 : imul .i64 ((dec ((s.take k).drop (j + 1)) : Nat) : Int) 128 = ((dec ((s.take k).drop (j + 1)) * 128 : Nat) : Int) := by rw [imul_eq (by unfold I64; omega)]; rfl
    have e4 : iadd .i64 ((dec ((s.take k).drop (j + 1)) * 128 : Nat) : Int) ((s[j].toNat % 128 : Nat) : Int) = ((dec ((s.take k).drop j) : Nat) : Int) := by
      have hd2 : (s.take k).drop j = s[j] :: (s.take k).drop (j + 1) := by
        rw [List.drop_eq_getElem_cons (by simp; omega)]
        simp
      rw [hd2, dec, iadd_eq (by unfold I64; omega)]
      omega
    have e5 : isub .i64 (j : Int) 1 = (j : Int) - 1 := isub_eq (by unfold I64; omega)
    rw [e1, ix_inb hj, getD_nat hj, e2, e3, e4, e5]
    simp only [cond_true, show inz (128 : Int) = true from rfl]
    exact specRV1 hk hk7 j m (by omega) (by omega)
abbrev two {α β : Type} (p : α × β) : Option (Unit × (α × (β × Unit))) := some ((), (p.1, (p.2, ())))
def nn (p : Nat × Nat) : Int × Int := (p.1, p.2)
theorem in_pre {k n : Nat} (h : k ≤ n) : (decide ((0 : Int) ≤ (k : Int)) && decide ((k : Int) ≤ (n : Int))) = true := by simp; omega
theorem specRV0 {N : Nat} {s : List UInt8} (hs : s.length ≤ 1048576) (hN : 1048576 < N) : ∀ (j k m : Nat), k + j = 8 → 1 ≤ k → j < m →
    Z7 N s (fun t25 t26 => (some ((), (t25, (t26, ()))))) (fun k27 t28 => (some ((), ((0 : Int), ((0 : Int), ()))))) m (k : Int) = two (nn (rvF s j k))
  | j, k, 0, _, _, h => by omega
  | 0, k, m + 1, h, _, _ => by
    have : k = 8 := by omega
    subst this
    rfl
  | j + 1, k, m + 1, h, h1, h2 => by
    have e1 : decide ((k : Int) ≤ 7) = true := by simp; omega
    rw [Z7, e1, rvF]
    simp only [cond_true]
    by_cases hk : k ≤ s.length
    · have e2 : decide ((k : Int) ≤ ilen s) = true := by simp [ilen]; exact hk
      have e3 : isub .i64 (k : Int) 1 = (k : Int) - 1 := isub_eq (by unfold I64; omega)
      have e4 : iadd .i64 (k : Int) 1 = ((k + 1 : Nat) : Int) := ix_succ (by omega)
      rw [e2, if_pos hk, e3, e4]
      simp only [cond_true]
      have h0 := specRV1 (N := N) (R := Unit × (Int × (Int × Unit))) (s := s) (kI := (k : Int)) hk (by omega) (K := fun n20 i21 t22 =>
        (both
         ((Zw N n20).bind fun o23 =>
         (bif (decide ((0 : Int) ≤ (k : Int))) && (decide ((k : Int) ≤ ((List.length s) : Int))) then
         (bif seq o23.2.1 (List.take (Int.toNat (k : Int)) s) then
         (some ((), (n20, ((k : Int), ()))))
         else
         (Z7 N s (fun t25 t26 => (some ((), (t25, (t26, ()))))) (fun k27 t28 => (some ((), ((0 : Int), ((0 : Int), ()))))) m ((k + 1 : Nat) : Int))) else none))
         (bif (decide ((0 : Int) ≤ (k : Int))) && (decide ((k : Int) ≤ ((List.length s) : Int))) then
         ((Zw N n20).bind fun o24 =>
         (bif seq o24.2.1 (List.take (Int.toNat (k : Int)) s) then
         (some ((), (n20, ((k : Int), ()))))
         else
         (Z7 N s (fun t25 t26 => (some ((), (t25, (t26, ()))))) (fun k27 t28 => (some ((), ((0 : Int), ((0 : Int), ()))))) m ((k + 1 : Nat) : Int)))) else none))) k N (Nat.le_refl _) (by omega)
      have e5 : (s.take k).drop k = [] := by rw [List.drop_eq_nil_of_le]; simp; omega
      rw [e5] at h0
      refine h0.trans ?_
      simp only [in_pre hk, cond_true, specVar_run hN, ret, Option.bind_some, both_same, varI_nat (take_lt (l := s) (k := k) (by omega)), Int.toNat_natCast, seq_same]
      by_cases hv : var (dec (s.take k)) = s.take k
      · rw [if_pos hv, hv, same_self]; rfl
      · rw [if_neg hv, same_ne hv]
        exact specRV0 hs hN j (k + 1) m (by omega) (by omega) (by omega)
    · have e2 : decide ((k : Int) ≤ ilen s) = false := by simp [ilen]; omega
      rw [e2, if_neg hk]
      rfl
theorem specReadVar_run {N : Nat} {s : List UInt8} (hs : s.length ≤ 1048576) (hN : 1048576 < N) : Zb0 N s = two (nn (rv s)) := specRV0 hs hN 7 1 N rfl (by omega) (by omega)
theorem iand8 {b : Nat} (h : b < 256) : iand .u8 (b : Int) 127 = ((b % 128 : Nat) : Int) := by
  have key : ∀ b : Fin 256, iand .u8 ((b : Nat) : Int) 127 = (((b : Nat) % 128 : Nat) : Int) := by decide +kernel
  exact key ⟨b, h⟩
theorem pow7 (i : Nat) : (2 : Nat) ^ (7 * i) = 128 ^ i := by rw [Nat.pow_mul]
theorem implStep {s : List UInt8} {i : Nat} (hi : i < s.length) (h6 : i ≤ 6) :
    ior .i64 ((dec (s.take i) : Nat) : Int) (ishl .i64 (IntKind.wrap .i64 (iand .u8 (((UInt8.toNat s[i] : Nat) : Int)) (127 : Int))) (imul .i64 (7 : Int) (i : Int))) = ((dec (s.take (i + 1)) : Nat) : Int) := by
  have hb := u8_lt s[i]
  have e1 : imul .i64 7 (i : Int) = ((7 * i : Nat) : Int) := by rw [imul_eq (by unfold I64; omega)]; omega
  rw [iand8 hb, wrap_i64 (natI64 (by omega)), e1]
  have hlen : (s.take i).length = i := by simp; omega
  have hlt := dec_lt (s.take i)
  rw [hlen] at hlt
  have h128 : (128 : Nat) ^ i ≤ 128 ^ 6 := Nat.pow_le_pow_right (by omega) h6
  have h6e : (128 : Nat) ^ 6 = 4398046511104 := by decide
  have hm : s[i].toNat % 128 * 128 ^ i ≤ 127 * 4398046511104 := Nat.mul_le_mul (by omega) (by omega)
  have e2 : ishl .i64 ((s[i].toNat % 128 : Nat) : Int) ((7 * i : Nat) : Int) = ((s[i].toNat % 128 * 128 ^ i : Nat) : Int) := by
    unfold ishl
    have : min (Int.toNat ((7 * i : Nat) : Int)) (IntKind.bits .i64) = 7 * i := by
      show min (Int.toNat ((7 * i : Nat) : Int)) 64 = 7 * i
      rw [Int.toNat_natCast]; omega
    rw [this]
    have e3 : ((s[i].toNat % 128 : Nat) : Int) * 2 ^ (7 * i) = ((s[i].toNat % 128 * 128 ^ i : Nat) : Int) := by
      rw [← pow7]; push_cast; rfl
    rw [e3]
    exact wrap_i64 (natI64 (by omega))
  rw [e2, ior_nat (by omega) (by omega), List.take_succ_eq_append_getElem hi, dec_snoc, hlen]
  congr 1
  have := Nat.two_pow_add_eq_or_of_lt (i := 7 * i) (b := dec (s.take i)) (by rw [pow7]; exact hlt) (s[i].toNat % 128)
  rw [pow7] at this
  rw [Nat.or_comm, Nat.mul_comm _ (128 ^ i), ← this]
  omega
theorem implRV0 {N : Nat} {s : List UInt8} (hs : s.length ≤ 1048576) (hN : 1048576 < N) : ∀ (j i m : Nat), i + j = 7 → j < m →
    Zat N s (fun t14 t15 => (some ((), (t14, (t15, ()))))) (fun n16 i17 t18 => (some ((), ((0 : Int), ((0 : Int), ()))))) m ((dec (s.take i) : Nat) : Int) (i : Int) = two (nn (rvF s j (i + 1)))
  | j, i, 0, _, h => by omega
  | 0, i, m + 1, h, _ => by
    have : i = 7 := by omega
    subst this
    rw [Zat, show decide (((7 : Nat) : Int) < 7) = false from rfl]
    cases decide (((7 : Nat) : Int) < ilen s) <;> rfl
  | j + 1, i, m + 1, h, h2 => by
    rw [Zat, rvF]
    by_cases hi : i < s.length
    · have e1 : decide ((i : Int) < 7) = true := by simp; omega
      have e2 : inn (imul .i64 (7 : Int) (i : Int)) = true := by
        unfold inn
        rw [imul_eq (by unfold I64; omega)]; simp; omega
      have e4 : iadd .i64 (i : Int) 1 = ((i + 1 : Nat) : Int) := ix_succ (by omega)
      rw [ix_lt hi, e1, ix_inb hi, e2, getD_nat hi, implStep hi (by omega), e4, if_pos (by omega)]
      simp only [cond_true]
      by_cases hb : s[i].toNat < 128
      · have e5 : decide (((s[i].toNat : Nat) : Int) < 128) = true := by simp; omega
        rw [e5]
        simp only [in_pre (show i + 1 ≤ s.length from hi), cond_true, implVar_run hN, ret, Option.bind_some, both_same, varI_nat (take_lt (l := s) (k := i + 1) (by omega)), Int.toNat_natCast, seq_same]
        by_cases hv : var (dec (s.take (i + 1))) = s.take (i + 1)
        · rw [if_pos hv, hv, same_self]; rfl
        · rw [if_neg hv, same_ne hv, rvF_over hi hb j (i + 1 + 1) (by omega) (by omega)]; rfl
      · have e5 : decide (((s[i].toNat : Nat) : Int) < 128) = false := by simp; omega
        rw [e5, if_neg (not_var hi (by omega) hb)]
        simp only [cond_false]
        exact implRV0 hs hN j (i + 1) m (by omega) (by omega)
    · rw [ix_ge (by omega), if_neg (by omega)]
      rfl
theorem implReadVar_run {N : Nat} {s : List UInt8} (hs : s.length ≤ 1048576) (hN : 1048576 < N) : Zbk N s = two (nn (rv s)) := implRV0 hs hN 7 0 N rfl (by omega)
def unf (s : List UInt8) : List UInt8 × Nat :=
  if s.length < 5 then ([], 0) else
    if 120 < (s.getD 4 0).toNat ∨ s.length < 5 + (s.getD 4 0).toNat then ([], 0) else
      if fr ((s.drop 5).take (s.getD 4 0).toNat) = s.take (5 + (s.getD 4 0).toNat) then ((s.drop 5).take (s.getD 4 0).toNat, 5 + (s.getD 4 0).toNat) else ([], 0)
def sn (p : List UInt8 × Nat) : List UInt8 × Int := (p.1, p.2)
theorem drop4 {s : List UInt8} (h : 5 ≤ s.length) : s.drop 4 = s.getD 4 0 :: s.drop 5 := by
  have e := List.drop_eq_getElem_cons (show 4 < s.length by omega)
  rw [e]
  congr 1
  simp [List.getD, List.getElem?_eq_getElem (show 4 < s.length by omega)]
theorem var_small {n : Nat} (h : n < 128) : var n = [UInt8.ofNat n] := by
  unfold var vlF
  rw [if_pos h]
  rfl
theorem rv_small {b : UInt8} {r : List UInt8} (hb : b.toNat < 128) : rv (b :: r) = (b.toNat, 1) := by
  unfold rv rvF
  have e : dec (List.take 1 (b :: r)) = b.toNat := by simp [dec]; omega
  rw [e, var_small hb]
  simp
theorem rv_big {b : UInt8} {r : List UInt8} (hb : ¬ b.toNat < 128) : rv (b :: r) = (0, 0) ∨ 128 ≤ (rv (b :: r)).1 := by
  rcases rv_fits (b :: r) with h | ⟨h1, h2, h3, h4, h5⟩
  · exact Or.inl h
  · refine Or.inr (Nat.le_of_not_lt fun hlt => ?_)
    rw [var_small hlt] at h5
    obtain ⟨k, hk⟩ : ∃ k, (rv (b :: r)).2 = k + 1 := ⟨(rv (b :: r)).2 - 1, by omega⟩
    rw [hk, List.take_succ_cons] at h5
    have := (List.cons.inj h5).1
    rw [← this] at hb
    simp at hb
    omega
theorem drop_take5 (s : List UInt8) (n : Nat) : List.drop 5 (List.take (5 + n) s) = (s.drop 5).take n := by
  rw [List.drop_take]
  congr 1
  omega
theorem implUnframe_run {N : Nat} {s : List UInt8} (hs : s.length ≤ 1048576) (hN : 1048576 < N) : Zex N s = two (sn (unf s)) := by
  unfold Zex unf
  by_cases h5 : s.length < 5
  · have e : decide (ilen s < 5) = true := decide_eq_true (by unfold ilen; omega)
    rw [e, if_pos h5]; rfl
  · have e : decide (ilen s < 5) = false := decide_eq_false (by unfold ilen; omega)
    have e1 : (decide ((0 : Int) ≤ 4) && decide ((4 : Int) ≤ ((s.length : Nat) : Int))) = true := by simp; omega
    rw [e, if_neg h5]
    simp only [cond_false, e1, cond_true]
    rw [show Int.toNat 4 = 4 from rfl, implReadVar_run (by simp; omega) hN, drop4 (by omega)]
    generalize s.getD 4 0 = b
    simp only [two, Option.bind_some]
    by_cases hb : b.toNat < 128
    · rw [rv_small hb]
      have e2 : ((nn (b.toNat, 1)).2 == 0) = false := rfl
      rw [e2]
      simp only [cond_false]
      by_cases h120 : 120 < b.toNat
      · have e3 : decide ((nn (b.toNat, 1)).1 > 120) = true := by simp [nn]; omega
        rw [e3, if_pos (Or.inl h120)]; rfl
      · have e3 : decide ((nn (b.toNat, 1)).1 > 120) = false := by simp [nn]; omega
        have e4 : iadd .i64 4 (nn (b.toNat, 1)).2 = 5 := rfl
        have e5 : iadd .i64 5 (nn (b.toNat, 1)).1 = ((5 + b.toNat : Nat) : Int) := by
          show iadd .i64 5 ((b.toNat : Nat) : Int) = _
          rw [iadd_eq (by unfold I64; omega)]; omega
        rw [e3, e4, e5]
        simp only [cond_false]
        by_cases hl : s.length < 5 + b.toNat
        · have e6 : decide (((5 + b.toNat : Nat) : Int) > ilen s) = true := by simp [ilen]; omega
          rw [e6, if_pos (Or.inr hl)]; rfl
        · have e6 : decide (((5 + b.toNat : Nat) : Int) > ilen s) = false := by simp [ilen]; omega
          have e7 : (decide ((0 : Int) ≤ 5) && decide ((5 : Int) ≤ ((5 + b.toNat : Nat) : Int))) = true := by simp; omega
          have e7a : decide ((0 : Int) ≤ 5) = true := rfl
          have e7b : decide ((5 : Int) ≤ ((5 + b.toNat : Nat) : Int)) = true := by simp; omega
          rw [e6, if_neg (by omega), in_pre (show 5 + b.toNat ≤ s.length by omega), e7a, e7b]
          simp only [cond_false, Bool.and_self, cond_true, Int.toNat_natCast, show Int.toNat 5 = 5 from rfl, drop_take5]
          rw [implFrame_run (by simp; omega) hN]
          simp only [ret, Option.bind_some, both_same, seq_same]
          by_cases hf : fr ((s.drop 5).take b.toNat) = s.take (5 + b.toNat)
          · rw [if_pos hf, hf, same_self]; rfl
          · rw [if_neg hf, same_ne hf]; rfl
    · have h120 : 120 < b.toNat := by omega
      rw [if_pos (Or.inl h120)]
      rcases rv_big (r := s.drop 5) hb with h | h
      · rw [h]; rfl
      · have e3 : decide ((nn (rv (b :: s.drop 5))).1 > 120) = true := by simp [nn]; omega
        rw [e3]
        cases (nn (rv (b :: s.drop 5))).2 == 0 <;> rfl
theorem getD4 {s : List UInt8} (h : 5 ≤ s.length) : List.drop 4 (List.take 5 s) = [s.getD 4 0] := by
  rw [List.drop_take, drop4 h]; rfl
theorem specUnf_lp {N : Nat} {s : List UInt8} (hs : s.length ≤ 1048576) (hN : 1048576 < N) : ∀ (j n m : Nat), n + j = 121 → j < m →
    Zr N s (fun t22 t23 => (some ((), (t22, (t23, ()))))) (fun n24 t25 => (some ((), (([] : List UInt8), ((0 : Int), ()))))) m (n : Int) = two (sn (if n ≤ (s.getD 4 0).toNat then unf s else ([], 0)))
  | j, n, 0, _, h => by omega
  | 0, n, m + 1, h, _ => by
    have : n = 121 := by omega
    subst this
    have e : (if 121 ≤ (s.getD 4 0).toNat then unf s else ([], 0)) = ([], 0) := by
      split
      · unfold unf
        split
        · rfl
        · rw [if_pos (Or.inl (by omega))]
      · rfl
    rw [e]; rfl
  | j + 1, n, m + 1, h, h2 => by
    have ih := specUnf_lp (N := N) hs hN j (n + 1) m (by omega) (by omega)
    have e1 : decide ((n : Int) ≤ 120) = true := by simp; omega
    have e2 : iadd .i64 (n : Int) 1 = ((n + 1 : Nat) : Int) := ix_succ (by omega)
    have e4 : iadd .i64 4 (ilen [UInt8.ofNat n]) = 5 := rfl
    have e5 : iadd .i64 5 (n : Int) = ((5 + n : Nat) : Int) := by rw [iadd_eq (by unfold I64; omega)]; omega
    rw [Zr]
    simp only [e1, e2, cond_true, specVar_run hN, ret, Option.bind_some, varI_small (show n < 128 by omega), e4, e5, ih]
    by_cases hl : s.length < 5 + n
    · have e6 : decide (ilen s ≥ ((5 + n : Nat) : Int)) = false := by simp [ilen]; omega
      rw [e6]
      simp only [cond_false, both_same]
      congr 2
      split
      · rw [if_pos (by omega)]
      · split
        · unfold unf
          split
          · rfl
          · rw [if_pos (Or.inr (by omega))]
        · rfl
    · have e6 : decide (ilen s ≥ ((5 + n : Nat) : Int)) = true := by simp [ilen]; omega
      have e7 : decide ((5 : Int) ≤ ((s.length : Nat) : Int)) = true := by simp; omega
      have e8 : decide ((5 : Int) ≤ ((5 + n : Nat) : Int)) = true := by simp; omega
      rw [e6, in_pre (show 5 + n ≤ s.length by omega), e7, e8]
      simp only [cond_true, show decide ((0 : Int) ≤ 5) = true from rfl, show decide ((0 : Int) ≤ 4) = true from rfl, show decide ((4 : Int) ≤ 5) = true from rfl, Bool.and_self, show Int.toNat 4 = 4 from rfl, show Int.toNat 5 = 5 from rfl,
        getD4 (show 5 ≤ s.length by omega), Int.toNat_natCast, drop_take5, both_same]
      rw [specFrame_run (by simp; omega) hN]
      simp only [ret, Option.bind_some, both_same, seq_same]
      by_cases hb : s.getD 4 0 = UInt8.ofNat n
      · have hbn : (s.getD 4 0).toNat = n := by rw [hb]; simp; omega
        have hs1 : same [s.getD 4 0] [UInt8.ofNat n] = true := by rw [hb, same_self]
        rw [hs1]
        simp only [cond_true]
        rw [hbn, if_pos (Nat.le_refl _), if_neg (show ¬ n + 1 ≤ n by omega)]
        unfold unf
        rw [if_neg (show ¬ s.length < 5 by omega), hbn, if_neg (by omega)]
        by_cases hf : fr ((s.drop 5).take n) = s.take (5 + n)
        · rw [if_pos hf, hf, same_self]; rfl
        · rw [if_neg hf, same_ne (fun e => hf e.symm)]; rfl
      · have hbn : (s.getD 4 0).toNat ≠ n := by
          intro e
          apply hb
          rw [← e]; simp
        rw [same_ne (by simpa using hb)]
        simp only [cond_false]
        congr 2
        by_cases hle : n ≤ (s.getD 4 0).toNat
        · rw [if_pos hle, if_pos (by omega)]
        · rw [if_neg hle, if_neg (by omega)]
theorem specUnframe_run {N : Nat} {s : List UInt8} (hs : s.length ≤ 1048576) (hN : 1048576 < N) : Zbz N s = two (sn (unf s)) := by
  have := specUnf_lp hs hN 121 0 N rfl (by omega)
  rw [if_pos (Nat.zero_le _)] at this
  exact this
end Go.Sx
