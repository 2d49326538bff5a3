/- Plain laws of the Lean functions. -/
import Derived.Test.YtceckfecihemnaaMS1Draw

namespace Go.Sx
set_option linter.unusedVariables false
set_option linter.unusedSimpArgs false
theorem both_same {α : Type} (a : Option α) : both a a = a := by unfold both; simp
theorem wrap_u8 {n : Nat} (h : n ≤ 255) : IntKind.wrap .u8 (n : Int) = n := by
  show (if (false && decide ((n : Int) % 256 ≥ 128)) = true then (n : Int) % 256 - 256 else (n : Int) % 256) = n
  simp only [Bool.false_and, Bool.false_eq_true, if_false]
  omega
def vlF : Nat → Nat → List Nat
  | 0, n => [n]
  | k + 1, n => if n < 128 then [n] else (n % 128 + 128) :: vlF k (n / 128)
def var (n : Nat) : List UInt8 := (vlF 8 n).map UInt8.ofNat
theorem vlF_len : ∀ (k n : Nat), 1 ≤ (vlF k n).length ∧ (vlF k n).length ≤ k + 1
  | 0, n => by simp [vlF]
  | k + 1, n => by
    unfold vlF
    split
    · simp
    · have := vlF_len k (n / 128)
      simp; omega
theorem var_len (n : Nat) : 1 ≤ (var n).length ∧ (var n).length ≤ 9 := by
  have := vlF_len 8 n
  unfold var; simpa using this
theorem vl_split : ∀ (k n : Nat), n < 128 ^ (k + 1) → ∃ (a : List Nat) (b : Nat), vlF k n = a ++ [b] ∧ b < 128 ∧ ∀ x ∈ a, 128 ≤ x ∧ x < 256
  | 0, n, h => ⟨[], n, rfl, by simpa using h, by simp⟩
  | k + 1, n, h => by
    unfold vlF
    split
    · exact ⟨[], n, rfl, by omega, by simp⟩
    · obtain ⟨a, b, e, h1, h2⟩ := vl_split k (n / 128) (by rw [Nat.div_lt_iff_lt_mul (by omega)]; rw [Nat.pow_succ] at h; exact h)
      refine ⟨(n % 128 + 128) :: a, b, by rw [e]; rfl, h1, ?_⟩
      intro x hx
      rcases List.mem_cons.1 hx with rfl | hx
      · omega
      · exact h2 x hx
theorem var_split {n : Nat} (h : n < 562949953421312) : ∃ (a : List UInt8) (b : UInt8), var n = a ++ [b] ∧ b.toNat < 128 ∧ ∀ x ∈ a, 128 ≤ x.toNat := by
  obtain ⟨a, b, e, h1, h2⟩ := vl_split 8 n (by omega)
  refine ⟨a.map UInt8.ofNat, UInt8.ofNat b, by unfold var; rw [e]; simp, by simp; omega, ?_⟩
  intro x hx
  obtain ⟨y, hy, rfl⟩ := List.mem_map.1 hx
  have := h2 y hy
  simp; omega
theorem and127 (n : Nat) : n &&& 127 = n % 128 := Nat.and_two_pow_sub_one_eq_mod n 7
theorem or128 {n : Nat} (h : n < 128) : n ||| 128 = n + 128 := by
  have := Nat.two_pow_add_eq_or_of_lt (i := 7) (b := n) (by simpa using h) 1
  rw [Nat.or_comm]
  simp at this
  omega
theorem ishr7 (n : Nat) : ishr .i64 (n : Int) 7 = ((n / 128 : Nat) : Int) := by
  unfold ishr
  show Int.fdiv (n : Int) 128 = _
  rw [Int.fdiv_eq_ediv_of_nonneg _ (by omega)]
  rfl
theorem iquo_nat {n k : Nat} (h : n < 9223372036854775808) : iquo .i64 (n : Int) (k : Int) = ((n / k : Nat) : Int) := by
  unfold iquo
  have : (n : Int).tdiv (k : Int) = ((n / k : Nat) : Int) := rfl
  rw [this]
  exact wrap_i64 (natI64 (by have := Nat.div_le_self n k; omega))
theorem irem_nat {n k : Nat} : irem (n : Int) (k : Int) = ((n % k : Nat) : Int) := rfl
def natI (l : List Nat) : List Int := l.map fun x : Nat => Int.ofNat x
@[simp] theorem natI_nil : natI [] = [] := rfl
@[simp] theorem natI_cons (a : Nat) (l : List Nat) : natI (a :: l) = (a : Int) :: natI l := rfl
theorem implVar_lp {N : Nat} : ∀ (f n m : Nat) (acc : List Int), n < 128 ^ (f + 1) → n < 9223372036854775808 → f < m → acc.length + f ≤ 1000 →
    Zbj N (fun n8 t9 l10 => (bif room ((List.length l10) + (List.length ([(IntKind.wrap .u8 n8)]))) then (some ((), (toStr (List.append l10 ([(IntKind.wrap .u8 n8)])), ()))) else none)) m (n : Int) acc = ret (toStr (acc ++ natI (vlF f n)))
  | f, n, 0, acc, _, _, h2, _ => by omega
  | 0, n, m + 1, acc, h, h9, h2, h3 => by
    have e : decide ((n : Int) > 127) = false := by simp at h; simp; omega
    have e1 : IntKind.wrap .u8 (n : Int) = n := wrap_u8 (by simp at h; omega)
    simp only [Zbj, e, cond_false, e1]
    rw [room_le (by simp; omega)]
    simp [vlF]
  | f + 1, n, m + 1, acc, h, h9, h2, h3 => by
    unfold vlF
    by_cases hn : n < 128
    · have e : decide ((n : Int) > 127) = false := by simp; omega
      have e1 : IntKind.wrap .u8 (n : Int) = n := wrap_u8 (by omega)
      simp only [Zbj, e, cond_false, e1]
      rw [room_le (by simp; omega), if_pos hn]
      simp
    · have e : decide ((n : Int) > 127) = true := by simp; omega
      have a1 : iand .i64 (n : Int) 127 = ((n % 128 : Nat) : Int) := by rw [show (127 : Int) = ((127 : Nat) : Int) from rfl, iand_nat h9 (by omega), and127]
      have a2 : ior .i64 ((n % 128 : Nat) : Int) 128 = ((n % 128 + 128 : Nat) : Int) := by rw [show (128 : Int) = ((128 : Nat) : Int) from rfl, ior_nat (by omega) (by omega), or128 (by omega)]
      have a3 : IntKind.wrap .u8 ((n % 128 + 128 : Nat) : Int) = ((n % 128 + 128 : Nat) : Int) := wrap_u8 (by omega)
      rw [if_neg hn]
      have := implVar_lp (N := N) f (n / 128) m (acc ++ [((n % 128 + 128 : Nat) : Int)]) (by rw [Nat.div_lt_iff_lt_mul (by omega)]; rw [Nat.pow_succ] at h; exact h) (by omega) (by omega) (by simp; omega)
      rw [Zbj, e, a1, a2, a3, ishr7, room_le (by simp; omega)]
      simp only [cond_true, show inn (7 : Int) = true from rfl]
      refine this.trans ?_
      simp
theorem specVar_lp {N : Nat} : ∀ (f n m : Nat) (acc : List Int), n < 128 ^ (f + 1) → n < 9223372036854775808 → f < m → acc.length + f ≤ 1000 →
    Zbh N (fun n8 t9 l10 => (bif room ((List.length l10) + (List.length ([(IntKind.wrap .u8 n8)]))) then (some ((), (toStr (List.append l10 ([(IntKind.wrap .u8 n8)])), ()))) else none)) m (n : Int) acc = ret (toStr (acc ++ natI (vlF f n)))
  | f, n, 0, acc, _, _, h2, _ => by omega
  | 0, n, m + 1, acc, h, h9, h2, h3 => by
    have e : decide ((n : Int) ≥ 128) = false := by simp at h; simp; omega
    have e1 : IntKind.wrap .u8 (n : Int) = n := wrap_u8 (by simp at h; omega)
    simp only [Zbh, e, cond_false, e1]
    rw [room_le (by simp; omega)]
    simp [vlF]
  | f + 1, n, m + 1, acc, h, h9, h2, h3 => by
    unfold vlF
    by_cases hn : n < 128
    · have e : decide ((n : Int) ≥ 128) = false := by simp; omega
      have e1 : IntKind.wrap .u8 (n : Int) = n := wrap_u8 (by omega)
      simp only [Zbh, e, cond_false, e1]
      rw [room_le (by simp; omega), if_pos hn]
      simp
    · have e : decide ((n : Int) ≥ 128) = true := by simp; omega
      have a1 : irem (n : Int) 128 = ((n % 128 : Nat) : Int) := rfl
      have a2 : iadd .i64 128 ((n % 128 : Nat) : Int) = ((n % 128 + 128 : Nat) : Int) := by rw [iadd_eq (by unfold I64; omega)]; omega
      have a3 : IntKind.wrap .u8 ((n % 128 + 128 : Nat) : Int) = ((n % 128 + 128 : Nat) : Int) := wrap_u8 (by omega)
      have a4 : iquo .i64 (n : Int) 128 = ((n / 128 : Nat) : Int) := iquo_nat (k := 128) h9
      rw [if_neg hn]
      have := specVar_lp (N := N) f (n / 128) m (acc ++ [((n % 128 + 128 : Nat) : Int)]) (by rw [Nat.div_lt_iff_lt_mul (by omega)]; rw [Nat.pow_succ] at h; exact h) (by omega) (by omega) (by simp; omega)
      rw [Zbh, e, a1, a2, a3, a4, room_le (by simp; omega)]
      simp only [cond_true, show inz (128 : Int) = true from rfl]
      refine this.trans ?_
      simp
def varI (n : Int) : List UInt8 := if 0 ≤ n ∧ n ≤ 562949953421311 then var n.toNat else []
theorem varI_nat {n : Nat} (h : n < 562949953421312) : varI (n : Int) = var n := by unfold varI; rw [if_pos (by omega)]; simp
theorem toStr_nat (l : List Nat) : toStr (natI l) = l.map UInt8.ofNat := by simp [toStr, natI]
theorem implVar_run {N : Nat} {n : Int} (hN : 1048576 < N) : Zai N n = ret (varI n) := by
  unfold Zai varI
  simp only [within_eq, ret, Option.bind_some]
  by_cases h : 0 ≤ n ∧ n ≤ 562949953421311
  · obtain ⟨q, rfl⟩ := Int.eq_ofNat_of_zero_le h.1
    have e : (!(decide (0 ≤ (q : Int)) && decide ((q : Int) ≤ 562949953421311))) = false := by simp; omega
    rw [if_pos h, e]
    simp only [cond_false]
    refine (implVar_lp 8 q N [] (by omega) (by omega) (by omega) (by simp)).trans ?_
    simp only [List.nil_append, toStr_nat, Int.toNat_natCast]
    rfl
  · have e : (!(decide (0 ≤ n) && decide (n ≤ 562949953421311))) = true := by simp; omega
    rw [if_neg h, e]
    rfl
theorem specVar_run {N : Nat} {n : Int} (hN : 1048576 < N) : Zw N n = ret (varI n) := by
  unfold Zw varI
  simp only [in_eq, ret, Option.bind_some]
  by_cases h : 0 ≤ n ∧ n ≤ 562949953421311
  · obtain ⟨q, rfl⟩ := Int.eq_ofNat_of_zero_le h.1
    have e : (!(decide (0 ≤ (q : Int)) && decide ((q : Int) ≤ 562949953421311))) = false := by simp; omega
    rw [if_pos h, e]
    simp only [cond_false]
    refine (specVar_lp 8 q N [] (by omega) (by omega) (by omega) (by simp)).trans ?_
    simp only [List.nil_append, toStr_nat, Int.toNat_natCast]
    rfl
  · have e : (!(decide (0 ≤ n) && decide (n ≤ 562949953421311))) = true := by simp; omega
    rw [if_neg h, e]
    rfl
def cStp (c : Nat) : Nat := if c % 2 = 1 then (c / 2) ^^^ 2197175160 else c / 2
def cIt : Nat → Nat → Nat
  | 0, c => c
  | k + 1, c => cIt k (cStp c)
def crcL : List UInt8 → Nat → Nat
  | [], c => c
  | b :: l, c => crcL l (cIt 8 (c ^^^ b.toNat))
def crc (l : List UInt8) : Nat := 4294967295 - crcL l 4294967295
theorem xor_lt {a b : Nat} (h : a < 4294967296) (h2 : b < 4294967296) : a ^^^ b < 4294967296 := Nat.xor_lt_two_pow (n := 32) (by simpa using h) (by simpa using h2)
theorem cStp_lt {c : Nat} (h : c < 4294967296) : cStp c < 4294967296 := by
  unfold cStp
  split
  · exact xor_lt (by omega) (by omega)
  · omega
theorem cIt_lt : ∀ (k : Nat) {c : Nat}, c < 4294967296 → cIt k c < 4294967296
  | 0, c, h => h
  | k + 1, c, h => cIt_lt k (cStp_lt h)
theorem u8_lt (b : UInt8) : b.toNat < 256 := b.toNat_lt
theorem crcL_lt : ∀ (l : List UInt8) {c : Nat}, c < 4294967296 → crcL l c < 4294967296
  | [], c, h => h
  | b :: l, c, h => crcL_lt l (cIt_lt 8 (xor_lt h (by have := u8_lt b; omega)))
theorem ixor_nat {a b : Nat} (ha : a < 4294967296) (hb : b < 4294967296) : ixor .i64 (a : Int) (b : Int) = ((a ^^^ b : Nat) : Int) := by
  unfold ixor
  show IntKind.wrap .i64 ((BitVec.ofInt 64 (a : Int) ^^^ BitVec.ofInt 64 (b : Int)).toNat : Int) = _
  rw [BitVec.toNat_xor, toNat_bv (by omega), toNat_bv (by omega)]
  have := xor_lt ha hb
  exact wrap_i64 (by unfold I64; omega)
theorem ishr1 (n : Nat) : ishr .i64 (n : Int) 1 = ((n / 2 : Nat) : Int) := by
  unfold ishr
  show Int.fdiv (n : Int) 2 = _
  rw [Int.fdiv_eq_ediv_of_nonneg _ (by omega)]
  rfl
theorem implCrc1 {N : Nat} {R : Type} {s : List UInt8} {i : Int} {K : Int → Int → Bool → Option R} : ∀ (j t m c : Nat), t + j = 8 → j < m → c < 4294967296 →
    Za2 N s i K m (c : Int) (t : Int) = K ((cIt j c : Nat) : Int) 8 false
  | j, t, 0, c, _, h, _ => by omega
  | 0, t, m + 1, c, h, _, _ => by
    have : t = 8 := by omega
    subst this
    rfl
  | j + 1, t, m + 1, c, h, h1, h2 => by
    have e : decide ((t : Int) < 8) = true := by simp; omega
    have e1 : iand .i64 (c : Int) 1 = ((c % 2 : Nat) : Int) := by rw [show (1 : Int) = ((1 : Nat) : Int) from rfl, iand_nat (by omega) (by omega), Nat.and_one_is_mod]
    have e2 : ixor .i64 ((c / 2 : Nat) : Int) 2197175160 = ((c / 2 ^^^ 2197175160 : Nat) : Int) := ixor_nat (a := c / 2) (b := 2197175160) (by omega) (by decide)
    have e3 : iadd .i64 (t : Int) 1 = ((t + 1 : Nat) : Int) := by rw [iadd_eq (by unfold I64; omega)]; rfl
    rw [Za2, e, e1, ishr1, e2, e3, cIt, cStp]
    simp only [cond_true, show inn (1 : Int) = true from rfl]
    by_cases hc : c % 2 = 1
    · rw [if_pos hc, hc]
      exact implCrc1 j (t + 1) m _ (by omega) (by omega) (xor_lt (by omega) (by omega))
    · have : c % 2 = 0 := by omega
      rw [if_neg hc, this]
      exact implCrc1 j (t + 1) m _ (by omega) (by omega) (by omega)
theorem specCrc1 {N : Nat} {R : Type} {s : List UInt8} {i : Int} {K : Int → Int → Bool → Option R} : ∀ (j t m c : Nat), t + j = 8 → j < m → c < 4294967296 →
    Za0 N s i K m (c : Int) (t : Int) = K ((cIt j c : Nat) : Int) 8 false
  | j, t, 0, c, _, h, _ => by omega
  | 0, t, m + 1, c, h, _, _ => by
    have : t = 8 := by omega
    subst this
    rfl
  | j + 1, t, m + 1, c, h, h1, h2 => by
    have e : decide ((t : Int) < 8) = true := by simp; omega
    have e1 : irem (c : Int) 2 = ((c % 2 : Nat) : Int) := rfl
    have e4 : iquo .i64 (c : Int) 2 = ((c / 2 : Nat) : Int) := iquo_nat (k := 2) (by omega)
    have e2 : ixor .i64 ((c / 2 : Nat) : Int) 2197175160 = ((c / 2 ^^^ 2197175160 : Nat) : Int) := ixor_nat (a := c / 2) (b := 2197175160) (by omega) (by decide)
    have e3 : iadd .i64 (t : Int) 1 = ((t + 1 : Nat) : Int) := by rw [iadd_eq (by unfold I64; omega)]; rfl
    rw [Za0, e, e1, e4, e2, e3, cIt, cStp]
    simp only [cond_true, show inz (2 : Int) = true from rfl]
    by_cases hc : c % 2 = 1
    · rw [if_pos hc, hc]
      exact specCrc1 j (t + 1) m _ (by omega) (by omega) (xor_lt (by omega) (by omega))
    · have : c % 2 = 0 := by omega
      rw [if_neg hc, this]
      exact specCrc1 j (t + 1) m _ (by omega) (by omega) (by omega)
theorem crc_fold {K : Int → Option (Unit × (Int × Unit))} {body : Int → UInt8 → Int → (Int → Option (Unit × (Int × Unit))) → Option (Unit × (Int × Unit))}
    (hb : ∀ j b (c : Nat) k, c < 4294967296 → body j b (c : Int) k = k ((cIt 8 (c ^^^ b.toNat) : Nat) : Int)) : ∀ (l : List UInt8) (j c : Nat), c < 4294967296 → foldK body (fun _ v => K v) l j (c : Int) = K ((crcL l c : Nat) : Int)
  | [], j, c, h => rfl
  | b :: l, j, c, h => by
    rw [foldK, hb _ _ _ _ h, crcL]
    exact crc_fold hb l (j + 1) _ (cIt_lt 8 (xor_lt h (by have := u8_lt b; omega)))
theorem crc_lt (l : List UInt8) : crc l < 4294967296 := by unfold crc; omega
theorem implCrc_run {N : Nat} {s : List UInt8} (hs : s.length ≤ 1048576) (hN : 1048576 < N) : Zc5 N s = ret ((crc s : Nat) : Int) := by
  unfold Zc5
  have h1 := loop_ix0 (l := s) (V := Int) (R := Unit × (Int × Unit)) (lp := fun n j v => Zb2 N s (fun c21 i22 t23 => some ((), (isub .i64 (4294967295 : Int) c21, ()))) n v j) (n := N) (by omega)
    (body := fun j b c k => Za2 N s j (fun c18 t19 t20 => k c18) N (ixor .i64 c (IntKind.wrap .i64 (((UInt8.toNat b : Nat) : Int)))) 0) (K := fun _ v => some ((), (isub .i64 (4294967295 : Int) v, ())))
    (fun n i v hi => by simp only [Zb2, ix_lt hi, ix_inb hi, ix_get hi, ix_succ (show i < 4611686018427387904 by omega), cond_true])
    (fun n v => by simp only [Zb2, ix_ge (Nat.le_refl s.length), cond_false]) (4294967295 : Int)
  refine h1.trans ?_
  have h2 := crc_fold (K := fun v => some ((), (isub .i64 (4294967295 : Int) v, ()))) (body := fun j b c k => Za2 N s j (fun c18 t19 t20 => k c18) N (ixor .i64 c (IntKind.wrap .i64 (((UInt8.toNat b : Nat) : Int)))) 0)
    (fun j b c k hc => by
      have := u8_lt b
      rw [wrap_i64 (natI64 (by omega)), ixor_nat hc (by omega)]
      exact implCrc1 8 0 N _ rfl (by omega) (xor_lt hc (by omega))) s 0 4294967295 (by omega)
  refine h2.trans ?_
  have := crcL_lt s (c := 4294967295) (by omega)
  unfold crc
  rw [isub_eq (by unfold I64; omega)]
  congr 3
  omega
theorem specCrc_run {N : Nat} {s : List UInt8} (hs : s.length ≤ 1048576) (hN : 1048576 < N) : Zc4 N s = ret ((crc s : Nat) : Int) := by
  unfold Zc4
  have h1 := loop_ix0 (l := s) (V := Int) (R := Unit × (Int × Unit)) (lp := fun n j v => Zby N s (fun c21 i22 t23 => some ((), (isub .i64 (4294967295 : Int) c21, ()))) n v j) (n := N) (by omega)
    (body := fun j b c k => Za0 N s j (fun c18 t19 t20 => k c18) N (ixor .i64 c (IntKind.wrap .i64 (((UInt8.toNat b : Nat) : Int)))) 0) (K := fun _ v => some ((), (isub .i64 (4294967295 : Int) v, ())))
    (fun n i v hi => by simp only [Zby, ix_lt hi, ix_inb hi, ix_get hi, ix_succ (show i < 4611686018427387904 by omega), cond_true])
    (fun n v => by simp only [Zby, ix_ge (Nat.le_refl s.length), cond_false]) (4294967295 : Int)
  refine h1.trans ?_
  have h2 := crc_fold (K := fun v => some ((), (isub .i64 (4294967295 : Int) v, ()))) (body := fun j b c k => Za0 N s j (fun c18 t19 t20 => k c18) N (ixor .i64 c (IntKind.wrap .i64 (((UInt8.toNat b : Nat) : Int)))) 0)
    (fun j b c k hc => by
      have := u8_lt b
      rw [wrap_i64 (natI64 (by omega)), ixor_nat hc (by omega)]
      exact specCrc1 8 0 N _ rfl (by omega) (xor_lt hc (by omega))) s 0 4294967295 (by omega)
  refine h2.trans ?_
  have := crcL_lt s (c := 4294967295) (by omega)
  unfold crc
  rw [isub_eq (by unfold I64; omega)]
  congr 3
  omega
def fx (n : Nat) : List UInt8 := [UInt8.ofNat (n / 256 / 256 / 256 % 256), UInt8.ofNat (n / 256 / 256 % 256), UInt8.ofNat (n / 256 % 256), UInt8.ofNat (n % 256)]
theorem and255 (n : Nat) : n &&& 255 = n % 256 := Nat.and_two_pow_sub_one_eq_mod n 8
theorem ishr8 (n : Nat) : ishr .i64 (n : Int) 8 = ((n / 256 : Nat) : Int) := by
  unfold ishr
  show Int.fdiv (n : Int) 256 = _
  rw [Int.fdiv_eq_ediv_of_nonneg _ (by omega)]
  rfl
theorem u8and (n : Nat) (h : n < 9223372036854775808) : IntKind.wrap .u8 (iand .i64 (n : Int) 255) = ((n % 256 : Nat) : Int) := by
  rw [show (255 : Int) = ((255 : Nat) : Int) from rfl, iand_nat h (by omega), and255]
  exact wrap_u8 (by omega)
theorem implFixed_run {N n : Nat} (h : n < 4294967296) (hN : 1048576 < N) : Zca N (n : Int) 4 = ret (fx n) := by
  obtain ⟨m, rfl⟩ : ∃ m, N = m + 5 := ⟨N - 5, by omega⟩
  unfold Zca
  have e1 : decide ((n : Int) < 0) = false := by simp
  have e2 : decide ((n : Int) ≥ ishl .i64 1 (imul .i64 8 4)) = false := by
    have : ishl .i64 1 (imul .i64 8 4) = 4294967296 := by rfl
    rw [this]; simp; omega
  simp only [within_eq, ret, Option.bind_some, e1, e2, cond_false, cond_true, show inn (imul .i64 8 4) = true from rfl, show (!(decide ((1 : Int) ≤ 4) && decide ((4 : Int) ≤ 7))) = false from rfl,
    show (((decide ((0 : Int) ≤ 4)) && (decide ((4 : Int) ≤ 4))) && (room (Int.toNat 4))) = true from rfl]
  have z : List.replicate (Int.toNat 4) (0 : Int) = [0, 0, 0, 0] := rfl
  rw [z, show isub .i64 (4 : Int) 1 = 3 from rfl]
  rw [Zaj, u8and n (by omega), ishr8, show isub .i64 (3 : Int) 1 = 2 from rfl]
  simp only [show inn (8 : Int) = true from rfl, show decide ((3 : Int) ≥ 0) = true from rfl, cond_true, show inb 3 (List.length [(0 : Int), 0, 0, 0]) = true from rfl, show Int.toNat 3 = 3 from rfl, List.set_cons_succ, List.set_cons_zero]
  rw [Zaj, u8and _ (by omega), ishr8, show isub .i64 (2 : Int) 1 = 1 from rfl]
  simp only [show inn (8 : Int) = true from rfl, show decide ((2 : Int) ≥ 0) = true from rfl, cond_true, List.length_cons, List.length_nil, show inb 2 (0 + 1 + 1 + 1 + 1) = true from rfl, show Int.toNat 2 = 2 from rfl, List.set_cons_succ, List.set_cons_zero]
  rw [Zaj, u8and _ (by omega), ishr8, show isub .i64 (1 : Int) 1 = 0 from rfl]
  simp only [show inn (8 : Int) = true from rfl, show decide ((1 : Int) ≥ 0) = true from rfl, cond_true, List.length_cons, List.length_nil, show inb 1 (0 + 1 + 1 + 1 + 1) = true from rfl, show Int.toNat 1 = 1 from rfl, List.set_cons_succ, List.set_cons_zero]
  rw [Zaj, u8and _ (by omega), ishr8, show isub .i64 (0 : Int) 1 = -1 from rfl]
  simp only [show inn (8 : Int) = true from rfl, show decide ((0 : Int) ≥ 0) = true from rfl, cond_true, List.length_cons, List.length_nil, show inb 0 (0 + 1 + 1 + 1 + 1) = true from rfl, show Int.toNat 0 = 0 from rfl, List.set_cons_succ, List.set_cons_zero]
  rw [Zaj]
  simp only [show decide ((-1 : Int) ≥ 0) = false from rfl, cond_false, toStr, List.map_cons, List.map_nil, Int.toNat_natCast]
  rfl
theorem toStr_one {n : Nat} (h : n ≤ 255) : toStr [IntKind.wrap .u8 (n : Int)] = [UInt8.ofNat n] := by rw [wrap_u8 h]; rfl
theorem sfit_le {a b : List UInt8} (h : a.length + b.length ≤ 4611686018427387904) : sfit a b = true := by
  unfold sfit
  have : IntKind.max .i64 = 9223372036854775807 := rfl
  rw [this]; simp; omega
theorem specFixed_run {N n : Nat} (h : n < 4294967296) (hN : 1048576 < N) : Zb8 N (n : Int) 4 = ret (fx n) := by
  obtain ⟨m, rfl⟩ : ∃ m, N = m + 5 := ⟨N - 5, by omega⟩
  unfold Zb8
  have e1 : decide ((n : Int) < 0) = false := by simp
  simp only [in_eq, ret, Option.bind_some, e1, cond_false, cond_true, show (!(decide ((1 : Int) ≤ 4) && decide ((4 : Int) ≤ 7))) = false from rfl]
  have q : ∀ k : Nat, k < 9223372036854775808 → iquo .i64 (k : Int) 256 = ((k / 256 : Nat) : Int) := fun k hk => iquo_nat (k := 256) hk
  have r : ∀ k : Nat, toStr [IntKind.wrap .u8 (irem (k : Int) 256)] = [UInt8.ofNat (k % 256)] := fun k => toStr_one (n := k % 256) (by omega)
  simp only [Zcv, r, q n (by omega), q (n / 256) (by omega), q (n / 256 / 256) (by omega), q (n / 256 / 256 / 256) (by omega), show inz (256 : Int) = true from rfl, cond_true, show decide ((0 : Int) < 4) = true from rfl,
    show iadd .i64 (0 : Int) 1 = 1 from rfl, show iadd .i64 (1 : Int) 1 = 2 from rfl, show iadd .i64 (2 : Int) 1 = 3 from rfl, show iadd .i64 (3 : Int) 1 = 4 from rfl, show decide ((1 : Int) < 4) = true from rfl,
    show decide ((2 : Int) < 4) = true from rfl, show decide ((3 : Int) < 4) = true from rfl, show decide ((4 : Int) < 4) = false from rfl, List.cons_append, List.nil_append]
  rw [sfit_le (by simp), sfit_le (by simp), sfit_le (by simp), sfit_le (by simp)]
  have : decide (((n / 256 / 256 / 256 / 256 : Nat) : Int) > 0) = false := by simp; omega
  rw [this]
  rfl
def fr (s : List UInt8) : List UInt8 := if s.length > 120 then [] else fx (crc (UInt8.ofNat s.length :: s)) ++ UInt8.ofNat s.length :: s
theorem varI_small {n : Nat} (h : n < 128) : varI (n : Int) = [UInt8.ofNat n] := by
  rw [varI_nat (by omega)]
  unfold var vlF
  rw [if_pos h]
  rfl
theorem implFrame_run {N : Nat} {s : List UInt8} (hs : s.length ≤ 1048576) (hN : 1048576 < N) : Zbd N s = ret (fr s) := by
  unfold Zbd fr
  by_cases h : s.length > 120
  · have e : decide (ilen s > 120) = true := by simp [ilen]; omega
    rw [e, if_pos h]; rfl
  · have e : decide (ilen s > 120) = false := by simp [ilen]; omega
    rw [e, if_neg h]
    simp only [cond_false, implVar_run hN, ret, Option.bind_some, ilen, varI_small (show s.length < 128 by omega), List.singleton_append]
    rw [sfit_le (by simp; omega), implCrc_run (by simp; omega) hN]
    simp only [cond_true, ret, Option.bind_some, implFixed_run (crc_lt _) hN]
    rw [sfit_le (by simp [fx]; omega)]
    rfl
theorem specFrame_run {N : Nat} {s : List UInt8} (hs : s.length ≤ 1048576) (hN : 1048576 < N) : Zbc N s = ret (fr s) := by
  unfold Zbc fr
  by_cases h : s.length > 120
  · have e : decide (ilen s > 120) = true := by simp [ilen]; omega
    rw [e, if_pos h]; rfl
  · have e : decide (ilen s > 120) = false := by simp [ilen]; omega
    rw [e, if_neg h]
    simp only [cond_false, specVar_run hN, ret, Option.bind_some, ilen, varI_small (show s.length < 128 by omega), List.singleton_append]
    rw [sfit_le (by simp; omega), specCrc_run (by simp; omega) hN]
    simp only [cond_true, ret, Option.bind_some, specFixed_run (crc_lt _) hN]
    rw [sfit_le (by simp [fx]; omega)]
    rfl
end Go.Sx
