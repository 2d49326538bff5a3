/- Plain laws. -/
import Derived.Test.YtceckfecihemnaaEng3

namespace Go.Sx
set_option linter.unusedVariables false
set_option linter.unusedSimpArgs false
def I64 (n : Int) : Prop := -9223372036854775808 ≤ n ∧ n ≤ 9223372036854775807
theorem wrap_i64 {n : Int} (h : I64 n) : IntKind.wrap .i64 n = n := by
  unfold I64 at h
  show (if (true && decide (n % 18446744073709551616 ≥ 9223372036854775808)) = true then n % 18446744073709551616 - 18446744073709551616 else n % 18446744073709551616) = n
  simp only [Bool.true_and, decide_eq_true_eq]
  split <;> omega
theorem natI64 {p : Nat} (h : p ≤ 9223372036854775807) : I64 (p : Int) := by unfold I64; omega
theorem wf_I64 {n : Int} (h : (Lit.int .i64 n).wf = true) : I64 n := bounds_i64 h
theorem iadd_eq {a b : Int} (h : I64 (a + b)) : iadd .i64 a b = a + b := wrap_i64 h
theorem isub_eq {a b : Int} (h : I64 (a - b)) : isub .i64 a b = a - b := wrap_i64 h
theorem imul_eq {a b : Int} (h : I64 (a * b)) : imul .i64 a b = a * b := wrap_i64 h
theorem ilen_def {α : Type} (l : List α) : ilen l = (l.length : Int) := rfl
theorem inb_nat {n j : Nat} : inb (j : Int) n = decide (j < n) := by
  unfold inb
  simp
theorem inz_lit2 : inz 2 = true := rfl
theorem cond_and {α : Type} {a b : Bool} {x y : α} : (bif a && b then x else y) = bif a then (bif b then x else y) else y := by cases a <;> rfl
def foldK {α V R : Type} (body : Int → α → V → (V → Option R) → Option R) (K : Int → V → Option R) : List α → Nat → V → Option R
  | [], j, v => K j v
  | x :: l, j, v => body j x v (foldK body K l (j + 1))
theorem loop_fold {α V R : Type} {l : List α} {d : α} {lp : Nat → Int → V → Option R} {body : Int → α → V → (V → Option R) → Option R} {K : Int → Bool → V → Option R} (hl : l.length < 4611686018427387904)
    (h : ∀ n (j : Int) v, lp (n + 1) j v = bif decide (j < ilen l) then (bif inb j l.length then body j (l.getD j.toNat d) v (fun v' => lp n (iadd .i64 j 1) v') else none) else K j (decide (j < ilen l)) v) :
    ∀ (n j : Nat) (v : V), j ≤ l.length → l.length - j < n → lp n (j : Int) v = foldK body (fun i v => K i false v) (l.drop j) j v
  | 0, j, v, _, h2 => by omega
  | n + 1, j, v, h1, h2 => by
    rw [h]
    by_cases hj : j < l.length
    · have e1 : decide ((j : Int) < ilen l) = true := by simp [ilen]; exact hj
      have e2 : l.drop j = l[j] :: l.drop (j + 1) := List.drop_eq_getElem_cons hj
      have e3 : iadd .i64 (j : Int) 1 = ((j + 1 : Nat) : Int) := by rw [iadd_eq (by unfold I64; omega)]; rfl
      rw [e1, e2, inb_nat]
      simp only [cond_true, hj, decide_true, foldK, e3]
      have e4 : (l.getD (j : Int).toNat d) = l[j] := by simp [hj]
      rw [e4]
      congr 1
      funext v'
      exact loop_fold hl h n (j + 1) v' hj (by omega)
    · have e1 : decide ((j : Int) < ilen l) = false := by simp [ilen]; omega
      have e2 : l.drop j = [] := List.drop_eq_nil_of_le (by omega)
      rw [e1, e2]
      simp only [cond_false, foldK]
theorem loop_fold0 {α V R : Type} {l : List α} {d : α} {lp : Nat → Int → V → Option R} {body : Int → α → V → (V → Option R) → Option R} {K : Int → Bool → V → Option R} (hl : l.length < 4611686018427387904)
    (h : ∀ n (j : Int) v, lp (n + 1) j v = bif decide (j < ilen l) then (bif inb j l.length then body j (l.getD j.toNat d) v (fun v' => lp n (iadd .i64 j 1) v') else none) else K j (decide (j < ilen l)) v)
    {n : Nat} (hn : l.length < n) (v : V) : lp n 0 v = foldK body (fun i v => K i false v) l 0 v := by
  have := loop_fold hl h n 0 v (Nat.zero_le _) (by omega)
  rw [List.drop_zero] at this
  exact this
theorem toNat_bv {a : Nat} (h : a < 9223372036854775808) : (BitVec.ofInt 64 (a : Int)).toNat = a := by
  simp [BitVec.toNat_ofInt]
  omega
theorem ior_nat {a b : Nat} (ha : a < 9223372036854775808) (hb : b < 9223372036854775808) : ior .i64 (a : Int) (b : Int) = ((a ||| b : Nat) : Int) := by
  unfold ior
  show IntKind.wrap .i64 ((BitVec.ofInt 64 (a : Int) ||| BitVec.ofInt 64 (b : Int)).toNat : Int) = _
  rw [BitVec.toNat_or, toNat_bv ha, toNat_bv hb]
  have : a ||| b < 2 ^ 63 := Nat.or_lt_two_pow (by simpa using ha) (by simpa using hb)
  exact wrap_i64 (by unfold I64; omega)
theorem iand_nat {a b : Nat} (ha : a < 9223372036854775808) (hb : b < 9223372036854775808) : iand .i64 (a : Int) (b : Int) = ((a &&& b : Nat) : Int) := by
  unfold iand
  show IntKind.wrap .i64 ((BitVec.ofInt 64 (a : Int) &&& BitVec.ofInt 64 (b : Int)).toNat : Int) = _
  rw [BitVec.toNat_and, toNat_bv ha, toNat_bv hb]
  have : a &&& b ≤ a := Nat.and_le_left
  exact wrap_i64 (by unfold I64; omega)
end Go.Sx
