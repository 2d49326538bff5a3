/- Plain laws of the Lean functions. -/
import Derived.Test.YtlhkhldlcmoibaaT
/- Plain law: signatures. -/
namespace Go.Sx
set_option linter.unusedVariables false
set_option linter.unusedSimpArgs false

/-! powers of two -/
theorem bit_lp (N : Nat) {R : Type} (k : Nat) (hk : k ≤ 61) (K : Int → Int → Bool → Option R) : ∀ (n i : Nat), i ≤ k → k - i < n →
    T_spec_l27Bit_lp0 N (k : Int) K n ((2 ^ i : Nat) : Int) (i : Int) = K ((2 ^ k : Nat) : Int) k false
  | 0, i, _, h => by omega
  | n + 1, i, h1, h2 => by
    rw [T_spec_l27Bit_lp0]
    by_cases hi : i < k
    · have e1 : decide ((i : Int) < (k : Int)) = true := by simpa using hi
      have hp : 2 ^ (i + 1) ≤ 2 ^ 61 := Nat.pow_le_pow_right (by omega) (by omega)
      have e0 : ((2 ^ i : Nat) : Int) * 2 = ((2 ^ (i + 1) : Nat) : Int) := by rw [Nat.pow_succ]; push_cast; rfl
      have e2 : imul .i64 ((2 ^ i : Nat) : Int) 2 = ((2 ^ (i + 1) : Nat) : Int) := by
        rw [imul_eq (by rw [e0]; exact natI64 (by omega)), e0]
      have e3 : iadd .i64 (i : Int) 1 = ((i + 1 : Nat) : Int) := by rw [iadd_eq (by unfold I64; omega)]; rfl
      rw [e1, e2, e3]
      exact bit_lp N k hk K n (i + 1) hi (by omega)
    · have : i = k := by omega
      subst this
      simp

theorem bit_run {N k : Nat} (hk : k ≤ 61) (hN : k < N) : T_spec_l27Bit N (k : Int) = some ((), (((2 ^ k : Nat) : Int), ())) := by
  unfold T_spec_l27Bit
  have := bit_lp N (R := Unit × (Int × Unit)) k hk (fun n8 i9 t10 => some ((), (n8, ()))) N 0 (Nat.zero_le _) (by omega)
  exact this

/-- the remainder from 0 on -/
def modn (x : Int) (n : Nat) : Nat := (x % n).toNat

theorem modn_lt (x : Int) {n : Nat} (h : 0 < n) : modn x n < n := by
  unfold modn
  have := Int.emod_lt_of_pos x (by omega : (0 : Int) < n)
  have := Int.emod_nonneg x (by omega : (n : Int) ≠ 0)
  omega

theorem rem_rem (x : Int) (hx : I64 x) (n : Nat) (h0 : 0 < n) (h : n < 1000) : irem (iadd .i64 (irem x n) n) n = (modn x n : Int) := by
  have h1 := Int.tmod_lt_of_pos x (by omega : (0 : Int) < n)
  have h2 : -(n : Int) < x.tmod n := by
    have := Int.lt_tmod_of_pos x (by omega : (0 : Int) < n)
    exact this
  have e : iadd .i64 (irem x n) n = irem x n + n := iadd_eq (by unfold I64 irem; omega)
  rw [e]
  unfold irem modn
  have e2 : x.tmod n % n = x % n := by
    rw [Int.tmod_eq_emod]
    split
    · simp
    · simp
  have e3 : ((x.tmod n + n).tmod n) = (x.tmod n + n) % n := by
    rw [Int.tmod_eq_emod_of_nonneg (by omega)]
  rw [e3, Int.add_emod_right, e2]
  have := Int.emod_nonneg x (by omega : (n : Int) ≠ 0)
  omega

theorem specMod_run {N : Nat} {x : Int} (hx : I64 x) {n : Nat} (h0 : 0 < n) (h : n < 1000) : T_spec_l27Mod N x (n : Int) = some ((), ((modn x n : Int), ())) := by
  unfold T_spec_l27Mod
  have : inz (n : Int) = true := by simp [inz]; omega
  rw [this, rem_rem x hx n h0 h]
  rfl

theorem implMod_run {N : Nat} {x : Int} (hx : I64 x) {n : Nat} (h0 : 0 < n) (h : n < 1000) : T_impl_remainder N x (n : Int) = some ((), ((modn x n : Int), ())) := by
  unfold T_impl_remainder
  have : inz (n : Int) = true := by simp [inz]; omega
  rw [this, rem_rem x hx n h0 h]
  rfl

/-- a number's signature -/
def sig1 (x : Int) : Nat := 2 ^ modn x 29 + 2 ^ (29 + modn x 31)

theorem sig1_or (x : Int) : sig1 x = 2 ^ modn x 29 ||| 2 ^ (29 + modn x 31) := by
  have h1 := modn_lt x (n := 29) (by omega)
  unfold sig1
  have : 2 ^ modn x 29 < 2 ^ (29 + modn x 31) := Nat.pow_lt_pow_right (by omega) (by omega)
  have h := Nat.two_pow_add_eq_or_of_lt this 1
  rw [Nat.mul_one] at h
  rw [Nat.add_comm, h, Nat.or_comm]

theorem sig1_lt (x : Int) : sig1 x < 2 ^ 60 := by
  have h1 := modn_lt x (n := 29) (by omega)
  have h2 := modn_lt x (n := 31) (by omega)
  unfold sig1
  have : 2 ^ modn x 29 ≤ 2 ^ 28 := Nat.pow_le_pow_right (by omega) (by omega)
  have : 2 ^ (29 + modn x 31) ≤ 2 ^ 59 := Nat.pow_le_pow_right (by omega) (by omega)
  omega

theorem sig1_bit (x : Int) (k : Nat) : (sig1 x).testBit k = (decide (k = modn x 29) || decide (k = 29 + modn x 31)) := by
  rw [sig1_or, Nat.testBit_or, Nat.testBit_two_pow, Nat.testBit_two_pow]
  congr 1 <;> (congr 1; exact propext ⟨Eq.symm, Eq.symm⟩)

theorem specOne_run {N : Nat} {x : Int} (hx : I64 x) (hN : 61 < N) : T_spec_SigOne N x = some ((), ((sig1 x : Int), ())) := by
  have h1 := modn_lt x (n := 29) (by omega)
  have h2 := modn_lt x (n := 31) (by omega)
  unfold T_spec_SigOne
  have m1 : T_spec_l27Mod N x 29 = some ((), ((modn x 29 : Int), ())) := specMod_run (N := N) hx (n := 29) (by omega) (by omega)
  have m2 : T_spec_l27Mod N x 31 = some ((), ((modn x 31 : Int), ())) := specMod_run (N := N) hx (n := 31) (by omega) (by omega)
  rw [m1]
  simp only [Option.bind_some]
  rw [bit_run (by omega) (by omega)]
  simp only [Option.bind_some]
  rw [m2]
  simp only [Option.bind_some]
  have e : iadd .i64 29 (modn x 31 : Int) = ((29 + modn x 31 : Nat) : Int) := by rw [iadd_eq (by unfold I64; omega)]; rfl
  rw [e, bit_run (by omega) (by omega)]
  simp only [Option.bind_some]
  have hlt := sig1_lt x
  have e2 : iadd .i64 ((2 ^ modn x 29 : Nat) : Int) ((2 ^ (29 + modn x 31) : Nat) : Int) = (sig1 x : Int) := by
    have e3 : ((2 ^ modn x 29 : Nat) : Int) + ((2 ^ (29 + modn x 31) : Nat) : Int) = (sig1 x : Int) := by unfold sig1; push_cast; rfl
    rw [iadd_eq (by rw [e3]; exact natI64 (by omega)), e3]
  rw [e2]

theorem shl_pow {k : Nat} (hk : k ≤ 61) : ishl .i64 1 (k : Int) = ((2 ^ k : Nat) : Int) := by
  unfold ishl
  have hp : 2 ^ k ≤ 2 ^ 61 := Nat.pow_le_pow_right (by omega) hk
  have e : min (k : Int).toNat IntKind.i64.bits = k := by
    show min (k : Int).toNat 64 = k
    rw [Int.toNat_natCast]; omega
  rw [e]
  have e2 : (1 : Int) * 2 ^ k = ((2 ^ k : Nat) : Int) := by rw [Int.one_mul]; push_cast; rfl
  rw [e2]
  exact wrap_i64 (natI64 (by omega))

theorem implOne_run {N : Nat} {x : Int} (hx : I64 x) : T_impl_SigOne N x = some ((), ((sig1 x : Int), ())) := by
  have h1 := modn_lt x (n := 29) (by omega)
  have h2 := modn_lt x (n := 31) (by omega)
  unfold T_impl_SigOne
  have m1 : T_impl_remainder N x 29 = some ((), ((modn x 29 : Int), ())) := implMod_run (N := N) hx (n := 29) (by omega) (by omega)
  have m2 : T_impl_remainder N x 31 = some ((), ((modn x 31 : Int), ())) := implMod_run (N := N) hx (n := 31) (by omega) (by omega)
  rw [m1]
  simp only [Option.bind_some]
  have i1 : inn (modn x 29 : Int) = true := by simp [inn]
  rw [i1, m2]
  simp only [Option.bind_some, cond_true]
  have e : iadd .i64 29 (modn x 31 : Int) = ((29 + modn x 31 : Nat) : Int) := by rw [iadd_eq (by unfold I64; omega)]; rfl
  rw [e]
  have i2 : inn ((29 + modn x 31 : Nat) : Int) = true := by simp [inn]; omega
  rw [i2]
  simp only [cond_true]
  rw [shl_pow (by omega), shl_pow (by omega)]
  have hp1 : 2 ^ modn x 29 ≤ 2 ^ 28 := Nat.pow_le_pow_right (by omega) (by omega)
  have hp2 : 2 ^ (29 + modn x 31) ≤ 2 ^ 59 := Nat.pow_le_pow_right (by omega) (by omega)
  rw [ior_nat (by omega) (by omega), ← sig1_or]

theorem law_SigOne {x : Int} (hx : I64 x) : T_laws_FnExactSigOne 100 x = some ((), (true, ())) := by
  unfold T_laws_FnExactSigOne
  rw [specOne_run hx (by omega)]
  simp only [Option.bind_some]
  rw [implOne_run hx]
  simp

theorem law_FnExactSigOne (d : PDen [.v (.int .i64) false]) (hw : WfArgs [.v (.int .i64) false] d) : ∃ N o, T_laws_FnExactSigOne N d.1 = some (o, (true, ())) :=
  ⟨100, (), law_SigOne (wf_I64 hw.1)⟩
end Go.Sx
