/- Plain laws of the Lean functions. -/
import Derived.Test.YtlhkhldlcmoibaaMS1Sig
/- Plain law: signatures, bit by bit. -/
namespace Go.Sx
set_option linter.unusedVariables false
set_option linter.unusedSimpArgs false

/-- a signature's bits -/
def bitS (s : Int) (k : Nat) : Bool := s.toNat.testBit k

theorem bitS_nat (n k : Nat) : bitS (n : Int) k = n.testBit k := rfl

theorem specHas_run {N : Nat} {s : Int} (hs : I64 s) {k : Nat} (hk : k ≤ 61) (hN : 61 < N) : T_spec_l27Has N s (k : Int) = ret (bitS s k) := by
  unfold T_spec_l27Has bitS
  by_cases h0 : 0 ≤ s
  · have e0 : decide (s ≥ 0) = true := by simpa using h0
    rw [e0, bit_run hk (by omega)]
    simp only [cond_true, Option.bind_some]
    have hp : 0 < 2 ^ k := Nat.two_pow_pos k
    have e1 : inz ((2 ^ k : Nat) : Int) = true := by
      unfold inz
      have : ((2 ^ k : Nat) : Int) ≠ 0 := by
        intro h
        have := Int.ofNat.inj h
        omega
      simp only [this, decide_false, Bool.not_false]
    obtain ⟨n, rfl⟩ := Int.eq_ofNat_of_zero_le h0
    have hn : n < 9223372036854775808 := by unfold I64 at hs; omega
    have e2 : iquo .i64 (n : Int) ((2 ^ k : Nat) : Int) = ((n / 2 ^ k : Nat) : Int) := by
      unfold iquo
      have e : (n : Int).tdiv ((2 ^ k : Nat) : Int) = ((n / 2 ^ k : Nat) : Int) := by
        rw [Int.tdiv_eq_ediv_of_nonneg (Int.natCast_nonneg _)]
        exact (Int.natCast_ediv _ _).symm
      rw [e]
      have := Nat.div_le_self n (2 ^ k)
      exact wrap_i64 (natI64 (by omega))
    have e3 : irem ((n / 2 ^ k : Nat) : Int) 2 = ((n / 2 ^ k % 2 : Nat) : Int) := by
      unfold irem
      rw [Int.tmod_eq_emod_of_nonneg (Int.natCast_nonneg _)]
      rfl
    rw [e1, e2, e3]
    simp only [cond_true, inz_lit2]
    rw [Int.toNat_natCast, Nat.testBit_eq_decide_div_mod_eq]
    congr 3
    generalize n / 2 ^ k % 2 = m
    by_cases hm : m = 1
    · subst hm; rfl
    · have : ((m : Nat) : Int) ≠ 1 := by omega
      simp [hm, this]
  · have e0 : decide (s ≥ 0) = false := by simpa using h0
    rw [e0]
    have : s.toNat = 0 := by omega
    rw [this, Nat.zero_testBit]
    rfl

/-- what is considered of a signature -/
def low60 (s : Int) : Nat := s.toNat % 2 ^ 60

theorem low60_lt (s : Int) : low60 s < 2 ^ 60 := Nat.mod_lt _ (by decide)

theorem low60_bit (s : Int) (k : Nat) : (low60 s).testBit k = (decide (k < 60) && bitS s k) := by
  unfold low60 bitS
  rw [Nat.testBit_mod_two_pow]

theorem implBits_run {N : Nat} {s : Int} (hs : I64 s) : T_impl_bits N s = ret (low60 s : Int) := by
  unfold T_impl_bits low60
  by_cases h0 : s < 0
  · have : s.toNat = 0 := by omega
    rw [this]
    simp [h0]
  · obtain ⟨n, rfl⟩ := Int.eq_ofNat_of_zero_le (Int.not_lt.1 h0)
    have hn : n < 9223372036854775808 := by unfold I64 at hs; omega
    have e : decide ((n : Int) < 0) = false := by simp
    rw [e]
    simp only [cond_false]
    have := iand_nat (a := n) (b := 1152921504606846975) hn (by omega)
    rw [show ((1152921504606846975 : Nat) : Int) = (1152921504606846975 : Int) from rfl] at this
    rw [this, show (1152921504606846975 : Nat) = 2 ^ 60 - 1 from rfl, Nat.and_two_pow_sub_one_eq_mod, Int.toNat_natCast]

theorem and_eq_iff (B a b : Nat) : (B &&& (2 ^ a ||| 2 ^ b) = 2 ^ a ||| 2 ^ b) ↔ (B.testBit a = true ∧ B.testBit b = true) := by
  constructor
  · intro h
    have ha := congrArg (fun n => n.testBit a) h
    have hb := congrArg (fun n => n.testBit b) h
    simp only [Nat.testBit_and, Nat.testBit_or, Nat.testBit_two_pow_self, Bool.true_or, Bool.or_true, Bool.and_true] at ha hb
    exact ⟨ha, hb⟩
  · rintro ⟨ha, hb⟩
    apply Nat.eq_of_testBit_eq
    intro i
    rw [Nat.testBit_and, Nat.testBit_or, Nat.testBit_two_pow, Nat.testBit_two_pow]
    by_cases h1 : a = i
    · subst h1; simp [ha]
    · by_cases h2 : b = i
      · subst h2; simp [hb]
      · simp [h1, h2]

theorem implHas_run {N : Nat} {s x : Int} (hs : I64 s) (hx : I64 x) : T_impl_SigHas N s x = ret (bitS s (modn x 29) && bitS s (29 + modn x 31)) := by
  have h1 := modn_lt x (n := 29) (by omega)
  have h2 := modn_lt x (n := 31) (by omega)
  unfold T_impl_SigHas
  rw [implOne_run hx]
  simp only [Option.bind_some]
  rw [implBits_run hs]
  simp only [Option.bind_some, ret]
  have hl := low60_lt s
  have hs1 := sig1_lt x
  rw [iand_nat (by omega) (by omega)]
  congr 3
  have key := and_eq_iff (low60 s) (modn x 29) (29 + modn x 31)
  rw [← sig1_or x, low60_bit, low60_bit] at key
  have d1 : decide (modn x 29 < 60) = true := by simp; omega
  have d2 : decide (29 + modn x 31 < 60) = true := by simp; omega
  rw [d1, d2, Bool.true_and, Bool.true_and] at key
  rw [← Bool.and_eq_true] at key
  rw [Bool.eq_iff_iff, ← key, beq_iff_eq]
  exact ⟨fun h => Int.ofNat.inj h, fun h => congrArg _ h⟩

theorem law_SigHas {s x : Int} (hs : I64 s) (hx : I64 x) : T_laws_FnExactSigHas 100 s x = ret true := by
  have h1 := modn_lt x (n := 29) (by omega)
  have h2 := modn_lt x (n := 31) (by omega)
  have m1 : T_spec_l27Mod 100 x 29 = some ((), ((modn x 29 : Int), ())) := specMod_run (N := 100) hx (n := 29) (by omega) (by omega)
  have m2 : T_spec_l27Mod 100 x 31 = some ((), ((modn x 31 : Int), ())) := specMod_run (N := 100) hx (n := 31) (by omega) (by omega)
  have e : iadd .i64 29 (modn x 31 : Int) = ((29 + modn x 31 : Nat) : Int) := by rw [iadd_eq (by unfold I64; omega)]; rfl
  have hspec : T_spec_SigHas 100 s x = ret (bitS s (modn x 29) && bitS s (29 + modn x 31)) := by
    unfold T_spec_SigHas
    rw [m1]
    simp only [Option.bind_some]
    rw [specHas_run hs (by omega) (by omega)]
    simp only [Option.bind_some, ret]
    cases bitS s (modn x 29)
    · rfl
    · simp only [cond_true, Bool.true_and]
      rw [m2]
      simp only [Option.bind_some]
      rw [e, specHas_run hs (by omega) (by omega)]
      rfl
  have himpl := implHas_run (N := 100) hs hx
  unfold T_laws_FnExactSigHas
  rw [hspec, himpl]
  simp only [ret, Option.bind_some]
  cases (bitS s (modn x 29) && bitS s (29 + modn x 31)) <;> rfl

theorem law_FnExactSigHas (d : PDen [.v (.int .i64) false, .v (.int .i64) false]) (hw : WfArgs [.v (.int .i64) false, .v (.int .i64) false] d) : ∃ N o, T_laws_FnExactSigHas N d.1 d.2.1 = some (o, (true, ())) :=
  ⟨100, (), law_SigHas (wf_I64 hw.1) (wf_I64 hw.2.1)⟩
end Go.Sx
