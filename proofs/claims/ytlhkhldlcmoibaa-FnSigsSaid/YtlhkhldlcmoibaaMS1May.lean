/- Plain laws of the Lean functions. -/
import Derived.Test.YtlhkhldlcmoibaaMS1Has
/- Plain law: whether two signatures may have an element in common; how many bits one has. -/
namespace Go.Sx
set_option linter.unusedVariables false
set_option linter.unusedSimpArgs false

/-- is one below `n`? -/
def anyB (f : Nat → Bool) : Nat → Bool
  | 0 => false
  | n + 1 => anyB f n || f n

theorem anyB_iff {f : Nat → Bool} : ∀ {n : Nat}, anyB f n = true ↔ ∃ k, k < n ∧ f k = true
  | 0 => by simp [anyB]
  | n + 1 => by
    rw [anyB, Bool.or_eq_true, anyB_iff]
    constructor
    · rintro (⟨k, h1, h2⟩ | h)
      · exact ⟨k, by omega, h2⟩
      · exact ⟨n, by omega, h⟩
    · rintro ⟨k, h1, h2⟩
      by_cases hk : k = n
      · subst hk; exact .inr h2
      · exact .inl ⟨k, by omega, h2⟩

theorem may_lp (N : Nat) (hN : 61 < N) {R : Type} {a b : Int} (ha : I64 a) (hb : I64 b) (K : Bool → Bool → Int → Bool → Option R) : ∀ (n k : Nat), k ≤ 60 → 60 - k < n →
    T_spec_SigMay_lp0 N a b K n (anyB (fun j => decide (j < 29) && (bitS a j && bitS b j)) k) (anyB (fun j => decide (29 ≤ j) && (bitS a j && bitS b j)) k) (k : Int) =
      K (anyB (fun j => decide (j < 29) && (bitS a j && bitS b j)) 60) (anyB (fun j => decide (29 ≤ j) && (bitS a j && bitS b j)) 60) 60 false
  | 0, k, _, h => by omega
  | n + 1, k, h1, h2 => by
    rw [T_spec_SigMay_lp0]
    by_cases hk : k < 60
    · have e1 : decide ((k : Int) < 60) = true := by simp; omega
      have e3 : iadd .i64 (k : Int) 1 = ((k + 1 : Nat) : Int) := by rw [iadd_eq (by unfold I64; omega)]; rfl
      have ih := may_lp N hN ha hb K n (k + 1) (by omega) (by omega)
      have d1 : decide ((k : Int) < 29) = decide (k < 29) := by apply decide_eq_decide.2; omega
      have d2 : decide ((k : Int) ≥ 29) = decide (29 ≤ k) := by apply decide_eq_decide.2; omega
      rw [e1, specHas_run ha (by omega) hN, specHas_run hb (by omega) hN, e3, d1, d2]
      simp only [ret, cond_true, Option.bind_some]
      rw [anyB, anyB] at ih
      revert ih
      generalize anyB (fun j => decide (j < 29) && (bitS a j && bitS b j)) k = x
      generalize anyB (fun j => decide (29 ≤ j) && (bitS a j && bitS b j)) k = y
      generalize bitS a k = p
      generalize bitS b k = q
      by_cases hk2 : k < 29
      · have d3 : decide (k < 29) = true := by simpa using hk2
        have d4 : decide (29 ≤ k) = false := by simp; omega
        rw [d3, d4]
        intro ih
        rw [← ih]
        cases x <;> cases y <;> cases p <;> cases q <;> rfl
      · have d3 : decide (k < 29) = false := by simpa using hk2
        have d4 : decide (29 ≤ k) = true := by simp; omega
        rw [d3, d4]
        intro ih
        rw [← ih]
        cases x <;> cases y <;> cases p <;> cases q <;> rfl
    · have : k = 60 := by omega
      subst this
      rfl

theorem specMay_run {N : Nat} (hN : 61 < N) {a b : Int} (ha : I64 a) (hb : I64 b) : T_spec_SigMay N a b =
    ret (anyB (fun j => decide (j < 29) && (bitS a j && bitS b j)) 60 && anyB (fun j => decide (29 ≤ j) && (bitS a j && bitS b j)) 60) := by
  unfold T_spec_SigMay
  have := may_lp N hN (R := Unit × (Bool × Unit)) ha hb (fun low16 high17 k18 t19 => bif low16 then some ((), (high17, ())) else some ((), (false, ()))) N 0 (by omega) (by omega)
  refine Eq.trans this ?_
  simp only [ret]
  cases anyB (fun j => decide (j < 29) && (bitS a j && bitS b j)) 60 <;> rfl

theorem ne_zero_bit {n : Nat} : n ≠ 0 ↔ ∃ k, n.testBit k = true := by
  constructor
  · intro h
    exact Nat.exists_testBit_of_ne_zero h
  · rintro ⟨k, h⟩ h0
    subst h0
    simp at h

theorem iandn_low {x : Nat} (hx : x < 2 ^ 60) : iandn .i64 (x : Int) 536870911 = ((x - x % 2 ^ 29 : Nat) : Int) := by
  unfold iandn
  show IntKind.wrap .i64 ((BitVec.ofInt 64 (x : Int) &&& ~~~BitVec.ofInt 64 (536870911 : Int)).toNat : Int) = _
  have e : (BitVec.ofInt 64 (x : Int) &&& ~~~BitVec.ofInt 64 (536870911 : Int)).toNat = x - x % 2 ^ 29 := by
    rw [BitVec.toNat_and, toNat_bv (by omega)]
    have e1 : (~~~BitVec.ofInt 64 (536870911 : Int)).toNat = 2 ^ 64 - (536870911 + 1) := by decide
    rw [e1]
    apply Nat.eq_of_testBit_eq
    intro i
    have e2 : x - x % 2 ^ 29 = 2 ^ 29 * (x / 2 ^ 29) := by have := Nat.div_add_mod x (2 ^ 29); omega
    rw [e2, Nat.testBit_and, Nat.testBit_two_pow_sub_succ (by decide), Nat.testBit_two_pow_mul]
    rw [show (536870911 : Nat) = 2 ^ 29 - 1 from rfl, Nat.testBit_two_pow_sub_one]
    by_cases h1 : i < 29
    · have : ¬ 29 ≤ i := by omega
      simp [h1, this]
    · have h2 : 29 ≤ i := by omega
      have h3 : (x / 2 ^ 29).testBit (i - 29) = x.testBit i := by
        rw [Nat.testBit_div_two_pow]; congr 1; omega
      rw [h3]
      by_cases h4 : i < 64
      · simp [h1, h2, h4]
      · have : x.testBit i = false := Nat.testBit_lt_two_pow (Nat.lt_of_lt_of_le hx (Nat.pow_le_pow_right (by omega) (by omega)))
        simp [this]
  rw [e]
  exact wrap_i64 (natI64 (by omega))

theorem implMay_run {N : Nat} {a b : Int} (ha : I64 a) (hb : I64 b) : T_impl_SigMay N a b = ret (anyB (fun j => decide (j < 29) && (bitS a j && bitS b j)) 60 && anyB (fun j => decide (29 ≤ j) && (bitS a j && bitS b j)) 60) := by
  have hla := low60_lt a
  have hlb := low60_lt b
  have hx : low60 a &&& low60 b < 2 ^ 60 := Nat.lt_of_le_of_lt Nat.and_le_left hla
  have hbit : ∀ k, (low60 a &&& low60 b).testBit k = (decide (k < 60) && (bitS a k && bitS b k)) := fun k => by
    rw [Nat.testBit_and, low60_bit, low60_bit]
    cases decide (k < 60) <;> simp
  have hlow : decide ((low60 a &&& low60 b) % 2 ^ 29 ≠ 0) = anyB (fun j => decide (j < 29) && (bitS a j && bitS b j)) 60 := by
    rw [Bool.eq_iff_iff, anyB_iff, decide_eq_true_iff, ne_zero_bit]
    constructor
    · rintro ⟨k, hk⟩
      rw [Nat.testBit_mod_two_pow, hbit] at hk
      simp only [Bool.and_eq_true, decide_eq_true_eq] at hk
      exact ⟨k, hk.2.1, by simp [hk.1, hk.2.2]⟩
    · rintro ⟨k, hk1, hk⟩
      simp only [Bool.and_eq_true, decide_eq_true_eq] at hk
      exact ⟨k, by rw [Nat.testBit_mod_two_pow, hbit]; simp [hk.1, hk1, hk.2]⟩
  have hhigh : decide ((low60 a &&& low60 b) - (low60 a &&& low60 b) % 2 ^ 29 ≠ 0) = anyB (fun j => decide (29 ≤ j) && (bitS a j && bitS b j)) 60 := by
    have e2 : (low60 a &&& low60 b) - (low60 a &&& low60 b) % 2 ^ 29 = 2 ^ 29 * ((low60 a &&& low60 b) / 2 ^ 29) := by
      have := Nat.div_add_mod (low60 a &&& low60 b) (2 ^ 29); omega
    rw [e2, Bool.eq_iff_iff, anyB_iff, decide_eq_true_iff, ne_zero_bit]
    have h3 : ∀ k, 29 ≤ k → ((low60 a &&& low60 b) / 2 ^ 29).testBit (k - 29) = (low60 a &&& low60 b).testBit k := fun k hk => by
      rw [Nat.testBit_div_two_pow]; congr 1; omega
    constructor
    · rintro ⟨k, hk⟩
      rw [Nat.testBit_two_pow_mul] at hk
      simp only [Bool.and_eq_true, decide_eq_true_eq] at hk
      have := hk.2
      rw [h3 k hk.1, hbit] at this
      simp only [Bool.and_eq_true, decide_eq_true_eq] at this
      exact ⟨k, this.1, by simp [hk.1, this.2]⟩
    · rintro ⟨k, hk1, hk⟩
      simp only [Bool.and_eq_true, decide_eq_true_eq] at hk
      refine ⟨k, ?_⟩
      rw [Nat.testBit_two_pow_mul, h3 k hk.1, hbit]
      simp [hk.1, hk1, hk.2]
  unfold T_impl_SigMay
  rw [implBits_run ha, implBits_run hb]
  simp only [ret, Option.bind_some]
  rw [iand_nat (by omega) (by omega), iandn_low hx]
  have e1 : iand .i64 ((low60 a &&& low60 b : Nat) : Int) 536870911 = (((low60 a &&& low60 b) % 2 ^ 29 : Nat) : Int) := by
    have := iand_nat (a := low60 a &&& low60 b) (b := 536870911) (by omega) (by omega)
    rw [show (536870911 : Nat) = 2 ^ 29 - 1 from rfl, Nat.and_two_pow_sub_one_eq_mod] at this
    exact this
  rw [e1]
  have hb2 : ∀ n : Nat, ((n : Int) != 0) = decide (n ≠ 0) := fun n => by
    by_cases h : n = 0
    · subst h; rfl
    · have : (n : Int) ≠ 0 := by omega
      simp [h]
  rw [hb2, hb2, hlow, hhigh]
  cases anyB (fun j => decide (j < 29) && (bitS a j && bitS b j)) 60 <;> rfl

theorem law_SigMay {a b : Int} (ha : I64 a) (hb : I64 b) : T_laws_FnExactSigMay 100 a b = ret true := by
  have himpl := implMay_run (N := 100) ha hb
  unfold T_laws_FnExactSigMay
  rw [specMay_run (by omega) ha hb, himpl]
  simp only [ret, Option.bind_some]
  cases (anyB (fun j => decide (j < 29) && (bitS a j && bitS b j)) 60 && anyB (fun j => decide (29 ≤ j) && (bitS a j && bitS b j)) 60) <;> rfl

theorem law_FnExactSigMay (d : PDen [.v (.int .i64) false, .v (.int .i64) false]) (hw : WfArgs [.v (.int .i64) false, .v (.int .i64) false] d) : ∃ N o, T_laws_FnExactSigMay N d.1 d.2.1 = some (o, (true, ())) :=
  ⟨100, (), law_SigMay (wf_I64 hw.1) (wf_I64 hw.2.1)⟩
end Go.Sx
