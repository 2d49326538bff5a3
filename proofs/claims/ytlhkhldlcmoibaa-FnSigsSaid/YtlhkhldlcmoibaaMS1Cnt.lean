/- Plain laws of the Lean functions. -/
import Derived.Test.YtlhkhldlcmoibaaMS1May
/- Plain law: how many bits a signature has. -/
namespace Go.Sx
set_option linter.unusedVariables false
set_option linter.unusedSimpArgs false

/-- how many bits there are below `k` -/
def cntB (f : Nat → Bool) : Nat → Nat
  | 0 => 0
  | n + 1 => cntB f n + (f n).toNat

theorem cntB_le (f : Nat → Bool) : ∀ n, cntB f n ≤ n
  | 0 => Nat.le_refl _
  | n + 1 => by have := cntB_le f n; have := Bool.toNat_le (f n); rw [cntB]; omega

theorem cntB_congr {f g : Nat → Bool} : ∀ n, (∀ k, k < n → f k = g k) → cntB f n = cntB g n
  | 0, _ => rfl
  | n + 1, h => by rw [cntB, cntB, cntB_congr n fun k hk => h k (by omega), h n (by omega)]

theorem cntB_shift (f : Nat → Bool) : ∀ n, cntB f (n + 1) = (f 0).toNat + cntB (fun k => f (k + 1)) n
  | 0 => by simp [cntB]
  | n + 1 => by rw [cntB, cntB_shift f n, cntB]; omega

theorem cntB_zero : ∀ n, cntB (fun k => Nat.testBit 0 k) n = 0
  | 0 => rfl
  | n + 1 => by rw [cntB, cntB_zero n]; simp

theorem cnt_lp (N : Nat) (hN : 61 < N) {R : Type} {s : Int} (hs : I64 s) (K : Int → Int → Bool → Option R) : ∀ (n k : Nat), k ≤ 60 → 60 - k < n →
    T_spec_SigCount_lp0 N s K n ((cntB (bitS s) k : Nat) : Int) (k : Int) = K ((cntB (bitS s) 60 : Nat) : Int) 60 false
  | 0, k, _, h => by omega
  | n + 1, k, h1, h2 => by
    rw [T_spec_SigCount_lp0]
    by_cases hk : k < 60
    · have e1 : decide ((k : Int) < 60) = true := by simp; omega
      have e3 : iadd .i64 (k : Int) 1 = ((k + 1 : Nat) : Int) := by rw [iadd_eq (by unfold I64; omega)]; rfl
      have ih := cnt_lp N hN hs K n (k + 1) (by omega) (by omega)
      rw [e1, specHas_run hs (by omega) hN, e3]
      simp only [ret, cond_true, Option.bind_some]
      rw [cntB] at ih
      have hle := cntB_le (bitS s) k
      revert ih hle
      generalize cntB (bitS s) k = c
      intro ih hle
      cases hb : bitS s k with
      | false => rw [hb] at ih; exact ih
      | true =>
        rw [hb] at ih
        have e4 : iadd .i64 (c : Int) 1 = ((c + 1 : Nat) : Int) := by rw [iadd_eq (by unfold I64; omega)]; rfl
        simp only [cond_true, e4]
        exact ih
    · have : k = 60 := by omega
      subst this
      rfl

/-- the lowest bit struck -/
theorem strike : ∀ (n x : Nat), 0 < x → x < 2 ^ n → cntB (fun k => (x &&& (x - 1)).testBit k) n + 1 = cntB (fun k => x.testBit k) n ∧ x &&& (x - 1) < x
  | 0, x, h0, h => by simp at h; omega
  | n + 1, x, h0, h => by
    have q1 : cntB (fun k => x.testBit k) (n + 1) = (x.testBit 0).toNat + cntB (fun k => x.testBit (k + 1)) n := cntB_shift _ n
    have q2 : cntB (fun k => (x &&& (x - 1)).testBit k) (n + 1) = ((x &&& (x - 1)).testBit 0).toNat + cntB (fun k => (x &&& (x - 1)).testBit (k + 1)) n := cntB_shift _ n
    rw [q1, q2]
    clear q1 q2
    have hs : ∀ (y k : Nat), y.testBit (k + 1) = (y / 2).testBit k := fun y k => by rw [Nat.testBit_succ]
    rcases Nat.mod_two_eq_zero_or_one x with h2 | h2
    · -- even
      have hx2 : 0 < x / 2 := by omega
      obtain ⟨ih1, ih2⟩ := strike n (x / 2) hx2 (by rw [Nat.pow_succ] at h; omega)
      have e0 : (x &&& (x - 1)).testBit 0 = false := by rw [Nat.testBit_and, Nat.testBit_zero, Nat.testBit_zero]; simp [h2]
      have e1 : x.testBit 0 = false := by rw [Nat.testBit_zero]; simp [h2]
      have e2 : (x &&& (x - 1)) / 2 = x / 2 &&& (x / 2 - 1) := by
        rw [Nat.and_div_two]
        congr 1
        omega
      have f1 : cntB (fun k => (x &&& (x - 1)).testBit (k + 1)) n = cntB (fun k => (x / 2 &&& (x / 2 - 1)).testBit k) n := cntB_congr n fun k _ => by rw [hs, e2]
      have f2 : cntB (fun k => x.testBit (k + 1)) n = cntB (fun k => (x / 2).testBit k) n := cntB_congr n fun k _ => by rw [hs]
      rw [f1, f2, e0, e1]
      refine ⟨by simp only [Bool.toNat_false]; omega, ?_⟩
      have hm : (x &&& (x - 1)) % 2 = 0 := by
        rw [Nat.testBit_zero] at e0
        have h3 := of_decide_eq_false e0
        have := Nat.mod_two_eq_zero_or_one (x &&& (x - 1))
        omega
      omega
    · have e0 : (x &&& (x - 1)).testBit 0 = false := by
        rw [Nat.testBit_and, Nat.testBit_zero, Nat.testBit_zero]
        have : (x - 1) % 2 = 0 := by omega
        simp [this]
      have e1 : x.testBit 0 = true := by rw [Nat.testBit_zero]; simp [h2]
      have e2 : (x &&& (x - 1)) / 2 = x / 2 := by
        rw [Nat.and_div_two]
        have : (x - 1) / 2 = x / 2 := by omega
        rw [this, Nat.and_self]
      have f1 : cntB (fun k => (x &&& (x - 1)).testBit (k + 1)) n = cntB (fun k => x.testBit (k + 1)) n := cntB_congr n fun k _ => by rw [hs, hs, e2]
      rw [f1, e0, e1]
      refine ⟨by simp only [Bool.toNat_false, Bool.toNat_true]; omega, ?_⟩
      have hm : (x &&& (x - 1)) % 2 = 0 := by
        rw [Nat.testBit_zero] at e0
        have h3 := of_decide_eq_false e0
        have := Nat.mod_two_eq_zero_or_one (x &&& (x - 1))
        omega
      omega

theorem pop_lp (N : Nat) {R : Type} (K : Int → Int → Bool → Option R) : ∀ (n c x : Nat), x < 2 ^ 60 → c ≤ 1000 → c + cntB (fun k => x.testBit k) 60 ≤ 1000 → cntB (fun k => x.testBit k) 60 < n →
    T_impl_SigCount_lp0 N K n (c : Int) (x : Int) = K ((c + cntB (fun k => x.testBit k) 60 : Nat) : Int) 0 false
  | 0, c, x, _, _, _, h => by omega
  | n + 1, c, x, hx, hc, hcx, h => by
    rw [T_impl_SigCount_lp0]
    by_cases h0 : x = 0
    · subst h0
      rw [cntB_zero]
      rfl
    · have hx0 : 0 < x := by omega
      have e1 : decide ((x : Int) > 0) = true := by simp; omega
      obtain ⟨s1, s2⟩ := strike 60 x hx0 hx
      have e2 : isub .i64 (x : Int) 1 = ((x - 1 : Nat) : Int) := by rw [isub_eq (by unfold I64; omega)]; omega
      have e3 : iadd .i64 (c : Int) 1 = ((c + 1 : Nat) : Int) := by rw [iadd_eq (by unfold I64; omega)]; rfl
      rw [e1, e2, e3, iand_nat (by omega) (by omega)]
      simp only [cond_true]
      rw [pop_lp N K n (c + 1) (x &&& (x - 1)) (by omega) (by omega) (by omega) (by omega), ← s1]
      congr 2
      omega

theorem implCnt_run {N : Nat} (hN : 61 < N) {s : Int} (hs : I64 s) : T_impl_SigCount N s = ret ((cntB (bitS s) 60 : Nat) : Int) := by
  have hl := low60_lt s
  have hle := cntB_le (fun k => (low60 s).testBit k) 60
  unfold T_impl_SigCount
  rw [implBits_run hs]
  simp only [ret, Option.bind_some]
  refine (pop_lp N _ N 0 (low60 s) hl (by omega) (by omega) (by omega)).trans ?_
  rw [cntB_congr (g := bitS s) 60 fun k hk => by rw [low60_bit]; simp [hk]]
  simp

theorem law_SigCount {s : Int} (hs : I64 s) : T_laws_FnExactSigCount 100 s = ret true := by
  have h1 : T_spec_SigCount 100 s = ret ((cntB (bitS s) 60 : Nat) : Int) := cnt_lp 100 (by omega) hs _ 100 0 (by omega) (by omega)
  have h2 := implCnt_run (N := 100) (by omega) hs
  unfold T_laws_FnExactSigCount
  rw [h1, h2]
  simp only [ret, Option.bind_some, bne_self_eq_false]
  rfl

theorem law_FnExactSigCount (d : PDen [.v (.int .i64) false]) (hw : WfArgs [.v (.int .i64) false] d) : ∃ N o, T_laws_FnExactSigCount N d.1 = some (o, (true, ())) :=
  ⟨100, (), law_SigCount (wf_I64 hw.1)⟩
end Go.Sx
