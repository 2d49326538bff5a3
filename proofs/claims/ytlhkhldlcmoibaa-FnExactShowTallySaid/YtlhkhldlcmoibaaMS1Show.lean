/- Plain laws of the Lean functions. -/
import Derived.Test.YtlhkhldlcmoibaaMSxDec
/- Plain law: what is shown of a tally, of a turn; the phases' words. -/
namespace Go.Sx
set_option linter.unusedVariables false
set_option linter.unusedSimpArgs false

theorem phase_eq (N : Nat) (p : Int) : T_spec_PhaseWord N p = T_impl_PhaseWord N p := rfl

/-- the phases' words -/
def phaseT (p : Int) : List UInt8 := if 0 ≤ p ∧ p ≤ 8 then List.getD [[105, 100, 108, 101], [114, 117, 110], [102, 111, 114, 107], [117, 110, 119, 105, 110, 100], [101, 120, 116, 101, 110, 100], [99, 111, 109, 109, 105, 116], [117, 110, 100, 111], [102, 114, 101, 101], [100, 111, 110, 101]] p.toNat [] else []

theorem phaseT_len (p : Int) : (phaseT p).length ≤ 6 := by
  unfold phaseT
  split
  · rename_i h
    have : p.toNat < 9 := by omega
    generalize p.toNat = q at this
    revert q
    decide
  · simp

theorem implPhase_run {N : Nat} {p : Int} : T_impl_PhaseWord N p = ret (phaseT p) := by
  unfold T_impl_PhaseWord T_impl_within phaseT
  by_cases h1 : 0 ≤ p
  · by_cases h2 : p ≤ 8
    · have e1 : decide (p ≥ 0) = true := by simpa using h1
      have e2 : decide (p ≤ 8) = true := by simpa using h2
      have e3 : inb p 9 = true := by unfold inb; simp; omega
      simp only [e1, e2, cond_true, Option.bind_some, Bool.not_true, cond_false]
      rw [show (List.length ([([105, 100, 108, 101] : List UInt8), ([114, 117, 110] : List UInt8), ([102, 111, 114, 107] : List UInt8), ([117, 110, 119, 105, 110, 100] : List UInt8), ([101, 120, 116, 101, 110, 100] : List UInt8), ([99, 111, 109, 109, 105, 116] : List UInt8), ([117, 110, 100, 111] : List UInt8), ([102, 114, 101, 101] : List UInt8), ([100, 111, 110, 101] : List UInt8)])) = 9 from rfl, e3, if_pos ⟨h1, h2⟩]
      rfl
    · have e1 : decide (p ≥ 0) = true := by simpa using h1
      have e2 : decide (p ≤ 8) = false := by simpa using h2
      rw [if_neg (fun h => h2 h.2)]
      simp [e1, e2]
  · have e1 : decide (p ≥ 0) = false := by simpa using h1
    rw [if_neg (fun h => h1 h.1)]
    simp [e1]

theorem law_PhaseWord {p : Int} : T_laws_FnExactPhaseWord 1 p = ret true := by
  unfold T_laws_FnExactPhaseWord
  rw [phase_eq, implPhase_run]
  simp [seq]

theorem law_FnExactPhaseWord (d : PDen [.v (.int .i64) false]) (hw : WfArgs [.v (.int .i64) false] d) : ∃ N o, T_laws_FnExactPhaseWord N d.1 = some (o, (true, ())) :=
  ⟨1, (), law_PhaseWord⟩

theorem sfit_any {a b : List UInt8} (h : a.length + b.length ≤ 1000000000000) : sfit a b = true := sfit_le h

theorem law_ShowTally {a b c d e f g : Int} (ha : I64 a) (hb : I64 b) (hc : I64 c) (hd : I64 d) (he : I64 e) (hf : I64 f) (hg : I64 g) : T_laws_FnExactShowTally 200 (a, b, c, d, e, f, g) = ret true := by
  have la := decT_len a
  have lb := decT_len b
  have lc := decT_len c
  have ld := decT_len d
  have le := decT_len e
  have lf := decT_len f
  have lg := decT_len g
  have hspec : ∃ s, T_spec_ShowTally 200 (a, b, c, d, e, f, g) = ret s ∧ T_impl_ShowTally 200 (a, b, c, d, e, f, g) = ret s := by
    unfold T_spec_ShowTally T_impl_ShowTally
    simp only [specDec_run ha (show 100 < 200 by omega), specDec_run hb (show 100 < 200 by omega), specDec_run hc (show 100 < 200 by omega), specDec_run hd (show 100 < 200 by omega), specDec_run he (show 100 < 200 by omega), specDec_run hf (show 100 < 200 by omega), specDec_run hg (show 100 < 200 by omega),
      implDec_run ha (show 150 < 200 by omega), implDec_run hb (show 150 < 200 by omega), implDec_run hc (show 150 < 200 by omega), implDec_run hd (show 150 < 200 by omega), implDec_run he (show 150 < 200 by omega), implDec_run hf (show 150 < 200 by omega), implDec_run hg (show 150 < 200 by omega), ret, Option.bind_some]
    generalize decT a = ta at *
    generalize decT b = tb at *
    generalize decT c = tc at *
    generalize decT d = td at *
    generalize decT e = te at *
    generalize decT f = tf at *
    generalize decT g = tg at *
    repeat rw [sfit_le (by simp; omega)]
    exact ⟨_, rfl, rfl⟩
  obtain ⟨s, h1, h2⟩ := hspec
  unfold T_laws_FnExactShowTally T_laws_toTally
  simp only [Option.bind_some, h1, h2, ret]
  simp [seq]

theorem law_FnExactShowTally (d : PDen [.v (.prod (.int .i64) (.prod (.int .i64) (.prod (.int .i64) (.prod (.int .i64) (.prod (.int .i64) (.prod (.int .i64) (.int .i64))))))) true])
    (hw : WfArgs [.v (.prod (.int .i64) (.prod (.int .i64) (.prod (.int .i64) (.prod (.int .i64) (.prod (.int .i64) (.prod (.int .i64) (.int .i64))))))) true] d) : ∃ N o, T_laws_FnExactShowTally N d.1 = some (o, (true, ())) := by
  obtain ⟨⟨a, b, c, d, e, f, g⟩, _⟩ := d
  obtain ⟨⟨ha, hb, hc, hd, he, hf, hg⟩, _⟩ := hw
  exact ⟨200, (), law_ShowTally (wf_I64 ha) (wf_I64 hb) (wf_I64 hc) (wf_I64 hd) (wf_I64 he) (wf_I64 hf) (wf_I64 hg)⟩

theorem law_ShowTurn {a b c d : Int} (ha : I64 a) (hb : I64 b) : T_laws_FnExactShowTurn 200 (a, b, c, d) = ret true := by
  have la := decT_len a
  have lb := decT_len b
  have lc := phaseT_len c
  have ld := phaseT_len d
  have hspec : ∃ s, T_spec_ShowTurn 200 (a, b, c, d) = ret s ∧ T_impl_ShowTurn 200 (a, b, c, d) = ret s := by
    unfold T_spec_ShowTurn T_impl_ShowTurn
    simp only [phase_eq, implPhase_run, specDec_run ha (show 100 < 200 by omega), specDec_run hb (show 100 < 200 by omega), implDec_run ha (show 150 < 200 by omega), implDec_run hb (show 150 < 200 by omega), ret, Option.bind_some]
    generalize decT a = ta at *
    generalize decT b = tb at *
    generalize phaseT c = tc at *
    generalize phaseT d = td at *
    cases hc : seq tc [] with
    | true => exact ⟨_, rfl, rfl⟩
    | false =>
      cases hd : seq td [] with
      | true => exact ⟨_, rfl, rfl⟩
      | false =>
        simp only [cond_false]
        repeat rw [sfit_le (by simp; omega)]
        exact ⟨_, rfl, rfl⟩
  obtain ⟨s, h1, h2⟩ := hspec
  unfold T_laws_FnExactShowTurn T_laws_toTurn
  simp only [Option.bind_some, h1, h2, ret]
  simp [seq]

theorem law_FnExactShowTurn (d : PDen [.v (.prod (.int .i64) (.prod (.int .i64) (.prod (.int .i64) (.int .i64)))) true]) (hw : WfArgs [.v (.prod (.int .i64) (.prod (.int .i64) (.prod (.int .i64) (.int .i64)))) true] d) : ∃ N o, T_laws_FnExactShowTurn N d.1 = some (o, (true, ())) := by
  obtain ⟨⟨a, b, c, d⟩, _⟩ := d
  obtain ⟨⟨ha, hb, hc, hd⟩, _⟩ := hw
  exact ⟨200, (), law_ShowTurn (wf_I64 ha) (wf_I64 hb)⟩
end Go.Sx
