/- Plain laws of the Lean functions. -/
import Derived.Test.YtceckfecihemnaaGreatMFrOr

namespace Go.Sx
set_option linter.unusedVariables false
set_option linter.unusedSimpArgs false
theorem orGo_len {regs cells : List Int} (hr : regs.length ≤ 24) (hc : cells.length ≤ 24) : ∀ (l : List (List Opn)) (i : Nat) (w : List Int), (orGo regs cells l i w).2.1.length ≤ 24 ∧ (orGo regs cells l i w).2.2.1.length ≤ 24 ∧ (orGo regs cells l i w).2.2.2.length ≤ 24
  | [], i, w => ⟨hr, hc, by
    simp only [orGo, cellsIn]
    exact Nat.le_trans (List.length_filter_le ..) (by simp)⟩
  | k :: ks, i, w => by
    have := eag_len k regs cells
    rw [orGo]
    cases (eagOf k regs cells).1 == 1
    · exact orGo_len hr hc ks (i + 1) _
    · exact ⟨by simp only [cond_true]; omega, by simp only [cond_true]; omega, by simp⟩
theorem orOf_len (l : List (List Opn)) (regs cells : List Int) : (orOf l regs cells).2.1.length ≤ 24 ∧ (orOf l regs cells).2.2.1.length ≤ 24 ∧ (orOf l regs cells).2.2.2.length ≤ 24 := by
  unfold orOf
  cases hk : altsOk l regs cells
  · simp
  · unfold altsOk at hk
    simp only [Bool.and_eq_true, decide_eq_true_eq] at hk
    have h1 := (regs_iff.1 hk.2.1).len
    have h2 := (vals_iff.1 hk.2.2.1).len
    exact orGo_len (by omega) (by omega) l 0 []
theorem choice_hold {N : Nat} {e : Chc} (hN : 1048576 < N) (h1 : e.2.1.length ≤ 100000) (h2 : e.2.2.1.length ≤ 100000) (h3 : e.2.2.2.length ≤ 100000) :
    ∃ m q, Zd2 N e 1 = some ((m, ()), (q, ())) ∧ Zdk N (e.1, m.2) 1 = ret q ∧ 0 ≤ q := by
  unfold Zd2
  rw [f_markIntS (by omega) hN (by omega) (by omega)]
  simp only [Option.bind_some]
  rw [f_markIntS (by omega) hN (by omega) (by omega)]
  simp only [Option.bind_some]
  rw [f_markIntS (by omega) hN (by omega) (by omega)]
  refine ⟨_, _, rfl, ?_, by simp only []; omega⟩
  unfold Zdk
  simp only []
  have d : ∀ x : Int, 0 ≤ x → decide (x < 0) = false := fun x hx => by simpa using hx
  rw [f_heldIntS (by omega) hN (by omega) (by omega)]
  simp only [ret, Option.bind_some]
  rw [d _ (by omega), f_heldIntS (by omega) hN (by omega) (by omega)]
  simp only [ret, Option.bind_some, cond_false]
  rw [d _ (by omega), f_heldIntS (by omega) hN (by omega) (by omega)]
  simp only [ret, Option.bind_some, cond_false]
  rw [d _ (by omega)]
  rfl
theorem f_markKidS {N : Nat} {a : List (List Opn)} {k : Int} (h : z_KidS a ≤ 1048576) (hN : 1048576 < N) (hk : 0 ≤ k) (hk2 : k ≤ 1000) :
    ∃ a' q, Zbq N a k = some ((a', ()), (q, ())) ∧ 0 ≤ q ∧ q ≤ 8388608 := by
  unfold Zbq
  have key : ∀ (m : List (List Opn)) (j n : Nat) (l : List (List Opn)) (k : Int), l.drop j = m → j ≤ l.length → m.length < n → l.length ≤ 1048576 → (m.map z_Kid).sum ≤ 1048576 → 0 ≤ k → k + 4 * ((m.map z_Kid).sum : Nat) ≤ 8388608 →
      ∃ a' q, Za5 N (fun k12 i13 t14 l15 => (some ((l15, ()), (k12, ())) : Option ((List (List Opn) × Unit) × (Int × Unit)))) n k (j : Int) l = some ((a', ()), (q, ())) ∧ 0 ≤ q ∧ q ≤ 8388608 := by
    intro m
    induction m with
    | nil =>
      intro j n l k hm hj hn hl hz hk hk2
      obtain ⟨n', rfl⟩ : ∃ n', n = n' + 1 := ⟨n - 1, by omega⟩
      have hjl : l.length ≤ j := List.drop_eq_nil_iff.1 hm
      rw [Za5]
      simp only [ix_ge hjl, cond_false]
      simp at hk2
      exact ⟨_, _, rfl, hk, hk2⟩
    | cons x xs ih =>
      intro j n l k hm hj hn hl hz hk hk2
      have hjl : j < l.length := by
        rcases Nat.lt_or_ge j l.length with h1 | h1
        · exact h1
        · rw [List.drop_eq_nil_of_le h1] at hm; cases hm
      have hx : l[j] = x ∧ l.drop (j + 1) = xs := by
        rw [List.drop_eq_getElem_cons hjl] at hm
        injection hm with a b
        exact ⟨a, b⟩
      obtain ⟨n', rfl⟩ : ∃ n', n = n' + 1 := ⟨n - 1, by omega⟩
      rw [List.map_cons, List.sum_cons] at hz hk2
      have hzx : x.length = z_Kid x := rfl
      rw [Za5]
      simp only [ix_lt hjl, ix_inb hjl, ix_get hjl, hx.1, cond_true, ix_succ (show j < 4611686018427387904 by omega)]
      rw [f_markOpS (a := x) (by omega) hN hk (by omega)]
      simp only [Option.bind_some]
      refine ih (j + 1) n' _ _ ?_ (by simp; omega) (by simp at hn; omega) (by simpa using hl) (by omega) (by omega) (by omega)
      rw [show Int.toNat ((j : Nat) : Int) = j from rfl, List.drop_set_of_lt (by omega)]
      exact hx.2
  have hz := h
  unfold z_KidS at hz
  exact key a 0 N a k rfl (by omega) (by omega) (by omega) (by omega) hk (by omega)
abbrev TKids : Ty := .slice (.slice (.prod (.int .i64) (.prod (.int .i64) (.prod (.int .i64) (.int .i64)))))
abbrev TIntsO : Ty := .slice (.int .i64)
theorem law_OrElse {N : Nat} {l : List (List Opn)} {regs cells : List Int} (hN : 1048576 < N) (hw : Wfd TKids l) : Zch N l regs cells = ret true := by
  unfold Zch
  by_cases q1 : 1048576 < regs.length
  · have e : decide (ilen regs > 1048576) = true := by simp [ilen]; omega
    rw [e]; rfl
  · have e : decide (ilen regs > 1048576) = false := by simp [ilen]; omega
    rw [e]
    by_cases q2 : 1048576 < cells.length
    · have e : decide (ilen cells > 1048576) = true := by simp [ilen]; omega
      rw [e]; rfl
    · have e : decide (ilen cells > 1048576) = false := by simp [ilen]; omega
      rw [e, f_szKidS hN (by omega) (by omega) hw]
      simp only [ret, Option.bind_some, cond_false]
      by_cases h : (1048576 : Int) < (z_KidS l : Int)
      · rw [if_pos h]; rfl
      · have e1 : decide ((1048576 - (z_KidS l : Int)) < 0) = false := by simp; omega
        rw [if_neg h, e1]
        have hl : z_KidS l ≤ 1048576 := by omega
        have hr : z_IntS regs ≤ 1048576 := by unfold z_IntS; omega
        have hc : z_IntS cells ≤ 1048576 := by unfold z_IntS; omega
        have hr' : regs.length ≤ 1048576 := hr
        have hc' : cells.length ≤ 1048576 := hc
        obtain ⟨b1, b2, b3⟩ := orOf_len l regs cells
        have hz : z_Choice (orOf l regs cells) ≤ 1048576 := by unfold z_Choice z_IntS; omega
        obtain ⟨m, q, hm, hh, hq⟩ := choice_hold (e := orOf l regs cells) hN (by omega) (by omega) (by omega)
        have hq1 : decide (q < 0) = false := by simpa using hq
        have hq2 : (q != q) = false := by simp
        obtain ⟨a1, p1, m1, hp1, hp2⟩ := f_markKidS (a := l) (k := 1) hl hN (by omega) (by omega)
        have m2 := f_markIntS (k := p1) hr' hN (by omega) (by omega)
        have m3 := f_markIntS (k := p1 + ((1 * regs.length : Nat) : Int)) hc' hN (by omega) (by omega)
        have hk : decide (p1 + ((1 * regs.length : Nat) : Int) + ((1 * cells.length : Nat) : Int) < 0) = false := decide_eq_false (by omega)
        simp only [cond_false, f_toKidS hl hN, f_toIntS hr hN, f_toIntS hc hN, specOr_run hN hl hr' hc', implOr_run hN hl hr' hc', f_eqChoice hz hN, f_eqKidS hl hN, f_eqIntS hr hN, f_eqIntS hc hN, m1, m2, m3, hk, ret, Option.bind_some, hm, hh, hq1, hq2, same_self, Bool.not_true]
theorem law_FnExactOrElse (d : PDen [.v TKids false, .v TIntsO false, .v TIntsO false]) (hw : WfArgs [.v TKids false, .v TIntsO false, .v TIntsO false] d) : ∃ N o, Zch N d.1 d.2.1 d.2.2.1 = some (o, (true, ())) := ⟨1048577, (), law_OrElse (by omega) hw.1⟩
end Go.Sx
