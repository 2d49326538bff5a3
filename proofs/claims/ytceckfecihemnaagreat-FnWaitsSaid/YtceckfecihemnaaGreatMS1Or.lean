/- Plain laws of the Lean functions. -/
import Derived.Test.YtceckfecihemnaaGreatMS1AltB

namespace Go.Sx
set_option linter.unusedVariables false
set_option linter.unusedSimpArgs false
abbrev Chc := Int × List Int × List Int × List Int
noncomputable def orGo (regs cells : List Int) : List (List Opn) → Nat → List Int → Chc
  | [], _, w => (-1, regs, cells, cellsIn fun c => w.any (· == c))
  | k :: ks, i, w => bif (eagOf k regs cells).1 == 1 then ((i : Int), (eagOf k regs cells).2.1, (eagOf k regs cells).2.2.1, []) else orGo regs cells ks (i + 1) (w ++ readsOf k regs cells)
noncomputable def orOf (l : List (List Opn)) (regs cells : List Int) : Chc := bif altsOk l regs cells then orGo regs cells l 0 [] else (-1, [], [], [])
theorem readsOf_bd {l : List Opn} {regs cells : List Int} : (readsOf l regs cells).length ≤ 8 ∧ ∀ x ∈ readsOf l regs cells, 0 ≤ x ∧ x ≤ 7 := by
  unfold readsOf
  cases kidOk l && (regsOk regs && valsOk cells)
  · simp
  · refine ⟨?_, fun x hx => ?_⟩
    · simp only [cond_true, cellsIn]
      exact Nat.le_trans (List.length_filter_le ..) (by simp)
    · exact (mem_cells.1 hx).1
section
variable {N : Nat} {l : List (List Opn)} {regs cells : List Int}
theorem implOr_run (hN : 1048576 < N) (h : z_KidS l ≤ 1048576) (hr : regs.length ≤ 1048576) (hc : cells.length ≤ 1048576) : Zat N l regs cells = ret (orOf l regs cells) := by
  unfold Zat orOf
  rw [implAlts_run h hr hc hN]
  simp only [ret, Option.bind_some]
  cases hk : altsOk l regs cells
  · rfl
  · have hl4 : l.length ≤ 4 := by unfold altsOk at hk; simp only [Bool.and_eq_true, decide_eq_true_eq] at hk; exact hk.1
    simp only [Bool.not_true, cond_false, cond_true]
    have key : ∀ (m : List (List Opn)) (j n : Nat) (w : List Int), l.drop j = m → j ≤ l.length → m.length < n → w.length ≤ 8 * j → (∀ x ∈ w, 0 ≤ x ∧ x ≤ 7) →
        Zb6 N regs cells l (fun b24 l25 l26 => (some ((), ((b24, (l25, (l26, ([] : List Int)))), ())) : Option (Unit × (Chc × Unit))))
          (fun t27 t28 l29 => ((Zap N l29).bind fun o30 => ((Zl N regs).bind fun o31 => ((Zl N cells).bind fun o32 => ((Zu N o30.1.1).bind fun o33 => (some ((), (((-1 : Int), (o31.2.1, (o32.2.1, o33.2.1))), ()))))))))
          n (j : Int) w = ret (orGo regs cells m j w) := by
      intro m
      induction m with
      | nil =>
        intro j n w hm hj hn hw hx
        obtain ⟨n', rfl⟩ : ∃ n', n = n' + 1 := ⟨n - 1, by omega⟩
        have hjl : l.length ≤ j := List.drop_eq_nil_iff.1 hm
        rw [Zb6]
        simp only [ix_ge hjl, cond_false]
        unfold Zap Zgp
        have : decide (w.length < 4611686018427387904) = true := by simp; omega
        rw [this]
        simp only [cond_true, Option.bind_some, copyInts_run hr, copyInts_run hc, ret]
        rw [compact_run (by rw [len_sortInts]; omega) hN, sorted_cells hx]
        rfl
      | cons k ks ih =>
        intro j n w hm hj hn hw hx
        have hjl : j < l.length := by
          rcases Nat.lt_or_ge j l.length with h1 | h1
          · exact h1
          · rw [List.drop_eq_nil_of_le h1] at hm; cases hm
        have hk2 : l[j] = k ∧ l.drop (j + 1) = ks := by
          rw [List.drop_eq_getElem_cons hjl] at hm
          injection hm with a b
          exact ⟨a, b⟩
        have hkl : k.length ≤ 1048576 := by rw [← hk2.1]; exact kid_len h hjl
        obtain ⟨n', rfl⟩ : ∃ n', n = n' + 1 := ⟨n - 1, by omega⟩
        have hb := readsOf_bd (l := k) (regs := regs) (cells := cells)
        have r1 : room (w.length + (readsOf k regs cells).length) = true := room_le (by omega)
        rw [Zb6]
        simp only [ix_lt hjl, ix_inb hjl, ix_get hjl, hk2.1, cond_true, implSerKid_run hN hkl hr hc, implReads_run hN hkl hr hc, ret, Option.bind_some, r1, ix_succ (show j < 4611686018427387904 by omega), orGo]
        cases (eagOf k regs cells).1 == 1
        · simp only [cond_false]
          refine ih (j + 1) n' _ hk2.2 hjl (by simp at hn; omega) (by simp; omega) fun x hx' => ?_
          rcases List.mem_append.1 hx' with h1 | h1
          · exact hx x h1
          · exact hb.2 x h1
        · rfl
    exact key l 0 N [] rfl (by omega) (by omega) (by simp) (by simp)
theorem wait_lp {R : Type} {m : List Int} (hm : m.length ≤ 1000) (hx : ∀ x ∈ m, 0 ≤ x ∧ x ≤ 7) {i b : Int} (K : List Bool → Option R) : ∀ (k : List Int) (j n : Nat) (w : List Int), m.drop j = k → j ≤ m.length → k.length < n →
    Zb5 N l regs cells i b m (fun _ _ v => K v) n (j : Int) (rdF w) = K (rdF (w ++ k)) := by
  intro k
  induction k with
  | nil =>
    intro j n w hk hj hn
    obtain ⟨n', rfl⟩ : ∃ n', n = n' + 1 := ⟨n - 1, by omega⟩
    have hjl : m.length ≤ j := List.drop_eq_nil_iff.1 hk
    rw [Zb5]
    simp only [ix_ge hjl, cond_false, List.append_nil]
  | cons y ys ih =>
    intro j n w hk hj hn
    have hjl : j < m.length := by
      rcases Nat.lt_or_ge j m.length with h1 | h1
      · exact h1
      · rw [List.drop_eq_nil_of_le h1] at hk; cases hk
    have hk2 : m[j] = y ∧ m.drop (j + 1) = ys := by
      rw [List.drop_eq_getElem_cons hjl] at hk
      injection hk with a b
      exact ⟨a, b⟩
    obtain ⟨n', rfl⟩ : ∃ n', n = n' + 1 := ⟨n - 1, by omega⟩
    have hy := hx y (by rw [← hk2.1]; exact List.getElem_mem hjl)
    have i1 : inb y (rdF w).length = true := by
      have e8 : (rdF w).length = 8 := flags_len _
      rw [e8, show y = ((y.toNat : Nat) : Int) by omega, inb_nat]
      simp; omega
    rw [Zb5]
    simp only [ix_lt hjl, ix_inb hjl, ix_get hjl, hk2.1, cond_true, i1, ix_succ (show j < 4611686018427387904 by omega), rd_add hy]
    rw [ih (j + 1) n' (w ++ [y]) hk2.2 hjl (by simp at hn; omega), List.append_assoc]
    rfl
theorem specOr_run (hN : 1048576 < N) (h : z_KidS l ≤ 1048576) (hr : regs.length ≤ 1048576) (hc : cells.length ≤ 1048576) : Zdf N l regs cells = ret (orOf l regs cells) := by
  unfold Zdf orOf
  rw [specAlts_run h hr hc hN]
  simp only [ret, Option.bind_some]
  cases hk : altsOk l regs cells
  · rfl
  · have hl4 : l.length ≤ 4 := by unfold altsOk at hk; simp only [Bool.and_eq_true, decide_eq_true_eq] at hk; exact hk.1
    have e8 : (((decide ((0 : Int) ≤ (8 : Int))) && (decide ((8 : Int) ≤ (8 : Int)))) && (room (Int.toNat (8 : Int)))) = true := rfl
    have e9 : List.replicate (Int.toNat 8) false = rdF [] := rfl
    simp only [Bool.not_true, cond_false, cond_true, e8, e9]
    have key : ∀ (m : List (List Opn)) (j n : Nat) (w : List Int), l.drop j = m → j ≤ l.length → m.length < n → w.length ≤ 8 * j →
        Zbi N l regs cells (fun b43 l44 l45 => (some ((), ((b43, (l44, (l45, ([] : List Int)))), ())) : Option (Unit × (Chc × Unit))))
          (fun i46 t47 l48 => ((Zw N regs).bind fun o49 => ((Zw N cells).bind fun o50 => (Zar N l48 o49.2.1 o50.2.1 (fun i61 t62 l63 => (some ((), (((-1 : Int), (o49.2.1, (o50.2.1, l63))), ())))) N (0 : Int) ([] : List Int)))))
          n (j : Int) (rdF w) = ret (orGo regs cells m j w) := by
      intro m
      induction m with
      | nil =>
        intro j n w hm hj hn hw
        obtain ⟨n', rfl⟩ : ∃ n', n = n' + 1 := ⟨n - 1, by omega⟩
        have hjl : l.length ≤ j := List.drop_eq_nil_iff.1 hm
        rw [Zbi]
        simp only [ix_ge hjl, cond_false, l15_run hr, l15_run hc, ret, Option.bind_some]
        have r8 : (rdF w).length = 8 := flags_len _
        refine flags_collect (lp := Zar N (rdF w) regs cells (fun i61 t62 l63 => (some ((), (((-1 : Int), (regs, (cells, l63))), ())) : Option (Unit × (Chc × Unit))))) (K := fun v => some ((), ((-1, (regs, (cells, v))), ()))) (p := fun c => w.any (· == c)) (fun n j v hj hv => ?_) (fun n v => ?_) (by omega)
        · have g : (rdF w).getD j false = w.any (· == (j : Int)) := flags_get (p := fun c => w.any (· == c)) (c := (j : Int)) ⟨by omega, by omega⟩
          have r1 : room (v.length + [(j : Int)].length) = true := room_le (by simp; omega)
          rw [Zar]
          simp only [ix_lt (show j < (rdF w).length by omega), ix_inb (show j < (rdF w).length by omega), Int.toNat_natCast, g, cond_true, r1, ix_succ (show j < 4611686018427387904 by omega)]
          rfl
        · rw [Zar]
          have : decide ((8 : Int) < ilen (rdF w)) = false := by unfold ilen; rw [r8]; rfl
          rw [this]; rfl
      | cons k ks ih =>
        intro j n w hm hj hn hw
        have hjl : j < l.length := by
          rcases Nat.lt_or_ge j l.length with h1 | h1
          · exact h1
          · rw [List.drop_eq_nil_of_le h1] at hm; cases hm
        have hk2 : l[j] = k ∧ l.drop (j + 1) = ks := by
          rw [List.drop_eq_getElem_cons hjl] at hm
          injection hm with a b
          exact ⟨a, b⟩
        have hkl : k.length ≤ 1048576 := by rw [← hk2.1]; exact kid_len h hjl
        obtain ⟨n', rfl⟩ : ∃ n', n = n' + 1 := ⟨n - 1, by omega⟩
        have hb := readsOf_bd (l := k) (regs := regs) (cells := cells)
        rw [Zbi]
        simp only [ix_lt hjl, ix_inb hjl, ix_get hjl, hk2.1, cond_true, serKid_run hN hkl hr hc, specReads_run hN hkl hr hc, ret, Option.bind_some, ix_succ (show j < 4611686018427387904 by omega), orGo]
        cases (eagOf k regs cells).1 == 1
        · simp only [cond_false]
          have := wait_lp (N := N) (l := l) (regs := regs) (cells := cells) (m := readsOf k regs cells) (i := (j : Int)) (b := 0) (by omega) hb.2 (fun v => Zbi N l regs cells (fun b43 l44 l45 => (some ((), ((b43, (l44, (l45, ([] : List Int)))), ())) : Option (Unit × (Chc × Unit))))
            (fun i46 t47 l48 => ((Zw N regs).bind fun o49 => ((Zw N cells).bind fun o50 => (Zar N l48 o49.2.1 o50.2.1 (fun i61 t62 l63 => (some ((), (((-1 : Int), (o49.2.1, (o50.2.1, l63))), ())))) N (0 : Int) ([] : List Int)))))
            n' ((j + 1 : Nat) : Int) v) (readsOf k regs cells) 0 N w rfl (by omega) (by omega)
          refine Eq.trans this ?_
          exact ih (j + 1) n' _ hk2.2 hjl (by simp at hn; omega) (by simp; omega)
        · rfl
    exact key l 0 N [] rfl (by omega) (by omega) (by simp)
end
theorem orGo_len {regs cells : List Int} (hr : regs.length ≤ 24) (hc : cells.length ≤ 24) : ∀ (l : List (List Opn)) (i : Nat) (w : List Int), (orGo regs cells l i w).2.1.length ≤ 24 ∧ (orGo regs cells l i w).2.2.1.length ≤ 24 ∧ (orGo regs cells l i w).2.2.2.length ≤ 24
  | [], i, w => ⟨hr, hc, by
    simp only [orGo, cellsIn]
    exact Nat.le_trans (List.length_filter_le ..) (by simp)⟩
  | k :: ks, i, w => by
    have := eag_len k regs cells
    rw [orGo]
    cases (eagOf k regs cells).1 == 1
    · exact orGo_len hr hc ks (i + 1) _
    · exact ⟨by simp only [cond_true]; omega, by simp only [cond_true]; omega, by simp⟩
theorem orOf_len (l : List (List Opn)) (regs cells : List Int) : (orOf l regs cells).2.1.length ≤ 24 ∧ (orOf l regs cells).2.2.1.length ≤ 24 ∧ (orOf l regs cells).2.2.2.length ≤ 24 := by
  unfold orOf
  cases hk : altsOk l regs cells
  · simp
  · unfold altsOk at hk
    simp only [Bool.and_eq_true, decide_eq_true_eq] at hk
    have h1 := (regs_iff.1 hk.2.1).len
    have h2 := (vals_iff.1 hk.2.2.1).len
    exact orGo_len (by omega) (by omega) l 0 []
end Go.Sx
