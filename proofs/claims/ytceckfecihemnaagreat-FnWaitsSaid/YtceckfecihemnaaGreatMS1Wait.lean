/- Plain laws of the Lean functions. -/
import Derived.Test.YtceckfecihemnaaGreatMS1Or

namespace Go.Sx
set_option linter.unusedVariables false
set_option linter.unusedSimpArgs false
def lay (c : List Int) (rows : List Rw) : List Int := rows.foldl (fun c r => c.set r.1.toNat r.2) c
def ovl (c : List Int) (rows : List Rw) : List Int := bif valsOk c && rowsOk rows then lay c rows else []
theorem rowsOk_iff {l : List Rw} : rowsOk l = true ↔ l.length ≤ 300 ∧ Rows l := by
  unfold rowsOk
  rw [Bool.and_eq_true, decide_eq_true_eq, rows_iff]
theorem lay_ok : ∀ {rows : List Rw} {c : List Int}, Vals 8 c → Rows rows → Vals 8 (lay c rows)
  | [], c, hc, _ => hc
  | r :: rows, c, hc, h => by
    have := h r (by simp)
    exact lay_ok (rows := rows) (c := c.set r.1.toNat r.2) (hc.set _ ⟨this.2.1, this.2.2⟩) fun x hx => h x (by simp [hx])
section
variable {N : Nat} {c : List Int} {rows : List Rw}
theorem implRows_run' (hl : rows.length ≤ 1048576) (hN : 1048576 < N) : Zbc N rows = ret (rowsOk rows) := implRows_run hl hN
theorem lay_len (c : List Int) (rows : List Rw) : (lay c rows).length = c.length := by
  unfold lay
  induction rows generalizing c with
  | nil => rfl
  | cons r rows ih => simp [ih]
theorem specOvl_run (hN : 1048576 < N) (hc : c.length ≤ 1048576) (hr : rows.length ≤ 1048576) : Zbf N c rows = ret (ovl c rows) := by
  unfold Zbf ovl
  simp only [specVals_run hc hN, specRows_run hr hN, ret, Option.bind_some]
  cases h1 : valsOk c
  · rfl
  · cases h2 : rowsOk rows
    · rfl
    · have h3 := (vals_iff.1 h1).len
      have h4 := rowsOk_iff.1 h2
      have r0 : room (([] : List Int).length + c.length) = true := room_le (by simp; omega)
      simp only [Bool.not_true, cond_false, r0, cond_true, Bool.and_true]
      have key : ∀ (m : List Rw) (j n : Nat) (v : List Int), rows.drop j = m → j ≤ rows.length → m.length < n → v.length = 8 →
          Zbs N rows (fun i11 t12 l13 => (some ((), (l13, ())) : Option (Unit × (List Int × Unit)))) n (j : Int) v = ret (lay v m) := by
        intro m
        induction m with
        | nil =>
          intro j n v hm hj hn hv
          obtain ⟨n', rfl⟩ : ∃ n', n = n' + 1 := ⟨n - 1, by omega⟩
          have hjl : rows.length ≤ j := List.drop_eq_nil_iff.1 hm
          rw [Zbs]
          simp only [ix_ge hjl, cond_false]
          rfl
        | cons x xs ih =>
          intro j n v hm hj hn hv
          have hjl : j < rows.length := by
            rcases Nat.lt_or_ge j rows.length with h1 | h1
            · exact h1
            · rw [List.drop_eq_nil_of_le h1] at hm; cases hm
          have hx : rows[j] = x ∧ rows.drop (j + 1) = xs := by
            rw [List.drop_eq_getElem_cons hjl] at hm
            injection hm with a b
            exact ⟨a, b⟩
          obtain ⟨n', rfl⟩ : ∃ n', n = n' + 1 := ⟨n - 1, by omega⟩
          have hxr := h4.2 x (by rw [← hx.1]; exact List.getElem_mem hjl)
          have i1 : inb x.1 v.length = true := by
            rw [hv, show x.1 = ((x.1.toNat : Nat) : Int) by omega, inb_nat]; simp; omega
          rw [Zbs]
          simp only [ix_lt hjl, ix_inb hjl, ix_get hjl, hx.1, cond_true, i1, ix_succ (show j < 4611686018427387904 by omega)]
          exact ih (j + 1) n' _ hx.2 hjl (by simp at hn; omega) (by simpa using hv)
      exact key rows 0 N c rfl (by omega) (by omega) h3
theorem implOvl_run (hN : 1048576 < N) (hc : c.length ≤ 1048576) (hr : rows.length ≤ 1048576) : Zcq N c rows = ret (ovl c rows) := by
  unfold Zcq ovl
  simp only [implVals_run hc hN, implRows_run hr hN, ret, Option.bind_some]
  cases h1 : valsOk c
  · rfl
  · cases h2 : rowsOk rows
    · rfl
    · have h3 := (vals_iff.1 h1).len
      have h4 := rowsOk_iff.1 h2
      simp only [Bool.not_true, cond_false, copyInts_run hc, ret, Option.bind_some, cond_true, Bool.and_true]
      have key : ∀ (m : List Rw) (j n : Nat) (v : List Int), rows.drop j = m → j ≤ rows.length → m.length < n → v.length = 8 →
          Zbr N rows (fun i11 t12 l13 => (some ((), (l13, ())) : Option (Unit × (List Int × Unit)))) n (j : Int) v = ret (lay v m) := by
        intro m
        induction m with
        | nil =>
          intro j n v hm hj hn hv
          obtain ⟨n', rfl⟩ : ∃ n', n = n' + 1 := ⟨n - 1, by omega⟩
          have hjl : rows.length ≤ j := List.drop_eq_nil_iff.1 hm
          rw [Zbr]
          simp only [ix_ge hjl, cond_false]
          rfl
        | cons x xs ih =>
          intro j n v hm hj hn hv
          have hjl : j < rows.length := by
            rcases Nat.lt_or_ge j rows.length with h1 | h1
            · exact h1
            · rw [List.drop_eq_nil_of_le h1] at hm; cases hm
          have hx : rows[j] = x ∧ rows.drop (j + 1) = xs := by
            rw [List.drop_eq_getElem_cons hjl] at hm
            injection hm with a b
            exact ⟨a, b⟩
          obtain ⟨n', rfl⟩ : ∃ n', n = n' + 1 := ⟨n - 1, by omega⟩
          have hxr := h4.2 x (by rw [← hx.1]; exact List.getElem_mem hjl)
          have i1 : inb x.1 v.length = true := by
            rw [hv, show x.1 = ((x.1.toNat : Nat) : Int) by omega, inb_nat]; simp; omega
          rw [Zbr]
          simp only [ix_lt hjl, ix_inb hjl, ix_get hjl, hx.1, cond_true, i1, ix_succ (show j < 4611686018427387904 by omega)]
          exact ih (j + 1) n' _ hx.2 hjl (by simp at hn; omega) (by simpa using hv)
      exact key rows 0 N c rfl (by omega) (by omega) h3
theorem ovl_len (c : List Int) (rows : List Rw) : (ovl c rows).length ≤ 8 := by
  unfold ovl
  cases h1 : valsOk c
  · simp
  · have := (vals_iff.1 h1).len
    cases rowsOk rows
    · simp
    · simp only [Bool.true_and, cond_true, lay_len]; omega
end
noncomputable def waitGo (l : List (List Opn)) (regs cells : List Int) (rows : List Rw) : Nat → Nat → Int
  | 0, _ => -1
  | r + 1, n => bif (orOf l regs (ovl cells (rows.take n))).1 != -1 then (n : Int) else waitGo l regs cells rows r (n + 1)
noncomputable def waitOf (l : List (List Opn)) (regs cells : List Int) (rows : List Rw) : Int :=
  bif altsOk l regs cells && rowsOk rows then waitGo l regs cells rows (rows.length + 1) 0 else -1
theorem orGo_which {regs cells : List Int} : ∀ (l : List (List Opn)) (i : Nat) (w : List Int), (orGo regs cells l i w).1 = -1 ∨ 0 ≤ (orGo regs cells l i w).1
  | [], i, w => .inl rfl
  | k :: ks, i, w => by
    rw [orGo]
    cases (eagOf k regs cells).1 == 1
    · exact orGo_which ks (i + 1) _
    · exact .inr (by simp only [cond_true]; omega)
theorem orOf_which (l : List (List Opn)) (regs cells : List Int) : (orOf l regs cells).1 = -1 ∨ 0 ≤ (orOf l regs cells).1 := by
  unfold orOf
  cases altsOk l regs cells
  · exact .inl rfl
  · exact orGo_which l 0 []
theorem which_ge (l : List (List Opn)) (regs cells : List Int) : decide ((orOf l regs cells).1 ≥ 0) = ((orOf l regs cells).1 != -1) := by
  rcases orOf_which l regs cells with h | h
  · rw [h]; rfl
  · rw [decide_eq_true h]
    symm; simp; omega
section
variable {N : Nat} {l : List (List Opn)} {regs cells : List Int} {rows : List Rw}
theorem specWait_run (hN : 1048576 < N) (h : z_KidS l ≤ 1048576) (hr : regs.length ≤ 1048576) (hc : cells.length ≤ 1048576) (hw : rows.length ≤ 1048576) : Zdg N l regs cells rows = ret (waitOf l regs cells rows) := by
  unfold Zdg waitOf
  simp only [specAlts_run h hr hc hN, specRows_run hw hN, ret, Option.bind_some]
  cases altsOk l regs cells
  · rfl
  · cases h2 : rowsOk rows
    · rfl
    · have h3 := (rowsOk_iff.1 h2).1
      simp only [Bool.not_true, cond_false, Bool.and_true, cond_true]
      have key : ∀ (r j n : Nat), j + r = rows.length + 1 → r < n →
          Zb7 N l regs cells rows (fun t19 => (some ((), (t19, ())) : Option (Unit × (Int × Unit)))) (fun n20 t21 => (some ((), ((-1 : Int), ())))) n (j : Int) = ret (waitGo l regs cells rows r j) := by
        intro r
        induction r with
        | zero =>
          intro j n hj hn
          obtain ⟨n', rfl⟩ : ∃ n', n = n' + 1 := ⟨n - 1, by omega⟩
          rw [Zb7]
          have : decide ((j : Int) ≤ ilen rows) = false := by unfold ilen; simp; omega
          rw [this]; rfl
        | succ r ih =>
          intro j n hj hn
          obtain ⟨n', rfl⟩ : ∃ n', n = n' + 1 := ⟨n - 1, by omega⟩
          have e1 : decide ((j : Int) ≤ ilen rows) = true := by unfold ilen; simp; omega
          have e2 : ((decide ((0 : Int) ≤ (j : Int))) && (decide ((j : Int) ≤ ((List.length rows) : Int)))) = true := by simp; omega
          have hol := ovl_len cells (rows.take j)
          rw [Zb7]
          simp only [e1, e2, cond_true, Int.toNat_natCast, specOvl_run (rows := rows.take j) hN hc (by rw [List.length_take]; omega), specOr_run (l := l) (regs := regs) (cells := ovl cells (rows.take j)) hN h hr (by omega), ret, Option.bind_some, which_ge, ix_succ (show j < 4611686018427387904 by omega)]
          rw [ih (j + 1) n' (by omega) (by omega), waitGo]
          cases (orOf l regs (ovl cells (rows.take j))).1 != -1 <;> rfl
      exact key (rows.length + 1) 0 N (by omega) (by omega)
theorem implWait_run (hN : 1048576 < N) (h : z_KidS l ≤ 1048576) (hr : regs.length ≤ 1048576) (hc : cells.length ≤ 1048576) (hw : rows.length ≤ 1048576) : Zdh N l regs cells rows = ret (waitOf l regs cells rows) := by
  unfold Zdh waitOf
  simp only [implAlts_run h hr hc hN, implRows_run hw hN, ret, Option.bind_some]
  cases altsOk l regs cells
  · rfl
  · cases h2 : rowsOk rows
    · rfl
    · have h3 := (rowsOk_iff.1 h2).1
      simp only [Bool.not_true, cond_false, Bool.and_true, cond_true]
      have key : ∀ (r j n : Nat), j + r = rows.length + 1 → r < n →
          Zb8 N l regs cells rows (fun t19 => (some ((), (t19, ())) : Option (Unit × (Int × Unit)))) (fun n20 t21 => (some ((), ((-1 : Int), ())))) n (j : Int) = ret (waitGo l regs cells rows r j) := by
        intro r
        induction r with
        | zero =>
          intro j n hj hn
          obtain ⟨n', rfl⟩ : ∃ n', n = n' + 1 := ⟨n - 1, by omega⟩
          rw [Zb8]
          have : decide ((j : Int) ≤ ilen rows) = false := by unfold ilen; simp; omega
          rw [this]; rfl
        | succ r ih =>
          intro j n hj hn
          obtain ⟨n', rfl⟩ : ∃ n', n = n' + 1 := ⟨n - 1, by omega⟩
          have e1 : decide ((j : Int) ≤ ilen rows) = true := by unfold ilen; simp; omega
          have e2 : ((decide ((0 : Int) ≤ (j : Int))) && (decide ((j : Int) ≤ ((List.length rows) : Int)))) = true := by simp; omega
          have hol := ovl_len cells (rows.take j)
          rw [Zb8]
          simp only [e1, e2, cond_true, Int.toNat_natCast, implOvl_run (rows := rows.take j) hN hc (by rw [List.length_take]; omega), implOr_run (l := l) (regs := regs) (cells := ovl cells (rows.take j)) hN h hr (by omega), ret, Option.bind_some, ix_succ (show j < 4611686018427387904 by omega)]
          rw [ih (j + 1) n' (by omega) (by omega), waitGo]
          cases (orOf l regs (ovl cells (rows.take j))).1 != -1 <;> rfl
      exact key (rows.length + 1) 0 N (by omega) (by omega)
end
end Go.Sx
