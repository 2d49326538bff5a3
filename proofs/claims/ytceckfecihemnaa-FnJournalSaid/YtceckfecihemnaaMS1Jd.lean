/- Plain laws of the Lean functions. -/
import Derived.Test.YtceckfecihemnaaMS1Jc

namespace Go.Sx
set_option linter.unusedVariables false
set_option linter.unusedSimpArgs false
theorem unf_fits (s : List UInt8) : unf s = ([], 0) ∨ (5 ≤ s.length ∧ (s.getD 4 0).toNat ≤ 120 ∧ 5 + (s.getD 4 0).toNat ≤ s.length ∧ fr ((s.drop 5).take (s.getD 4 0).toNat) = s.take (5 + (s.getD 4 0).toNat) ∧ unf s = ((s.drop 5).take (s.getD 4 0).toNat, 5 + (s.getD 4 0).toNat)) := by
  unfold unf
  split
  · exact Or.inl rfl
  · split
    · exact Or.inl rfl
    · split
      · exact Or.inr ⟨by omega, by omega, by omega, by assumption, rfl⟩
      · exact Or.inl rfl
theorem unf_le (s : List UInt8) : (unf s).2 ≤ s.length ∧ (unf s).1.length ≤ 120 := by
  rcases unf_fits s with h | ⟨h1, h2, h3, h4, h⟩
  · rw [h]; simp
  · rw [h]; simp only [List.length_take, List.length_drop]; omega
theorem unf_zero {s : List UInt8} (h : (unf s).2 = 0) : (unf s).1 = [] := by
  rcases unf_fits s with h0 | ⟨h1, h2, h3, h4, h0⟩
  · rw [h0]
  · rw [h0] at h; simp at h
theorem unf_ext {s : List UInt8} (r : List UInt8) (h : 0 < (unf s).2) : unf (s.take (unf s).2 ++ r) = unf s := by
  rcases unf_fits s with h0 | ⟨h1, h2, h3, h4, h0⟩
  · rw [h0] at h; simp at h
  · rw [h0]
    generalize hb : (s.getD 4 0).toNat = b at *
    have e1 : (s.take (5 + b) ++ r).getD 4 0 = s.getD 4 0 := by
      simp only [List.getD, List.getElem?_append_left (show 4 < (s.take (5 + b)).length by simp; omega), List.getElem?_take_of_lt (show 4 < 5 + b by omega)]
    have hl : (s.take (5 + b)).length = 5 + b := by simp; omega
    have e2 : ((s.take (5 + b) ++ r).drop 5).take b = (s.drop 5).take b := by
      rw [List.drop_append_of_le_length (by omega), ← drop_take5 s b, List.take_append_of_le_length (by simp; omega), List.take_of_length_le (by simp; omega)]
    have e3 : (s.take (5 + b) ++ r).take (5 + b) = s.take (5 + b) := by
      rw [List.take_append_of_le_length (by omega), List.take_take, Nat.min_self]
    unfold unf
    rw [e1, hb, e2, e3, if_neg (by simp; omega), if_neg (by simp; omega), if_pos h4]
theorem unf_take (s : List UInt8) (j : Nat) : unf (s.take j) = ([], 0) ∨ (unf (s.take j) = unf s ∧ 0 < (unf s).2 ∧ (unf s).2 ≤ j) := by
  rcases Nat.eq_zero_or_pos (unf (s.take j)).2 with h | h
  · left
    have := unf_zero h
    exact Prod.ext this h
  · right
    have h1 := unf_ext (s.drop (unf (s.take j)).2) h
    have h2 := (unf_le (s.take j)).1
    rw [List.length_take] at h2
    rw [List.take_take, Nat.min_eq_left (by omega), List.take_append_drop] at h1
    rw [← h1] at h h2
    exact ⟨h1.symm, h, by omega⟩
theorem shW_nil {w : Wr} (h : wOk w ≠ true) : shW w = [] := by unfold shW; rw [if_neg h]
theorem rdW_ok {s : List UInt8} {w : Wr} (h : rdW s = some w) : wOk w = true ∧ w.2.2.length ≤ 8 ∧ shW w = s := by
  unfold rdW at h
  split at h
  · cases h
  · rename_i h0
    split at h
    · cases h
    · rename_i h8
      rcases hr : rws s (q3 s) (p3 s) with _ | l
      · rw [hr] at h; cases h
      · rw [hr] at h
        simp only [Option.bind_some] at h
        split at h
        · rename_i he
          cases h
          have hl := rws_len _ _ _ hr
          refine ⟨?_, by show l.length ≤ 8; omega, he⟩
          apply Classical.byContradiction
          intro hn
          rw [shW_nil hn] at he
          rw [← he] at h0
          exact h0 (Or.inl rfl)
        · cases h
def jr : Nat → Int → List UInt8 → List Wr × Nat
  | 0, _, _ => ([], 0)
  | n + 1, last, s => match rdW (unf s).1 with
    | none => ([], 0)
    | some w => if w.1 ≤ last then ([], 0) else (w :: (jr n w.1 (s.drop (unf s).2)).1, (unf s).2 + (jr n w.1 (s.drop (unf s).2)).2)
theorem jr_none {n : Nat} {last : Int} {s : List UInt8} (h : rdW (unf s).1 = none) : jr (n + 1) last s = ([], 0) := by rw [jr, h]
theorem jr_stop {n : Nat} {last : Int} {s : List UInt8} {w : Wr} (h : rdW (unf s).1 = some w) (hw : w.1 ≤ last) : jr (n + 1) last s = ([], 0) := by rw [jr, h]; simp only; rw [if_pos hw]
theorem jr_cons {n : Nat} {last : Int} {s : List UInt8} {w : Wr} (h : rdW (unf s).1 = some w) (hw : ¬ w.1 ≤ last) : jr (n + 1) last s = (w :: (jr n w.1 (s.drop (unf s).2)).1, (unf s).2 + (jr n w.1 (s.drop (unf s).2)).2) := by rw [jr, h]; simp only; rw [if_neg hw]
theorem jr_le : ∀ (n : Nat) (last : Int) (s : List UInt8), (jr n last s).2 ≤ s.length ∧ (jr n last s).1.length ≤ n
  | 0, last, s => by simp [jr]
  | n + 1, last, s => by
    unfold jr
    split
    · simp
    · split
      · simp
      · rename_i w h1 h2
        have h3 := jr_le n w.1 (s.drop (unf s).2)
        have h4 := (unf_le s).1
        simp at h3 ⊢
        omega
abbrev jrR (l : List Wr) (p : Nat) (r : List Wr × Nat) : Option (Unit × (List Wr × (Int × Unit))) := some ((), (l ++ r.1, (((p + r.2 : Nat) : Int), ())))
theorem implJr_lp {N : Nat} {s : List UInt8} (hs : s.length ≤ 1048576) (hN : 1048576 < N) : ∀ (j m p : Nat) (last : Int) (l : List Wr), l.length + j = 200 → j < m → p ≤ s.length →
    Z9 N s (fun at21 n22 t23 l24 b25 b26 l27 => (some ((), (l24, (at21, ()))))) (fun at28 last29 t30 l31 => (some ((), (l31, (at28, ()))))) m (p : Int) last l = jrR l p (jr j last (s.drop p))
  | j, 0, p, last, l, _, h, _ => by omega
  | 0, m + 1, p, last, l, h, _, _ => by
    have e : decide (ilen l < 200) = false := decide_eq_false (by unfold ilen; omega)
    rw [Z9, e]
    simp [jr]
  | j + 1, m + 1, p, last, l, h, h1, hp => by
    have e : decide (ilen l < 200) = true := decide_eq_true (by unfold ilen; omega)
    have hle := unf_le (s.drop p)
    rw [List.length_drop] at hle
    rw [Z9, e, in_pre hp, Int.toNat_natCast, implUnframe_run (drop_len hs) hN]
    simp only [cond_true, two, Option.bind_some]
    rw [implRead_run (by show (unf (s.drop p)).1.length ≤ 1048576; omega) hN, jr]
    show (opW (rdW (unf (s.drop p)).1)).bind _ = _
    rcases hr : rdW (unf (s.drop p)).1 with _ | w
    · simp only [opW, Option.bind_some]
      cases ((sn (unf (s.drop p))).2 == 0) <;> simp
    · simp only [opW, Option.bind_some]
      have hne : (unf (s.drop p)).2 ≠ 0 := by
        intro h0
        rw [unf_zero h0, rdW_nil] at hr
        cases hr
      have e1 : ((sn (unf (s.drop p))).2 == 0) = false := by simp [sn, hne]
      rw [e1]
      simp only [cond_false, Bool.not_true]
      by_cases hw : w.1 ≤ last
      · rw [decide_eq_true hw, if_pos hw]
        simp
      · have e2 : iadd .i64 (p : Int) (sn (unf (s.drop p))).2 = ((p + (unf (s.drop p)).2 : Nat) : Int) := by
          show iadd .i64 (p : Int) (((unf (s.drop p)).2 : Nat) : Int) = _
          rw [iadd_eq (by unfold I64; omega)]; rfl
        rw [decide_eq_false hw, if_neg hw, e2, room_le (by simp; omega)]
        simp only [cond_false, cond_true]
        refine (implJr_lp hs hN j m _ w.1 (l ++ [w]) (by simp; omega) (by omega) (by omega)).trans ?_
        simp only [jrR, List.drop_drop, List.append_assoc, List.singleton_append, Nat.add_assoc]
theorem implJr_run {N : Nat} {s : List UInt8} (hs : s.length ≤ 1048576) (hN : 1048576 < N) : Zn N s = some ((), ((jr 200 0 s).1, (((jr 200 0 s).2 : Int), ()))) := by
  have := implJr_lp hs hN 200 N 0 0 [] rfl (by omega) (Nat.zero_le _)
  simp only [jrR, List.nil_append, List.drop_zero, Nat.zero_add] at this
  exact this
theorem specJr_lp {N : Nat} {s : List UInt8} (hs : s.length ≤ 1048576) (hN : 1048576 < N) : ∀ (j m p : Nat) (last : Int) (l : List Wr), l.length + j = 200 → j < m → p ≤ s.length → (l = [] → last = 0) → (∀ h : l ≠ [], (l.getLast h).1 = last) →
    Zv N s (fun at21 n22 t23 l24 b25 b26 l27 => (some ((), (l24, (at21, ()))))) (fun at28 t30 l31 => (some ((), (l31, (at28, ()))))) m (p : Int) l = jrR l p (jr j last (s.drop p))
  | j, 0, p, last, l, _, h, _, _, _ => by omega
  | 0, m + 1, p, last, l, h, _, _, _, _ => by
    have e : decide (ilen l < 200) = false := decide_eq_false (by unfold ilen; omega)
    rw [Zv, e]
    simp [jr]
  | j + 1, m + 1, p, last, l, h, h1, hp, hl0, hl1 => by
    have e : decide (ilen l < 200) = true := decide_eq_true (by unfold ilen; omega)
    have hle := unf_le (s.drop p)
    rw [List.length_drop] at hle
    rw [Zv, e, in_pre hp, Int.toNat_natCast, specUnframe_run (drop_len hs) hN]
    simp only [cond_true, two, Option.bind_some]
    rw [specRead_run (by show (unf (s.drop p)).1.length ≤ 1048576; omega) hN, jr]
    show (opW (rdW (unf (s.drop p)).1)).bind _ = _
    rcases hr : rdW (unf (s.drop p)).1 with _ | w
    · simp only [opW, Option.bind_some]
      cases ((sn (unf (s.drop p))).2 == 0) <;> simp
    · simp only [opW, Option.bind_some]
      have hne : (unf (s.drop p)).2 ≠ 0 := by
        intro h0
        rw [unf_zero h0, rdW_nil] at hr
        cases hr
      have e1 : ((sn (unf (s.drop p))).2 == 0) = false := by simp [sn, hne]
      rw [e1]
      simp only [cond_false, Bool.not_true]
      have e2 : iadd .i64 (p : Int) (sn (unf (s.drop p))).2 = ((p + (unf (s.drop p)).2 : Nat) : Int) := by
        show iadd .i64 (p : Int) (((unf (s.drop p)).2 : Nat) : Int) = _
        rw [iadd_eq (by unfold I64; omega)]; rfl
      have ih := specJr_lp hs hN j m (p + (unf (s.drop p)).2) w.1 (l ++ [w]) (by simp; omega) (by omega) (by omega) (by simp) (by simp)
      have fin : Zv N s (fun at21 n22 t23 l24 b25 b26 l27 => (some ((), (l24, (at21, ()))))) (fun at28 t30 l31 => (some ((), (l31, (at28, ()))))) m ((p + (unf (s.drop p)).2 : Nat) : Int) (l ++ [w]) = jrR l p (w :: (jr j w.1 ((s.drop p).drop (unf (s.drop p)).2)).1, (unf (s.drop p)).2 + (jr j w.1 ((s.drop p).drop (unf (s.drop p)).2)).2) := by
        refine ih.trans ?_
        simp only [jrR, List.drop_drop, List.append_assoc, List.singleton_append, Nat.add_assoc]
      rw [e2, room_le (by simp; omega)]
      simp only [cond_true]
      by_cases hl : l = []
      · subst hl
        have hlast := hl0 rfl
        have hw1 : ¬ w.1 ≤ last := by
          have := (rdW_ok hr).1
          unfold wOk at this
          simp at this
          omega
        rw [if_neg hw1]
        exact fin
      · have hpos : 0 < l.length := List.length_pos_iff.2 hl
        have e3 : decide (ilen l > 0) = true := by simp [ilen]; exact hpos
        have e4 : isub .i64 (ilen l) 1 = ((l.length - 1 : Nat) : Int) := by
          unfold ilen
          rw [isub_eq (by unfold I64; omega)]; omega
        have e5 := hl1 hl
        rw [List.getLast_eq_getElem] at e5
        rw [e3, e4, ix_inb (show l.length - 1 < l.length by omega), ix_get (show l.length - 1 < l.length by omega), e5]
        simp only [cond_true]
        by_cases hw : w.1 ≤ last
        · rw [decide_eq_true hw, if_pos hw]
          simp
        · rw [decide_eq_false hw, if_neg hw]
          exact fin
theorem specJr_run {N : Nat} {s : List UInt8} (hs : s.length ≤ 1048576) (hN : 1048576 < N) : Zac N s = some ((), ((jr 200 0 s).1, (((jr 200 0 s).2 : Int), ()))) := by
  have := specJr_lp hs hN 200 N 0 0 [] rfl (by omega) (Nat.zero_le _) (fun _ => rfl) (fun h => absurd rfl h)
  simp only [jrR, List.nil_append, List.drop_zero, Nat.zero_add] at this
  exact this
theorem jr_take : ∀ (n : Nat) (last : Int) (s : List UInt8) (j : Nat), ∃ r, (jr n last s).1 = (jr n last (s.take j)).1 ++ r
  | 0, last, s, j => ⟨[], rfl⟩
  | n + 1, last, s, j => by
    rcases unf_take s j with h | ⟨h, h1, h2⟩
    · refine ⟨(jr (n + 1) last s).1, ?_⟩
      have : jr (n + 1) last (s.take j) = ([], 0) := by rw [jr, h]; rfl
      rw [this]; rfl
    · rw [jr, jr, h]
      rcases hr : rdW (unf s).1 with _ | w
      · exact ⟨[], rfl⟩
      · simp only
        by_cases hw : w.1 ≤ last
        · rw [if_pos hw, if_pos hw]; exact ⟨[], rfl⟩
        · rw [if_neg hw, if_neg hw]
          obtain ⟨r, hr⟩ := jr_take n w.1 (s.drop (unf s).2) (j - (unf s).2)
          refine ⟨r, ?_⟩
          rw [List.drop_take]
          simp only [List.cons_append]
          rw [hr]
def lastOf (last : Int) (l : List Wr) : Int := match l.getLast? with | none => last | some w => w.1
theorem lastOf_cons (last : Int) (w : Wr) (l : List Wr) : lastOf last (w :: l) = lastOf w.1 l := by
  unfold lastOf
  cases l with
  | nil => rfl
  | cons x l => rw [List.getLast?_cons_cons]; cases h : (x :: l).getLast? <;> simp_all
theorem jr_add {f t : List UInt8} {w : Wr} (hf : ∀ r, unf (f ++ r) = (t, f.length)) (hfl : 0 < f.length) (hw : rdW t = some w) : ∀ (n : Nat) (last : Int) (s : List UInt8), (jr n last s).1.length < n → lastOf last (jr n last s).1 < w.1 →
    (jr n last (s.take (jr n last s).2 ++ f)).1 = (jr n last s).1 ++ [w]
  | 0, last, s, h, _ => by simp [jr] at h
  | n + 1, last, s, h, h1 => by
    have hempty : ∀ l0 : Int, l0 < w.1 → (jr (n + 1) l0 f).1 = [w] := by
      intro l0 hl
      have hf0 := hf []
      rw [List.append_nil] at hf0
      rw [jr, hf0]
      simp only [hw]
      rw [if_neg (by omega)]
      simp only [List.drop_length]
      have : jr n w.1 [] = ([], 0) := by
        cases n with
        | zero => rfl
        | succ n => rfl
      rw [this]
    rcases hr : rdW (unf s).1 with _ | v
    · rw [jr_none hr] at h1 ⊢
      simp only [List.take_zero, List.nil_append]
      exact hempty last (by simpa [lastOf] using h1)
    · by_cases hv : v.1 ≤ last
      · rw [jr_stop hr hv] at h1 ⊢
        simp only [List.take_zero, List.nil_append]
        exact hempty last (by simpa [lastOf] using h1)
      · rw [jr_cons hr hv] at h h1 ⊢
        have hne : 0 < (unf s).2 := by
          rcases Nat.eq_zero_or_pos (unf s).2 with h0 | h0
          · rw [unf_zero h0, rdW_nil] at hr; cases hr
          · exact h0
        simp only [List.length_cons] at h
        rw [lastOf_cons] at h1
        have ih := jr_add hf hfl hw n v.1 (s.drop (unf s).2) (by omega) h1
        have hle := (unf_le s).1
        have e : s.take ((unf s).2 + (jr n v.1 (s.drop (unf s).2)).2) ++ f = s.take (unf s).2 ++ ((s.drop (unf s).2).take (jr n v.1 (s.drop (unf s).2)).2 ++ f) := by
          rw [← List.append_assoc, List.take_add]
        simp only
        rw [e]
        have hu := unf_ext ((s.drop (unf s).2).take (jr n v.1 (s.drop (unf s).2)).2 ++ f) hne
        rw [jr_cons (by rw [hu]; exact hr) hv, hu]
        have e2 : (s.take (unf s).2 ++ ((s.drop (unf s).2).take (jr n v.1 (s.drop (unf s).2)).2 ++ f)).drop (unf s).2 = (s.drop (unf s).2).take (jr n v.1 (s.drop (unf s).2)).2 ++ f := by
          rw [List.drop_append_of_le_length (by simp; omega), List.drop_eq_nil_of_le (by simp; omega), List.nil_append]
        rw [e2, ih]
        rfl
theorem jr_asc : ∀ (n : Nat) (last : Int) (s : List UInt8), (∀ w ∈ (jr n last s).1, last < w.1 ∧ wOk w = true ∧ w.2.2.length ≤ 8) ∧ List.Pairwise (fun a b : Wr => a.1 < b.1) (jr n last s).1
  | 0, last, s => by simp [jr]
  | n + 1, last, s => by
    unfold jr
    rcases hr : rdW (unf s).1 with _ | v
    · simp
    · simp only
      by_cases hv : v.1 ≤ last
      · rw [if_pos hv]; simp
      · rw [if_neg hv]
        obtain ⟨h1, h2⟩ := jr_asc n v.1 (s.drop (unf s).2)
        have h3 := rdW_ok hr
        constructor
        · intro w hw
          rcases List.mem_cons.1 hw with rfl | hw
          · exact ⟨by omega, h3.1, h3.2.1⟩
          · have := h1 w hw
            exact ⟨by omega, this.2⟩
        · exact List.pairwise_cons.2 ⟨fun w hw => (h1 w hw).1, h2⟩
end Go.Sx
