/- Plain laws of the Lean functions. -/
import Derived.Test.YtfbomdanghhgcaaMS1EpL
/- Plain law: EpochPlay and EpochFlush agree with the reference. -/
namespace Go.Sx
set_option linter.unusedVariables false
set_option linter.unusedSimpArgs false

def ep0 : Eps := (0, [-1, -1, -1], [true, true, true, true, true, true, true, true, true, true], [], [], [])
theorem ep0_inv : EpInv 0 ep0 := ⟨by decide, rfl, by decide, rfl, by simp [ep0], by decide⟩

theorem acts_inv : ∀ (l : List (Int × Int × Int)) (k : Nat) (e : Eps), EpInv k e → EpInv (k + l.length) (l.foldl epAct e)
  | [], k, e, h => h
  | x :: l, k, e, h => by
    rw [List.foldl_cons, List.length_cons, show k + (l.length + 1) = k + 1 + l.length by omega]
    exact acts_inv l (k + 1) _ (act_inv h)

theorem implNew0 {N n : Nat} {acts : List (Int × Int × Int)} {R : Type} (K : Int → Bool → List Int → Option R) : T_impl_EpochPlay_lp0 N acts K (n + 4) 0 [] = K 3 false [-1, -1, -1] := rfl
theorem implNew1 {N n : Nat} {acts : List (Int × Int × Int)} {l : List Int} {R : Type} (K : Int → Bool → List Bool → Option R) : T_impl_EpochPlay_lp1 N acts l K (n + 11) 0 [] = K 10 false [true, true, true, true, true, true, true, true, true, true] := rfl
theorem specNew0 {N n : Nat} {R : Type} (K : Int → Bool → List Int → Option R) : T_spec_l26New_lp0 N K (n + 4) 0 [0, 0, 0] = K 3 false [-1, -1, -1] := rfl
theorem specNew1 {N n : Nat} {l : List Int} {R : Type} (K : Int → Bool → List Bool → Option R) : T_spec_l26New_lp1 N l K (n + 11) 0 [false, false, false, false, false, false, false, false, false, false] = K 10 false [true, true, true, true, true, true, true, true, true, true] := rfl

theorem both_self {α : Type} (a : Option α) : both a a = a := by unfold both; rw [if_pos rfl]

section
variable {N k : Nat} {acts : List (Int × Int × Int)} {e : Eps}

theorem specNew_run (hN : 1048576 < N) : T_spec_l26New N = ret ep0 := by
  obtain ⟨m, rfl⟩ : ∃ m, N = m + 11 := ⟨N - 11, by omega⟩
  have h : ∀ (K : Int → Bool → List Int → Option (Unit × (Eps × Unit))), T_spec_l26New_lp0 (m + 11) K (m + 11) 0 [0, 0, 0] = K 3 false [-1, -1, -1] := fun K => specNew0 (n := m + 7) K
  have h2 : ∀ (l : List Int) (K : Int → Bool → List Bool → Option (Unit × (Eps × Unit))), T_spec_l26New_lp1 (m + 11) l K (m + 11) 0 [false, false, false, false, false, false, false, false, false, false] = K 10 false [true, true, true, true, true, true, true, true, true, true] := fun l K => specNew1 K
  unfold T_spec_l26New
  have r3 : List.replicate (Int.toNat 3) (0 : Int) = [0, 0, 0] := rfl
  have r10 : List.replicate (Int.toNat 10) false = [false, false, false, false, false, false, false, false, false, false] := rfl
  have c3 : (((decide ((0 : Int) ≤ (3 : Int))) && (decide ((3 : Int) ≤ (3 : Int)))) && (room (Int.toNat (3 : Int)))) = true := rfl
  have c10 : (((decide ((0 : Int) ≤ (10 : Int))) && (decide ((10 : Int) ≤ (10 : Int)))) && (room (Int.toNat (10 : Int)))) = true := rfl
  simp only [r3, r10, c3, c10, cond_true, h, h2, both_self]
  rfl

theorem implPlay_run (hN : 1048576 < N) (ha : acts.length ≤ 200) : T_impl_EpochPlay N acts = ret (acts.foldl epAct ep0) := by
  have hc : decide (ilen acts > 200) = false := by simp [ilen]; omega
  obtain ⟨m, hm⟩ : ∃ m, N = m + 11 := ⟨N - 11, by omega⟩
  have h0 := fun K => implNew0 (N := N) (n := m + 7) (acts := acts) (R := Unit × (Eps × Unit)) K
  have h1 := fun l K => implNew1 (N := N) (n := m) (acts := acts) (l := l) (R := Unit × (Eps × Unit)) K
  rw [show m + 7 + 4 = N by omega] at h0
  rw [show m + 11 = N by omega] at h1
  unfold T_impl_EpochPlay
  simp only [hc, cond_false, h0, h1]
  have h2 := loop_ix0 (l := acts) (V := Eps) (R := Unit × (Eps × Unit)) (lp := fun n j v => T_impl_EpochPlay_lp2 N acts (fun t46 t47 b48 l49 l50 l51 l52 l53 => (some ((), ((b48, (l49, (l50, (l51, (l52, l53))))), ())))) n j v.1 v.2.1 v.2.2.1 v.2.2.2.1 v.2.2.2.2.1 v.2.2.2.2.2) (n := N) (by omega)
    (body := fun j x v k => (T_impl_Epochs_act N v x).bind fun o => k o.1.1) (K := fun _ v => ret v)
    (fun n i v hi => by simp only [T_impl_EpochPlay_lp2, ix_lt hi, ix_inb hi, ix_get hi, ix_succ (show i < 4611686018427387904 by omega), cond_true])
    (fun n v => by simp only [T_impl_EpochPlay_lp2, ix_ge (Nat.le_refl acts.length), cond_false]) ep0
  refine h2.trans ?_
  rw [foldK_foldI (f := epAct) (I := fun j v => EpInv j v) (J := acts.length) acts 0 _ (by omega) ep0_inv ?_]
  intro j x v c hx hj hI
  exact ⟨by rw [implAct_run hN hI (by omega)]; rfl, act_inv hI⟩

theorem specPlay_run (hN : 1048576 < N) (ha : acts.length ≤ 200) : T_spec_EpochPlay N acts = ret (acts.foldl epAct ep0) := by
  have hc : decide (ilen acts > 200) = false := by simp [ilen]; omega
  unfold T_spec_EpochPlay
  simp only [hc, cond_false, specNew_run hN, ret, Option.bind_some]
  have h2 := loop_ix0 (l := acts) (V := Eps) (R := Unit × (Eps × Unit)) (lp := fun n j v => T_spec_EpochPlay_lp0 N acts (fun i23 t24 b25 l26 l27 l28 l29 l30 => (some ((), ((b25, (l26, (l27, (l28, (l29, l30))))), ())))) n j v.1 v.2.1 v.2.2.1 v.2.2.2.1 v.2.2.2.2.1 v.2.2.2.2.2) (n := N) (by omega)
    (body := fun j x v k => (T_spec_l26Act N v x).bind fun o => k o.2.1) (K := fun _ v => ret v)
    (fun n i v hi => by simp only [T_spec_EpochPlay_lp0, ix_lt hi, ix_inb hi, ix_get hi, ix_succ (show i < 4611686018427387904 by omega), cond_true])
    (fun n v => by simp only [T_spec_EpochPlay_lp0, ix_ge (Nat.le_refl acts.length), cond_false]) ep0
  refine h2.trans ?_
  rw [foldK_foldI (f := epAct) (I := fun j v => EpInv j v) (J := acts.length) acts 0 _ (by omega) ep0_inv ?_]
  intro j x v c hx hj hI
  exact ⟨by rw [specAct_run hN hI (by omega)]; rfl, act_inv hI⟩

theorem playLong (ha : ¬ acts.length ≤ 200) : T_impl_EpochPlay N acts = ret (0, [], [], [], [], []) ∧ T_spec_EpochPlay N acts = ret (0, [], [], [], [], []) ∧ T_impl_EpochFlush N acts = ret (0, [], [], [], [], []) := by
  have hc : decide (ilen acts > 200) = true := by simp [ilen]; omega
  unfold T_impl_EpochPlay T_spec_EpochPlay T_impl_EpochFlush
  rw [hc]
  exact ⟨rfl, rfl, rfl⟩

def epFlush (e : Eps) : Eps := epMove (epMove (epAct (epAct (epAct e (2, 0, 0)) (2, 1, 0)) (2, 2, 0)))

theorem flush_inv (h : EpInv k e) : EpInv (k + 5) (epFlush e) := move_inv (move_inv (act_inv (act_inv (act_inv h))))

theorem implFlush_run (hN : 1048576 < N) (ha : acts.length ≤ 200) : T_impl_EpochFlush N acts = ret (epFlush (acts.foldl epAct ep0)) := by
  have hc : decide (ilen acts > 200) = false := by simp [ilen]; omega
  have hi : EpInv acts.length (acts.foldl epAct ep0) := by have := acts_inv acts 0 ep0 ep0_inv; rwa [Nat.zero_add] at this
  unfold T_impl_EpochFlush
  simp only [hc, cond_false, implPlay_run hN ha, ret, Option.bind_some]
  generalize acts.foldl epAct ep0 = e at hi
  obtain ⟨m, hm⟩ : ∃ m, N = m + 4 := ⟨N - 4, by omega⟩
  have step : ∀ (n : Nat) (t : Int) (v : Eps) (k : Nat) (K : Int → Bool → Int → List Int → List Bool → List (Int × Int) → List (Int × Int) → List Int → Option (Unit × (Eps × Unit))), EpInv k v → k ≤ 1000 → t < 3 → T_impl_EpochFlush_lp0 N K (n + 1) t v.1 v.2.1 v.2.2.1 v.2.2.2.1 v.2.2.2.2.1 v.2.2.2.2.2 =
      T_impl_EpochFlush_lp0 N K n (iadd .i64 t 1) (epAct v (2, t, 0)).1 (epAct v (2, t, 0)).2.1 (epAct v (2, t, 0)).2.2.1 (epAct v (2, t, 0)).2.2.2.1 (epAct v (2, t, 0)).2.2.2.2.1 (epAct v (2, t, 0)).2.2.2.2.2 := fun n t v k K hv hk ht => by
    have e1 : decide (t < 3) = true := by simpa using ht
    simp only [T_impl_EpochFlush_lp0, e1, cond_true]
    rw [show (v.1, v.2.1, v.2.2.1, v.2.2.2.1, v.2.2.2.2.1, v.2.2.2.2.2) = v from rfl, implAct_run hN hv hk]
    rfl
  have stop : ∀ (n : Nat) (v : Eps) (K : Int → Bool → Int → List Int → List Bool → List (Int × Int) → List (Int × Int) → List Int → Option (Unit × (Eps × Unit))), T_impl_EpochFlush_lp0 N K (n + 1) 3 v.1 v.2.1 v.2.2.1 v.2.2.2.1 v.2.2.2.2.1 v.2.2.2.2.2 = K 3 false v.1 v.2.1 v.2.2.1 v.2.2.2.1 v.2.2.2.2.1 v.2.2.2.2.2 := fun n v K => rfl
  have e0 : iadd .i64 0 1 = 1 := by decide
  have e1 : iadd .i64 1 1 = 2 := by decide
  have e2 : iadd .i64 2 1 = 3 := by decide
  have q1 := act_inv (a := (2, 0, 0)) hi
  have q2 := act_inv (a := (2, 1, 0)) q1
  have q3 := act_inv (a := (2, 2, 0)) q2
  have q4 := move_inv q3
  have s1 := fun K => step (m + 3) 0 e _ K hi (by omega) (by decide)
  have s2 := fun K => step (m + 2) 1 _ _ K q1 (by omega) (by decide)
  have s3 := fun K => step (m + 1) 2 _ _ K q2 (by omega) (by decide)
  rw [show m + 3 + 1 = N by omega, e0] at s1
  rw [e1] at s2
  rw [e2] at s3
  rw [s1, s2, s3, stop]
  rw [show ((epAct (epAct (epAct e (2, 0, 0)) (2, 1, 0)) (2, 2, 0)).1, (epAct (epAct (epAct e (2, 0, 0)) (2, 1, 0)) (2, 2, 0)).2.1, (epAct (epAct (epAct e (2, 0, 0)) (2, 1, 0)) (2, 2, 0)).2.2.1, (epAct (epAct (epAct e (2, 0, 0)) (2, 1, 0)) (2, 2, 0)).2.2.2.1, (epAct (epAct (epAct e (2, 0, 0)) (2, 1, 0)) (2, 2, 0)).2.2.2.2.1, (epAct (epAct (epAct e (2, 0, 0)) (2, 1, 0)) (2, 2, 0)).2.2.2.2.2) = epAct (epAct (epAct e (2, 0, 0)) (2, 1, 0)) (2, 2, 0) from rfl]
  rw [implMove_run hN q3 (by omega)]
  simp only [Option.bind_some]
  rw [implMove_run hN q4 (by omega)]
  rfl

theorem specFlush_run (hN : 1048576 < N) (ha : acts.length ≤ 200) : T_spec_EpochFlush N acts = ret (epFlush (acts.foldl epAct ep0)) := by
  have hi : EpInv acts.length (acts.foldl epAct ep0) := by have := acts_inv acts 0 ep0 ep0_inv; rwa [Nat.zero_add] at this
  unfold T_spec_EpochFlush
  simp only [specPlay_run hN ha, ret, Option.bind_some]
  generalize acts.foldl epAct ep0 = e at hi
  have hc : (ilen e.2.1 == 0) = false := by unfold ilen; rw [hi.pl]; rfl
  rw [hc]
  simp only [cond_false]
  obtain ⟨m, hm⟩ : ∃ m, N = m + 4 := ⟨N - 4, by omega⟩
  have step : ∀ (n : Nat) (t : Int) (v : Eps) (k : Nat) (K : Int → Bool → Int → List Int → List Bool → List (Int × Int) → List (Int × Int) → List Int → Option (Unit × (Eps × Unit))), EpInv k v → k ≤ 1000 → t < 3 → T_spec_EpochFlush_lp0 N K (n + 1) t v.1 v.2.1 v.2.2.1 v.2.2.2.1 v.2.2.2.2.1 v.2.2.2.2.2 =
      T_spec_EpochFlush_lp0 N K n (iadd .i64 t 1) (epAct v (2, t, 0)).1 (epAct v (2, t, 0)).2.1 (epAct v (2, t, 0)).2.2.1 (epAct v (2, t, 0)).2.2.2.1 (epAct v (2, t, 0)).2.2.2.2.1 (epAct v (2, t, 0)).2.2.2.2.2 := fun n t v k K hv hk ht => by
    have e1 : decide (t < 3) = true := by simpa using ht
    simp only [T_spec_EpochFlush_lp0, e1, cond_true]
    rw [show (v.1, v.2.1, v.2.2.1, v.2.2.2.1, v.2.2.2.2.1, v.2.2.2.2.2) = v from rfl, specAct_run hN hv hk]
    rfl
  have stop : ∀ (n : Nat) (v : Eps) (K : Int → Bool → Int → List Int → List Bool → List (Int × Int) → List (Int × Int) → List Int → Option (Unit × (Eps × Unit))), T_spec_EpochFlush_lp0 N K (n + 1) 3 v.1 v.2.1 v.2.2.1 v.2.2.2.1 v.2.2.2.2.1 v.2.2.2.2.2 = K 3 false v.1 v.2.1 v.2.2.1 v.2.2.2.1 v.2.2.2.2.1 v.2.2.2.2.2 := fun n v K => rfl
  have e0 : iadd .i64 0 1 = 1 := by decide
  have e1 : iadd .i64 1 1 = 2 := by decide
  have e2 : iadd .i64 2 1 = 3 := by decide
  have q1 := act_inv (a := (2, 0, 0)) hi
  have q2 := act_inv (a := (2, 1, 0)) q1
  have q3 := act_inv (a := (2, 2, 0)) q2
  have q4 := move_inv q3
  have s1 := fun K => step (m + 3) 0 e _ K hi (by omega) (by decide)
  have s2 := fun K => step (m + 2) 1 _ _ K q1 (by omega) (by decide)
  have s3 := fun K => step (m + 1) 2 _ _ K q2 (by omega) (by decide)
  rw [show m + 3 + 1 = N by omega, e0] at s1
  rw [e1] at s2
  rw [e2] at s3
  rw [s1, s2, s3, stop]
  rw [show ((epAct (epAct (epAct e (2, 0, 0)) (2, 1, 0)) (2, 2, 0)).1, (epAct (epAct (epAct e (2, 0, 0)) (2, 1, 0)) (2, 2, 0)).2.1, (epAct (epAct (epAct e (2, 0, 0)) (2, 1, 0)) (2, 2, 0)).2.2.1, (epAct (epAct (epAct e (2, 0, 0)) (2, 1, 0)) (2, 2, 0)).2.2.2.1, (epAct (epAct (epAct e (2, 0, 0)) (2, 1, 0)) (2, 2, 0)).2.2.2.2.1, (epAct (epAct (epAct e (2, 0, 0)) (2, 1, 0)) (2, 2, 0)).2.2.2.2.2) = epAct (epAct (epAct e (2, 0, 0)) (2, 1, 0)) (2, 2, 0) from rfl]
  rw [specMove_run hN q3 (by omega)]
  simp only [ret, Option.bind_some]
  rw [specMove_run hN q4 (by omega)]
  rfl

theorem specFlushLong (ha : ¬ acts.length ≤ 200) : T_spec_EpochFlush N acts = ret (0, [], [], [], [], []) := by
  unfold T_spec_EpochFlush
  rw [(playLong (N := N) ha).2.1]
  rfl

/-- the marks hold -/
theorem marks_hold (hN : 1048576 < N) (h1 : e.2.1.length ≤ 100000) (h2 : e.2.2.1.length ≤ 100000) (h3 : e.2.2.2.1.length ≤ 100000) (h4 : e.2.2.2.2.1.length ≤ 100000) (h5 : e.2.2.2.2.2.length ≤ 100000) :
    ∃ m q, T_laws_markEpochs N e 1 = some ((m, ()), (q, ())) ∧ T_laws_heldEpochs N (e.1, m.2) 1 = ret q ∧ 0 ≤ q := by
  unfold T_laws_markEpochs
  rw [f_markIntS (by omega) hN (by omega) (by omega)]
  simp only [Option.bind_some]
  rw [f_markBoolS (by omega) hN (by omega) (by omega)]
  simp only [Option.bind_some]
  rw [f_markEpBagS (by omega) hN (by omega) (by omega)]
  simp only [Option.bind_some]
  rw [f_markEpHoldS (by omega) hN (by omega) (by omega)]
  simp only [Option.bind_some]
  rw [f_markIntS (by omega) hN (by omega) (by omega)]
  refine ⟨_, _, rfl, ?_, by simp only []; omega⟩
  unfold T_laws_heldEpochs
  simp only []
  rw [f_heldIntS (by omega) hN (by omega) (by omega)]
  have d : ∀ x : Int, 0 ≤ x → decide (x < 0) = false := fun x hx => by simpa using hx
  simp only [ret, Option.bind_some]
  rw [d _ (by omega), f_heldBoolS (by omega) hN (by omega) (by omega)]
  simp only [ret, Option.bind_some, cond_false]
  rw [d _ (by omega), f_heldEpBagS (by omega) hN (by omega) (by omega)]
  simp only [ret, Option.bind_some, cond_false]
  rw [d _ (by omega), f_heldEpHoldS (by omega) hN (by omega) (by omega)]
  simp only [ret, Option.bind_some, cond_false]
  rw [d _ (by omega), f_heldIntS (by omega) hN (by omega) (by omega)]
  simp only [ret, Option.bind_some, cond_false]
  rw [d _ (by omega)]
  rfl
end

abbrev TActs : Ty := .slice (.prod (.int .i64) (.prod (.int .i64) (.int .i64)))

theorem lens_of {k : Nat} {e : Eps} (h : EpInv k e) (hk : k ≤ 1000) : z_Epochs e ≤ 1048576 ∧ e.2.1.length ≤ 100000 ∧ e.2.2.1.length ≤ 100000 ∧ e.2.2.2.1.length ≤ 100000 ∧ e.2.2.2.2.1.length ≤ 100000 ∧ e.2.2.2.2.2.length ≤ 100000 := by
  have := h.pl; have := h.ln; have := h.sz
  unfold z_Epochs z_IntS z_BoolS z_EpBagS z_EpHoldS
  omega

theorem play_both {acts : List (Int × Int × Int)} {N : Nat} (hN : 1048576 < N) : ∃ r : Eps, T_impl_EpochPlay N acts = ret r ∧ T_spec_EpochPlay N acts = ret r ∧ z_Epochs r ≤ 1048576 ∧ r.2.1.length ≤ 100000 ∧ r.2.2.1.length ≤ 100000 ∧ r.2.2.2.1.length ≤ 100000 ∧ r.2.2.2.2.1.length ≤ 100000 ∧ r.2.2.2.2.2.length ≤ 100000 := by
  by_cases ha : acts.length ≤ 200
  · exact ⟨_, implPlay_run hN ha, specPlay_run hN ha, lens_of (acts_inv acts 0 ep0 ep0_inv) (by omega)⟩
  · exact ⟨_, (playLong ha).1, (playLong ha).2.1, by decide, by decide, by decide, by decide, by decide, by decide⟩

theorem flush_both {acts : List (Int × Int × Int)} {N : Nat} (hN : 1048576 < N) : ∃ r : Eps, T_impl_EpochFlush N acts = ret r ∧ T_spec_EpochFlush N acts = ret r ∧ z_Epochs r ≤ 1048576 ∧ r.2.1.length ≤ 100000 ∧ r.2.2.1.length ≤ 100000 ∧ r.2.2.2.1.length ≤ 100000 ∧ r.2.2.2.2.1.length ≤ 100000 ∧ r.2.2.2.2.2.length ≤ 100000 := by
  by_cases ha : acts.length ≤ 200
  · exact ⟨_, implFlush_run hN ha, specFlush_run hN ha, lens_of (flush_inv (acts_inv acts 0 ep0 ep0_inv)) (by omega)⟩
  · exact ⟨_, (playLong ha).2.2, specFlushLong ha, by decide, by decide, by decide, by decide, by decide, by decide⟩

theorem law_EpochPlay {acts : List (Int × Int × Int)} (hw : Wfd TActs acts) : T_laws_FnExactEpochPlay 1048577 acts = ret true := by
  have hN : 1048576 < 1048577 := by omega
  generalize 1048577 = N at hN
  unfold T_laws_FnExactEpochPlay
  rw [f_szEpActS hN (by omega) (by omega) hw]
  simp only [ret, Option.bind_some]
  by_cases h : (1048576 : Int) < (z_EpActS acts : Int)
  · rw [if_pos h]; rfl
  · have e1 : decide ((1048576 - (z_EpActS acts : Int)) < 0) = false := by simp; omega
    rw [if_neg h, e1]
    have h2 : z_EpActS acts ≤ 1048576 := by omega
    obtain ⟨r, hr1, hr2, hz, l1, l2, l3, l4, l5⟩ := play_both (acts := acts) hN
    obtain ⟨m, q, hm, hh, hq⟩ := marks_hold (e := r) hN l1 l2 l3 l4 l5
    have hq1 : decide (q < 0) = false := by simpa using hq
    have hq2 : (q != q) = false := by simp
    have hk : decide ((1 : Int) + ((3 * acts.length : Nat) : Int) < 0) = false := by simp; omega
    simp only [cond_false, f_toEpActS h2 hN, ret, Option.bind_some, hr1, hr2, f_eqEpochs hz hN, f_eqEpActS h2 hN, f_markEpActS (k := 1) (show acts.length ≤ 1048576 from h2) hN (by omega) (by omega), hm, hh, hq1, hq2, hk, same_self, Bool.not_true]

theorem law_EpochFlush {acts : List (Int × Int × Int)} (hw : Wfd TActs acts) : T_laws_FnExactEpochFlush 1048577 acts = ret true := by
  have hN : 1048576 < 1048577 := by omega
  generalize 1048577 = N at hN
  unfold T_laws_FnExactEpochFlush
  rw [f_szEpActS hN (by omega) (by omega) hw]
  simp only [ret, Option.bind_some]
  by_cases h : (1048576 : Int) < (z_EpActS acts : Int)
  · rw [if_pos h]; rfl
  · have e1 : decide ((1048576 - (z_EpActS acts : Int)) < 0) = false := by simp; omega
    rw [if_neg h, e1]
    have h2 : z_EpActS acts ≤ 1048576 := by omega
    obtain ⟨r, hr1, hr2, hz, l1, l2, l3, l4, l5⟩ := flush_both (acts := acts) hN
    obtain ⟨m, q, hm, hh, hq⟩ := marks_hold (e := r) hN l1 l2 l3 l4 l5
    have hq1 : decide (q < 0) = false := by simpa using hq
    have hq2 : (q != q) = false := by simp
    have hk : decide ((1 : Int) + ((3 * acts.length : Nat) : Int) < 0) = false := by simp; omega
    simp only [cond_false, f_toEpActS h2 hN, ret, Option.bind_some, hr1, hr2, f_eqEpochs hz hN, f_eqEpActS h2 hN, f_markEpActS (k := 1) (show acts.length ≤ 1048576 from h2) hN (by omega) (by omega), hm, hh, hq1, hq2, hk, same_self, Bool.not_true]

theorem law_FnExactEpochPlay (d : PDen [.v TActs false]) (hw : WfArgs [.v TActs false] d) : ∃ N o, T_laws_FnExactEpochPlay N d.1 = some (o, (true, ())) := ⟨1048577, (), law_EpochPlay hw.1⟩
theorem law_FnExactEpochFlush (d : PDen [.v TActs false]) (hw : WfArgs [.v TActs false] d) : ∃ N o, T_laws_FnExactEpochFlush N d.1 = some (o, (true, ())) := ⟨1048577, (), law_EpochFlush hw.1⟩
end Go.Sx
