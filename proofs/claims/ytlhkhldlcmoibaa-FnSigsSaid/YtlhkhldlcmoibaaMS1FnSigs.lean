/- Plain laws of the Lean functions. -/
import Derived.Test.YtlhkhldlcmoibaaMS1Cur
/- Plain law: signatures of drawn lists. -/
namespace Go.Sx
set_option linter.unusedVariables false
set_option linter.unusedSimpArgs false

theorem num_draw {N : Nat} {c : Cur} (h : CurOk c) : Draws I64 (T_spec_l27Num N c) := by
  unfold T_spec_l27Num
  obtain ⟨c1, v, e1, hc, _⟩ := once_draw (N := N) (n := 8) h
  rw [e1]
  simp only [Option.bind_some]
  cases v
  · obtain ⟨c2, v, e2, hc2, hv⟩ := below_draw (N := N) (n := 200) hc
    simp only [cond_false, e2, Option.bind_some]
    have := hv.2 (by omega)
    exact ⟨_, _, rfl, hc2, by unfold I64; omega⟩
  · obtain ⟨c2, v, e2, hc2, hv⟩ := pick_draw (N := N) (l := [(-1 : Int), (9223372036854775807 : Int), (-9223372036854775808 : Int), (899 : Int), (60 : Int), (0 : Int)]) hc (by decide) (by decide)
    simp only [cond_true, e2, Option.bind_some]
    refine ⟨_, _, rfl, hc2, ?_⟩
    simp only [List.mem_cons, List.not_mem_nil, or_false] at hv
    unfold I64
    omega

theorem list_lp {N : Nat} {R : Type} {K0 : Int → Bool → Cur → List Int → Option R} : ∀ (n q : Nat) (c : Cur) (l : List Int), CurOk c → (∀ x ∈ l, I64 x) → q < n → l.length + q ≤ 1000 →
    ∃ c' l', CurOk c' ∧ (∀ x ∈ l', I64 x) ∧ l'.length = l.length + q ∧ ∀ {R : Type} (K0 : Int → Bool → Cur → List Int → Option R), T_spec_l27List_lp0 N K0 n (q : Int) c l = K0 0 false c' l'
  | 0, q, c, l, _, _, h, _ => by omega
  | n + 1, 0, c, l, hc, hl, _, _ => ⟨c, l, hc, hl, rfl, fun K0 => rfl⟩
  | n + 1, q + 1, c, l, hc, hl, hn, hq => by
    obtain ⟨c1, v, e1, hc1, hv⟩ := num_draw (N := N) hc
    obtain ⟨c', l', h1, h2, h3, h4⟩ := list_lp (N := N) (R := R) (K0 := K0) n q c1 (l ++ [v]) hc1 (by
      intro x hx
      rcases List.mem_append.1 hx with h | h
      · exact hl x h
      · rw [List.mem_singleton.1 h]; exact hv) (by omega) (by simp; omega)
    refine ⟨c', l', h1, h2, by rw [h3]; simp; try omega, fun K0 => ?_⟩
    have ed : decide (((q + 1 : Nat) : Int) > 0) = true := by simp
    have er : room (l.length + [v].length) = true := by unfold room; simp; omega
    have es : isub .i64 ((q + 1 : Nat) : Int) 1 = (q : Int) := by rw [isub_eq (by unfold I64; omega)]; omega
    simp only [T_spec_l27List_lp0, ed, e1, Option.bind_some, er, es, cond_true]
    exact h4 K0

theorem list_draw {N : Nat} {c : Cur} (h : CurOk c) (hN : 1048576 < N) : Draws (fun l : List Int => l.length ≤ 5 ∧ ∀ x ∈ l, I64 x) (T_spec_l27List N c) := by
  unfold T_spec_l27List
  obtain ⟨c1, v, e1, hc, hv⟩ := below_draw (N := N) (n := 6) h
  rw [e1]
  simp only [Option.bind_some]
  have hv := hv.2 (by omega)
  obtain ⟨q, rfl⟩ := Int.eq_ofNat_of_zero_le hv.1
  obtain ⟨c', l', h1, h2, h3, h4⟩ := list_lp (N := N) (R := Unit) (K0 := fun _ _ _ _ => none) N q c1 [] hc (by simp) (by omega) (by simp; omega)
  exact ⟨c', l', h4 _, h1, by simp at h3; omega, h2⟩

/-! the bits of a list's signature -/
theorem orS_low {l : List Int} {x : Int} (h : x ∈ l) : (orS l).testBit (modn x 29) = true := by
  rw [orS_bit, List.any_eq_true]
  exact ⟨x, h, by rw [sig1_bit]; simp⟩
theorem orS_high {l : List Int} {x : Int} (h : x ∈ l) : (orS l).testBit (29 + modn x 31) = true := by
  rw [orS_bit, List.any_eq_true]
  exact ⟨x, h, by rw [sig1_bit]; simp⟩

theorem orS_I64 (l : List Int) : I64 (orS l : Int) := by
  have := orS_lt l
  exact natI64 (by omega)

theorem has_run {N : Nat} {l : List Int} {x : Int} (hx : I64 x) (h : x ∈ l) : T_impl_SigHas N (orS l : Int) x = ret true := by
  rw [implHas_run (orS_I64 l) hx, bitS_nat, bitS_nat, orS_low h, orS_high h]
  rfl

theorem cntB_or (f g : Nat → Bool) : ∀ n, cntB (fun k => f k || g k) n ≤ cntB f n + cntB g n
  | 0 => Nat.le_refl _
  | n + 1 => by
    have := cntB_or f g n
    simp only [cntB]
    cases f n <;> cases g n <;> simp <;> omega

theorem cntB_one (p : Nat) : ∀ n, cntB (fun k => decide (k = p)) n ≤ (if p < n then 1 else 0)
  | 0 => Nat.le_refl _
  | n + 1 => by
    have := cntB_one p n
    simp only [cntB]
    by_cases h : n = p
    · subst h
      simp at this ⊢
      omega
    · simp [h]
      by_cases h2 : p < n
      · rw [if_pos h2] at this; rw [if_pos (by omega)]; exact this
      · rw [if_neg h2] at this; rw [if_neg (by omega)]; exact this

theorem cntB_pos (f : Nat → Bool) (k : Nat) (hf : f k = true) : ∀ n, k < n → 0 < cntB f n
  | 0, h => by omega
  | n + 1, h => by
    simp only [cntB]
    by_cases hk : k = n
    · subst hk; rw [hf]; simp
    · have := cntB_pos f k hf n (by omega); omega

theorem cnt_orS : ∀ l : List Int, cntB (fun k => (orS l).testBit k) 60 ≤ 2 * l.length
  | [] => by
    have : cntB (fun k => (orS []).testBit k) 60 = 0 := cntB_zero 60
    omega
  | x :: l => by
    have h1 : cntB (fun k => (orS (x :: l)).testBit k) 60 = cntB (fun k => (decide (k = modn x 29) || decide (k = 29 + modn x 31)) || (orS l).testBit k) 60 :=
      cntB_congr 60 fun k _ => by rw [orS, Nat.testBit_or, sig1_bit]
    rw [h1]
    have h2 := cntB_or (fun k => (decide (k = modn x 29) || decide (k = 29 + modn x 31))) (fun k => (orS l).testBit k) 60
    have h3 := cntB_or (fun k => decide (k = modn x 29)) (fun k => decide (k = 29 + modn x 31)) 60
    have h4 := cntB_one (modn x 29) 60
    have h5 := cntB_one (29 + modn x 31) 60
    have h6 : (if modn x 29 < 60 then 1 else 0) ≤ 1 := by split <;> omega
    have h7 : (if 29 + modn x 31 < 60 then 1 else 0) ≤ 1 := by split <;> omega
    have h8 := cnt_orS l
    simp only [List.length_cons]
    omega

theorem may_self {a b : List Int} (h : common a b = true) : (anyB (fun j => decide (j < 29) && (bitS (orS a : Int) j && bitS (orS b : Int) j)) 60 && anyB (fun j => decide (29 ≤ j) && (bitS (orS a : Int) j && bitS (orS b : Int) j)) 60) = true := by
  unfold common at h
  obtain ⟨x, hx, hy⟩ := List.any_eq_true.1 h
  obtain ⟨y, hy, hxy⟩ := List.any_eq_true.1 hy
  have : x = y := by simpa using hxy
  subst this
  have h1 := modn_lt x (n := 29) (by omega)
  have h2 := modn_lt x (n := 31) (by omega)
  rw [Bool.and_eq_true, anyB_iff, anyB_iff]
  refine ⟨⟨modn x 29, by omega, ?_⟩, ⟨29 + modn x 31, by omega, ?_⟩⟩
  · rw [bitS_nat, bitS_nat, orS_low hx, orS_low hy]; simp; omega
  · rw [bitS_nat, bitS_nat, orS_high hx, orS_high hy]; simp

theorem may_comm (s t : Int) : (anyB (fun j => decide (j < 29) && (bitS s j && bitS t j)) 60 && anyB (fun j => decide (29 ≤ j) && (bitS s j && bitS t j)) 60) = (anyB (fun j => decide (j < 29) && (bitS t j && bitS s j)) 60 && anyB (fun j => decide (29 ≤ j) && (bitS t j && bitS s j)) 60) := by
  have h1 : (fun j => decide (j < 29) && (bitS s j && bitS t j)) = (fun j => decide (j < 29) && (bitS t j && bitS s j)) := by funext j; rw [Bool.and_comm (bitS s j)]
  have h2 : (fun j => decide (29 ≤ j) && (bitS s j && bitS t j)) = (fun j => decide (29 ≤ j) && (bitS t j && bitS s j)) := by funext j; rw [Bool.and_comm (bitS s j)]
  rw [h1, h2]

theorem sigs_lp {N : Nat} {a b : List Int} {s t : Int} (ha : a.length ≤ 5) (hb : b.length ≤ 5) (hxa : ∀ x ∈ a, I64 x) (hxb : ∀ x ∈ b, I64 x) (hN : 1048576 < N) {R : Type} (K0 : Option R) (K1 : Int → Bool → Option R) (hs : s = orS a) :
    T_laws_FnSigs_lp0 N s t a b K0 K1 N 0 = K1 a.length false := by
  have h1 := loop_ix0 (l := a) (V := Unit) (R := R) (lp := fun n j v => T_laws_FnSigs_lp0 N s t a b K0 K1 n j) (n := N) (by omega)
    (body := fun j x v k => k v) (K := fun j v => K1 j false)
    (fun n i v hi => by
      have hx : a[i] ∈ a := List.getElem_mem hi
      have r1 : room (([] : List Int).length + b.length) = true := by unfold room; simp; omega
      have r2 : room ((List.append ([] : List Int) b).length + a.length) = true := by unfold room; simp; omega
      have e1 : List.append (List.append ([] : List Int) b) a = b ++ a := rfl
      have e2 := implOf_run (N := N) (l := b ++ a) (by simp; omega) hN (by
        intro x hx
        rcases List.mem_append.1 hx with h | h
        · exact hxb x h
        · exact hxa x h)
      have e3 : T_impl_SigHas N s a[i] = ret true := by rw [hs]; exact has_run (hxa _ hx) hx
      have e4 : T_impl_SigHas N (orS (b ++ a) : Int) a[i] = ret true := has_run (hxa _ hx) (List.mem_append.2 (.inr hx))
      simp only [T_laws_FnSigs_lp0, ix_lt hi, ix_inb hi, ix_get hi, ix_succ (show i < 4611686018427387904 by omega), cond_true, e3, ret, Option.bind_some, r1, r2, e1, e2, e4, Bool.not_true, cond_false])
    (fun n v => by simp only [T_laws_FnSigs_lp0, ix_ge (Nat.le_refl a.length), cond_false]) ()
  refine h1.trans ?_
  rw [foldK_fold (f := fun v _ => v) a 0 () (fun j x v k _ => rfl), Nat.zero_add]

theorem law_FnSigs' {N : Nat} {code : List Int} (hN : 1048576 < N) (h : code.length ≤ 9223372036854775807) : T_laws_FnSigs N code = ret true := by
  unfold T_laws_FnSigs T_laws_big
  simp only [ret, Option.bind_some]
  by_cases hc : 1048576 < code.length
  · have e : decide (ilen code > 1048576) = true := by simp [ilen]; omega
    rw [e]; rfl
  · have e : decide (ilen code > 1048576) = false := by simp [ilen]; omega
    rw [e]
    obtain ⟨c, hc0, e0⟩ := new_draw (N := N) (code := code) (by omega) hN
    obtain ⟨c1, a, e1, hc1, ha, hxa⟩ := list_draw hc0 hN
    obtain ⟨c2, b, e2, hc2, hb, hxb⟩ := list_draw hc1 hN
    unfold T_spec_DrawSigSets
    simp only [cond_false, e0, ret, Option.bind_some, e1, e2]
    rw [implOf_run (by omega) hN hxa, implOf_run (by omega) hN hxb]
    simp only [ret, Option.bind_some]
    rw [sigs_lp ha hb hxa hxb hN _ _ rfl, implSets_run (by omega) (by omega) hN, specSets_run (by omega) (by omega) hN]
    simp only [ret, Option.bind_some, implMay_run (orS_I64 a) (orS_I64 b), implMay_run (orS_I64 b) (orS_I64 a), may_comm (orS b : Int) (orS a : Int), implCnt_run (N := N) (by omega) (orS_I64 a)]
    have hcnt : cntB (bitS (orS a : Int)) 60 ≤ 2 * a.length := cnt_orS a
    have m : imul .i64 2 (ilen a) = 2 * (a.length : Int) := imul_eq (by unfold I64 ilen; omega)
    have d1 : decide (((cntB (bitS (orS a : Int)) 60 : Nat) : Int) ≤ imul .i64 2 (ilen a)) = true := by rw [m]; simp; omega
    have d2 : beq ((ilen a) == (0 : Int)) (((cntB (bitS (orS a : Int)) 60 : Nat) : Int) == (0 : Int)) = true := by
      cases a with
      | nil =>
        have : cntB (bitS (orS [] : Int)) 60 = 0 := cntB_zero 60
        rw [this]; rfl
      | cons x l =>
        have h1 := modn_lt x (n := 29) (by omega)
        have : 0 < cntB (bitS (orS (x :: l) : Int)) 60 := cntB_pos _ (modn x 29) (by rw [bitS_nat]; exact orS_low (List.mem_cons_self ..)) 60 (by omega)
        have e3 : ((ilen (x :: l)) == (0 : Int)) = false := by simp [ilen]; omega
        have e4 : ((cntB (bitS (orS (x :: l) : Int)) 60 : Int) == (0 : Int)) = false := by simp; omega
        rw [e3, e4]; rfl
    rw [d1, d2]
    have b1 : ∀ x : Bool, beq x x = true := fun x => by cases x <;> rfl
    simp only [b1, Bool.not_true, cond_false, cond_true]
    cases hcm : common a b
    · rfl
    · rw [may_self hcm]; rfl

theorem law_FnSigs (d : PDen [.v (.slice (.int .u8)) false]) (hw : WfArgs [.v (.slice (.int .u8)) false] d) : ∃ N o, T_laws_FnSigs N d.1 = some (o, (true, ())) :=
  ⟨1048577, (), law_FnSigs' (by omega) (Nat.le_trans hw.1.1 (by decide))⟩
end Go.Sx
