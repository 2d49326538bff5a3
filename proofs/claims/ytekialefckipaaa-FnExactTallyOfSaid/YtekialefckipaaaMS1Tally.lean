/- Plain laws of the Lean functions. -/
import Derived.Test.YtekialefckipaaaMFrWorld
/- Plain law: the tally of a world. -/
namespace Go.Sx
set_option linter.unusedVariables false
set_option linter.unusedSimpArgs false

theorem both_self {α : Type} (a : Option α) : both a a = a := by unfold both; simp

def tlE (e : Int) (r : Y_Root) : Int := bif decide (1 ≤ r.2.1) && decide (r.2.1 ≤ 400) then iadd .i64 e r.2.1 else e
def tlS (v : Int × Int × Int × Int × Int) (r : Y_Root) : Int × Int × Int × Int × Int :=
  bif r.1 == 0 then (iadd .i64 v.1 1, v.2.1, v.2.2.1, v.2.2.2.1, tlE v.2.2.2.2 r)
  else bif r.1 != 8 then (v.1, iadd .i64 v.2.1 1, v.2.2.1, v.2.2.2.1, tlE v.2.2.2.2 r)
  else bif r.2.2.2.2.2.2.2.1 == 1 then (v.1, v.2.1, iadd .i64 v.2.2.1 1, v.2.2.2.1, tlE v.2.2.2.2 r)
  else (v.1, v.2.1, v.2.2.1, iadd .i64 v.2.2.2.1 1, tlE v.2.2.2.2 r)
def tlI (v : Int × Int × Int × Int) (r : Y_Root) : Int × Int × Int × Int :=
  bif r.1 == 0 then (iadd .i64 v.1 1, v.2.1, v.2.2.1, tlE v.2.2.2 r)
  else bif r.1 != 8 then (v.1, v.2.1, v.2.2.1, tlE v.2.2.2 r)
  else bif r.2.2.2.2.2.2.2.1 == 1 then (v.1, iadd .i64 v.2.1 1, v.2.2.1, tlE v.2.2.2 r)
  else (v.1, v.2.1, iadd .i64 v.2.2.1 1, tlE v.2.2.2 r)
def isLive (r : Y_Root) : Bool := r.1 != 0 && r.1 != 8

theorem tl_eq : ∀ (rs : List Y_Root) (a b c d e : Int), 0 ≤ b → b + rs.length ≤ 4611686018427387904 →
    rs.foldl tlS (a, b, c, d, e) = ((rs.foldl tlI (a, c, d, e)).1, b + rs.countP isLive, (rs.foldl tlI (a, c, d, e)).2.1, (rs.foldl tlI (a, c, d, e)).2.2.1, (rs.foldl tlI (a, c, d, e)).2.2.2)
  | [], a, b, c, d, e, _, _ => by simp
  | r :: rs, a, b, c, d, e, h0, h1 => by
    simp only [List.length_cons] at h1
    rw [List.foldl_cons, List.foldl_cons, List.countP_cons]
    unfold tlS tlI isLive
    cases hz : r.1 == 0
    · have hz2 : (r.1 != 0) = true := by simpa [bne] using hz
      cases h8 : r.1 != 8
      · simp only [cond_false, hz2, Bool.and_false]
        cases r.2.2.2.2.2.2.2.1 == 1
        · simp only [cond_false]
          have := tl_eq rs a b c (iadd .i64 d 1) (tlE e r) h0 (by omega)
          unfold tlS tlI isLive at this
          simpa [-List.foldl_cons] using this
        · simp only [cond_true]
          have := tl_eq rs a b (iadd .i64 c 1) d (tlE e r) h0 (by omega)
          unfold tlS tlI isLive at this
          simpa [-List.foldl_cons] using this
      · simp only [cond_false, cond_true, hz2, Bool.and_true]
        have e1 : iadd .i64 b 1 = b + 1 := iadd_eq (by unfold I64; omega)
        rw [e1]
        have := tl_eq rs a (b + 1) c d (tlE e r) (by omega) (by push_cast at h1 ⊢; omega)
        unfold tlS tlI isLive at this
        rw [this]
        simp only [if_true]
        rw [show b + 1 + (List.countP (fun r : Y_Root => r.1 != 0 && r.1 != 8) rs : Int) = b + ((List.countP (fun r : Y_Root => r.1 != 0 && r.1 != 8) rs + 1 : Nat) : Int) by push_cast; omega]
    · have hz2 : (r.1 != 0) = false := by simpa [bne] using hz
      simp only [cond_true, hz2, Bool.false_and]
      have := tl_eq rs (iadd .i64 a 1) b c d (tlE e r) h0 (by omega)
      unfold tlS tlI isLive at this
      simpa [-List.foldl_cons] using this

theorem live_lp {N : Nat} {rs : List Y_Root} (hr : rs.length ≤ 1048576) : ∀ (n j : Nat) (l : List Int), j ≤ rs.length → rs.length - j < n → l.length ≤ j →
    ∃ l' : List Int, l'.length = l.length + (rs.drop j).countP isLive ∧ ∀ {R : Type} (K : Int → Bool → List Int → Option R), T_impl_Live_lp0 N rs (ilen rs) K n (j : Int) l = K rs.length false l'
  | 0, j, l, _, h, _ => by omega
  | n + 1, j, l, h1, h2, h3 => by
    by_cases hj : j < rs.length
    · rw [List.drop_eq_getElem_cons hj, List.countP_cons, show isLive rs[j] = (rs[j].1 != 0 && rs[j].1 != 8) from rfl]
      have hroom : room (l.length + [(j : Int)].length) = true := by unfold room; simp; omega
      by_cases ha : rs[j].1 = 0
      · obtain ⟨l', e1, e2⟩ := live_lp hr n (j + 1) l hj (by omega) (by omega)
        refine ⟨l', by simpa [ha] using e1, fun K => ?_⟩
        have e3 : (rs[j].1 != 0) = false := by simp [ha]
        simp only [T_impl_Live_lp0, ix_lt hj, ix_inb hj, ix_get hj, cond_true, e3, cond_false, ix_succ (show j < 4611686018427387904 by omega)]
        exact e2 K
      · have e3 : (rs[j].1 != 0) = true := by simp [ha]
        by_cases hb : rs[j].1 = 8
        · obtain ⟨l', e1, e2⟩ := live_lp hr n (j + 1) l hj (by omega) (by omega)
          refine ⟨l', by simpa [hb] using e1, fun K => ?_⟩
          have e4 : (rs[j].1 != 8) = false := by simp [hb]
          simp only [T_impl_Live_lp0, ix_lt hj, ix_inb hj, ix_get hj, cond_true, e3, e4, cond_false, ix_succ (show j < 4611686018427387904 by omega)]
          exact e2 K
        · have e4 : (rs[j].1 != 8) = true := by simp [hb]
          obtain ⟨l', e1, e2⟩ := live_lp hr n (j + 1) (l ++ [(j : Int)]) hj (by omega) (by simp; omega)
          refine ⟨l', ?_, fun K => ?_⟩
          · rw [e1, e3, e4]
            simp
            omega
          · simp only [T_impl_Live_lp0, ix_lt hj, ix_inb hj, ix_get hj, cond_true, e3, e4, hroom, ix_succ (show j < 4611686018427387904 by omega)]
            exact e2 K
    · have e : j = rs.length := by omega
      subst e
      refine ⟨l, by simp, fun K => ?_⟩
      simp only [T_impl_Live_lp0, ix_ge (Nat.le_refl rs.length), cond_false]

theorem live_run {N : Nat} {w : Y_World} (hr : w.2.2.2.2.2.1.length ≤ 1048576) (hN : 1048576 < N) : ∃ l : List Int, l.length = w.2.2.2.2.2.1.countP isLive ∧ T_impl_Live N w = ret l := by
  obtain ⟨l, h1, h2⟩ := live_lp (N := N) hr N 0 [] (Nat.zero_le _) (by omega) (Nat.le_refl _)
  exact ⟨l, by simpa using h1, h2 _⟩

theorem memlp_eq {N : Nat} {w : Y_World} {a b c d e b' c' d' e' f' g' : Int} {R : Type} {K0 : Int → Bool → Int → Option R} : ∀ n i v, T_spec_TallyOf_lp1 N w a b c d e K0 n i v = T_impl_TallyOf_lp1 N w.2.2.1.2 (ilen w.2.2.1.2) b' c' d' e' f' g' K0 n i v
  | 0, _, _ => rfl
  | n + 1, i, v => by
    unfold T_spec_TallyOf_lp1 T_impl_TallyOf_lp1
    simp only [memlp_eq (N := N) (w := w) (a := a) (b := b) (c := c) (d := d) (e := e) (b' := b') (c' := c') (d' := d') (e' := e') (f' := f') (g' := g') (K0 := K0) n]

theorem memlp_run {N : Nat} {w : Y_World} (hm : w.2.2.1.2.length ≤ 1048576) (hN : 1048576 < N) : ∃ v : Int, ∀ {a b c d e : Int} {R : Type} (K0 : Int → Bool → Int → Option R), T_spec_TallyOf_lp1 N w a b c d e K0 N 0 0 = K0 w.2.2.1.2.length false v := by
  refine ⟨w.2.2.1.2.foldl (fun v x => bif x.2.2 != 0 then iadd .i64 v 1 else v) 0, fun {a b c d e R} K0 => ?_⟩
  have h1 := loop_ix0 (l := w.2.2.1.2) (V := Int) (R := R) (lp := fun n j v => T_spec_TallyOf_lp1 N w a b c d e K0 n j v) (n := N) (by omega)
    (body := fun j x v k => k (bif x.2.2 != 0 then iadd .i64 v 1 else v)) (K := fun j v => K0 j false v)
    (fun n i v hi => by
      simp only [T_spec_TallyOf_lp1, ix_lt hi, ix_inb hi, ix_get hi, ix_succ (show i < 4611686018427387904 by omega), cond_true]
      cases w.2.2.1.2[i].2.2 != 0 <;> rfl)
    (fun n v => by simp only [T_spec_TallyOf_lp1, ix_ge (Nat.le_refl w.2.2.1.2.length), cond_false]) 0
  refine h1.trans ?_
  rw [foldK_fold (f := fun v x => bif x.2.2 != 0 then iadd .i64 v 1 else v) _ 0 _ (fun j x v k _ => rfl), Nat.zero_add]

theorem specLp_run {N : Nat} {w : Y_World} (hr : w.2.2.2.2.2.1.length ≤ 1048576) (hN : 1048576 < N) {R : Type} (K0 : Int → Bool → Int → Int → Int → Int → Int → Option R) :
    T_spec_TallyOf_lp0 N w K0 N 0 0 0 0 0 0 = (fun v => K0 w.2.2.2.2.2.1.length false v.1 v.2.1 v.2.2.1 v.2.2.2.1 v.2.2.2.2) (w.2.2.2.2.2.1.foldl tlS (0, 0, 0, 0, 0)) := by
  have h1 := loop_ix0 (l := w.2.2.2.2.2.1) (V := Int × Int × Int × Int × Int) (R := R) (lp := fun n j v => T_spec_TallyOf_lp0 N w K0 n j v.1 v.2.1 v.2.2.1 v.2.2.2.1 v.2.2.2.2) (n := N) (by omega)
    (body := fun j x v k => k (tlS v x)) (K := fun j v => K0 j false v.1 v.2.1 v.2.2.1 v.2.2.2.1 v.2.2.2.2)
    (fun n i v hi => by
      simp only [T_spec_TallyOf_lp0, ix_lt hi, ix_inb hi, ix_get hi, ix_succ (show i < 4611686018427387904 by omega), cond_true, in_eq, ret, Option.bind_some]
      unfold tlS tlE
      cases w.2.2.2.2.2.1[i].1 == 0 <;> cases w.2.2.2.2.2.1[i].1 != 8 <;> cases w.2.2.2.2.2.1[i].2.2.2.2.2.2.2.1 == 1 <;> cases decide (1 ≤ w.2.2.2.2.2.1[i].2.1) && decide (w.2.2.2.2.2.1[i].2.1 ≤ 400) <;> rfl)
    (fun n v => by simp only [T_spec_TallyOf_lp0, ix_ge (Nat.le_refl w.2.2.2.2.2.1.length), cond_false]) (0, 0, 0, 0, 0)
  refine h1.trans ?_
  rw [foldK_fold (f := tlS) _ 0 _ (fun j x v k _ => rfl), Nat.zero_add]

theorem implLp_run {N : Nat} {w : Y_World} {b : Int} (hr : w.2.2.2.2.2.1.length ≤ 1048576) (hN : 1048576 < N) {R : Type} (K0 : Int → Bool → Int → Int → Int → Int → Option R) :
    T_impl_TallyOf_lp0 N w.2.2.2.2.2.1 w b K0 N 0 0 0 0 0 = (fun v => K0 w.2.2.2.2.2.1.length false v.1 v.2.1 v.2.2.1 v.2.2.2) (w.2.2.2.2.2.1.foldl tlI (0, 0, 0, 0)) := by
  have h1 := loop_ix0 (l := w.2.2.2.2.2.1) (V := Int × Int × Int × Int) (R := R) (lp := fun n j v => T_impl_TallyOf_lp0 N w.2.2.2.2.2.1 w b K0 n j v.1 v.2.1 v.2.2.1 v.2.2.2) (n := N) (by omega)
    (body := fun j x v k => k (tlI v x)) (K := fun j v => K0 j false v.1 v.2.1 v.2.2.1 v.2.2.2)
    (fun n i v hi => by
      simp only [T_impl_TallyOf_lp0, ix_lt hi, ix_inb hi, ix_get hi, ix_succ (show i < 4611686018427387904 by omega), cond_true, within_eq, ret, Option.bind_some]
      unfold tlI tlE bne
      cases w.2.2.2.2.2.1[i].1 == 0 <;> cases w.2.2.2.2.2.1[i].1 == 8 <;> cases w.2.2.2.2.2.1[i].2.2.2.2.2.2.2.1 == 1 <;> cases decide (1 ≤ w.2.2.2.2.2.1[i].2.1) && decide (w.2.2.2.2.2.1[i].2.1 ≤ 400) <;> rfl)
    (fun n v => by simp only [T_impl_TallyOf_lp0, ix_ge (Nat.le_refl w.2.2.2.2.2.1.length), cond_false]) (0, 0, 0, 0)
  refine h1.trans ?_
  rw [foldK_fold (f := tlI) _ 0 _ (fun j x v k _ => rfl), Nat.zero_add]

theorem tally_eq {N : Nat} {w : Y_World} (h : z_World w ≤ 1048576) (hN : 1048576 < N) : ∃ r, T_spec_TallyOf N w = ret r ∧ T_impl_TallyOf N w = ret r := by
  have hr : w.2.2.2.2.2.1.length ≤ 1048576 := by
    have := z_RootS_len (l := w.2.2.2.2.2.1)
    unfold z_World at h; omega
  have hm : w.2.2.1.2.length ≤ 1048576 := by
    have : w.2.2.1.2.length = z_Mem w.2.2.1 := rfl
    unfold z_World at h; omega
  obtain ⟨l, h1, h2⟩ := live_run hr hN
  obtain ⟨v, hv⟩ := memlp_run hm hN
  unfold T_spec_TallyOf T_impl_TallyOf
  rw [both_self, h2, specLp_run hr hN, tl_eq _ _ _ _ _ _ (by omega) (by omega)]
  simp only [ret, Option.bind_some]
  rw [implLp_run hr hN]
  simp only [← memlp_eq (w := w) (a := 0) (b := 0) (c := 0) (d := 0) (e := 0), hv]
  refine ⟨_, rfl, ?_⟩
  have : ilen l = (0 : Int) + (w.2.2.2.2.2.1.countP isLive : Int) := by rw [ilen, h1]; omega
  rw [this]

theorem law_TallyOf {w : Y_World} (hw : Wfd TY_World w) : T_laws_FnExactTallyOf 1048577 w = ret true := by
  unfold T_laws_FnExactTallyOf
  rw [f_szWorld (by omega) (by omega) (by omega) hw]
  simp only [ret, Option.bind_some]
  by_cases h : (1048576 : Int) < (z_World w : Int)
  · rw [if_pos h]; rfl
  · have e1 : decide ((1048576 - (z_World w : Int)) < 0) = false := by simp; omega
    rw [if_neg h, e1]
    have h2 : z_World w ≤ 1048576 := by omega
    have hN : 1048576 < 1048577 := by omega
    obtain ⟨r, h3, h4⟩ := tally_eq h2 hN
    simp only [cond_false, f_toWorld h2 hN, ret, Option.bind_some, h3, h4, f_eqTally hN, f_eqWorld h2 hN, same_self, Bool.not_true]

theorem law_FnExactTallyOf (d : PDen [.v TY_World true]) (hw : WfArgs [.v TY_World true] d) : ∃ N o, T_laws_FnExactTallyOf N d.1 = some (o, (true, ())) := ⟨1048577, (), law_TallyOf hw.1⟩
end Go.Sx
