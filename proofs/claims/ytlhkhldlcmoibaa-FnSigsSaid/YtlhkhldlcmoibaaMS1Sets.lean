/- Plain laws of the Lean functions. -/
import Derived.Test.YtlhkhldlcmoibaaMS1Fr
/- Plain law: the signature of a list; whether two lists have an element in common. -/
namespace Go.Sx
set_option linter.unusedVariables false
set_option linter.unusedSimpArgs false

/-- does an element of the first stand in the second? -/
def common (a b : List Int) : Bool := a.any fun x => b.any fun y => x == y

theorem specSets_run {N : Nat} {a b : List Int} (ha : a.length ≤ 1048576) (hb : b.length ≤ 1048576) (hN : 1048576 < N) : T_spec_SigSets N a b = ret (common a b) := by
  unfold T_spec_SigSets
  have inner : ∀ {R : Type} (j : Nat) (hj : j < a.length) (K0 : Option R) (K1 : Int → Bool → Option R), T_spec_SigSets_lp1 N a b (j : Int) K0 K1 N 0 = bif b.any (fun y => a[j] == y) then K0 else K1 (b.length : Int) false := by
    intro R j hj K0 K1
    have h1 := loop_ix0 (l := b) (V := Unit) (R := R) (lp := fun n i v => T_spec_SigSets_lp1 N a b (j : Int) K0 K1 n i) (n := N) (by omega)
      (body := fun i y v k => bif a[j] == y then K0 else k v) (K := fun i v => K1 i false)
      (fun n i v hi => by
        show T_spec_SigSets_lp1 N a b (j : Int) K0 K1 (n + 1) i = _
        simp only [T_spec_SigSets_lp1, ix_lt hi, ix_inb hi, ix_inb hj, ix_get hi, ix_get hj, ix_succ (show i < 4611686018427387904 by omega), cond_true])
      (fun n v => by
        show T_spec_SigSets_lp1 N a b (j : Int) K0 K1 (n + 1) b.length = _
        simp only [T_spec_SigSets_lp1, ix_ge (Nat.le_refl b.length), cond_false]) ()
    refine h1.trans ?_
    rw [foldK_any (p := fun y => a[j] == y) (E := fun _ => K0) b 0 () (fun j y v k _ => rfl), Nat.zero_add]
  have h0 := loop_ix0 (l := a) (V := Unit) (R := Unit × (Bool × Unit)) (lp := fun n i v => T_spec_SigSets_lp0 N a b (some ((), (true, ()))) (fun i12 t13 => some ((), (false, ()))) n i) (n := N) (by omega)
    (body := fun i x v k => bif b.any (fun y => x == y) then some ((), (true, ())) else k v) (K := fun i v => some ((), (false, ())))
    (fun n i v hi => by
      show T_spec_SigSets_lp0 N a b _ _ (n + 1) i = _
      simp only [T_spec_SigSets_lp0, ix_lt hi, inner i hi, ix_succ (show i < 4611686018427387904 by omega), cond_true])
    (fun n v => by
      show T_spec_SigSets_lp0 N a b _ _ (n + 1) a.length = _
      simp only [T_spec_SigSets_lp0, ix_ge (Nat.le_refl a.length), cond_false]) ()
  refine h0.trans ?_
  rw [foldK_any (p := fun x => b.any fun y => x == y) (E := fun _ => some ((), (true, ()))) a 0 () (fun j y v k _ => rfl)]
  unfold common
  cases (a.any fun x => b.any fun y => x == y) <;> rfl

theorem implSets_run {N : Nat} {a b : List Int} (ha : a.length ≤ 1048576) (hb : b.length ≤ 1048576) (hN : 1048576 < N) : T_impl_SigSets N a b = ret (common a b) := by
  unfold T_impl_SigSets
  have inner : ∀ {R : Type} (j : Nat) (hj : j < a.length) (z : Int) (K0 : Option R) (K1 : Int → Bool → Option R), T_impl_SigSets_lp1 N b a z (j : Int) K0 K1 N 0 = bif b.any (fun y => a[j] == y) then K0 else K1 (b.length : Int) false := by
    intro R j hj z K0 K1
    have h1 := loop_ix0 (l := b) (V := Unit) (R := R) (lp := fun n i v => T_impl_SigSets_lp1 N b a z (j : Int) K0 K1 n i) (n := N) (by omega)
      (body := fun i y v k => bif a[j] == y then K0 else k v) (K := fun i v => K1 i false)
      (fun n i v hi => by
        show T_impl_SigSets_lp1 N b a z (j : Int) K0 K1 (n + 1) i = _
        simp only [T_impl_SigSets_lp1, ix_lt hi, ix_inb hi, ix_inb hj, ix_get hi, ix_get hj, ix_succ (show i < 4611686018427387904 by omega), cond_true])
      (fun n v => by
        show T_impl_SigSets_lp1 N b a z (j : Int) K0 K1 (n + 1) b.length = _
        simp only [T_impl_SigSets_lp1, ix_ge (Nat.le_refl b.length), cond_false]) ()
    refine h1.trans ?_
    rw [foldK_any (p := fun y => a[j] == y) (E := fun _ => K0) b 0 () (fun j y v k _ => rfl), Nat.zero_add]
  have h0 := loop_ix0 (l := a) (V := Unit) (R := Unit × (Bool × Unit)) (lp := fun n i v => T_impl_SigSets_lp0 N b a (some ((), (true, ()))) (fun i12 t13 => some ((), (false, ()))) n i) (n := N) (by omega)
    (body := fun i x v k => bif b.any (fun y => x == y) then some ((), (true, ())) else k v) (K := fun i v => some ((), (false, ())))
    (fun n i v hi => by
      show T_impl_SigSets_lp0 N b a _ _ (n + 1) i = _
      simp only [T_impl_SigSets_lp0, ix_lt hi, ix_inb hi, inner i hi, ix_succ (show i < 4611686018427387904 by omega), cond_true])
    (fun n v => by
      show T_impl_SigSets_lp0 N b a _ _ (n + 1) a.length = _
      simp only [T_impl_SigSets_lp0, ix_ge (Nat.le_refl a.length), cond_false]) ()
  refine h0.trans ?_
  rw [foldK_any (p := fun x => b.any fun y => x == y) (E := fun _ => some ((), (true, ()))) a 0 () (fun j y v k _ => rfl)]
  unfold common
  cases (a.any fun x => b.any fun y => x == y) <;> rfl

theorem law_SigSets {a b : List Int} : ∃ N, T_laws_FnExactSigSets N a b = ret true := by
  refine ⟨1048577, ?_⟩
  unfold T_laws_FnExactSigSets
  by_cases ha : a.length ≤ 1048576
  · by_cases hb : b.length ≤ 1048576
    · have e1 : decide (ilen a > 1048576) = false := by simp [ilen]; omega
      have e2 : decide (ilen b > 1048576) = false := by simp [ilen]; omega
      rw [e1, e2]
      simp only [cond_false, toIntS_run ha (show a.length < 1048577 by omega), toIntS_run hb (show b.length < 1048577 by omega), ret, Option.bind_some]
      rw [specSets_run ha hb (by omega)]
      simp only [ret, Option.bind_some]
      rw [implSets_run ha hb (by omega)]
      simp only [ret, Option.bind_some]
      rw [eqIntS_run ha (by omega), eqIntS_run hb (by omega)]
      simp [beq]
    · have e1 : decide (ilen a > 1048576) = false := by simp [ilen]; omega
      have e2 : decide (ilen b > 1048576) = true := by simp [ilen]; omega
      rw [e1, e2]; rfl
  · have e1 : decide (ilen a > 1048576) = true := by simp [ilen]; omega
    rw [e1]; rfl

theorem law_FnExactSigSets (d : PDen [.v (.slice (.int .i64)) false, .v (.slice (.int .i64)) false]) (hw : WfArgs [.v (.slice (.int .i64)) false, .v (.slice (.int .i64)) false] d) : ∃ N o, T_laws_FnExactSigSets N d.1 d.2.1 = some (o, (true, ())) := by
  obtain ⟨N, h⟩ := law_SigSets (a := d.1) (b := d.2.1)
  exact ⟨N, (), h⟩
end Go.Sx
