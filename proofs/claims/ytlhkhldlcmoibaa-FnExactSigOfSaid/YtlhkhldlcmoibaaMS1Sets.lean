/- Plain laws of the Lean functions. -/
import Derived.Test.YtlhkhldlcmoibaaMS1Has
/- Plain law: the signature of a list; whether two lists have an element in common. -/
namespace Go.Sx
set_option linter.unusedVariables false
set_option linter.unusedSimpArgs false

theorem toIntS_run {N : Nat} {l : List Int} (h : l.length ≤ 1048576) (hN : l.length < N) : T_laws_toIntS N l = ret l := by
  unfold T_laws_toIntS
  rw [make_ok l (by omega), toNat_ilen]
  simp only [cond_true]
  have h1 := loop_fold0 (l := l) (d := (0 : Int)) (V := List Int) (R := Unit × (List Int × Unit)) (lp := fun n j v => T_laws_toIntS_lp0 N l (fun i8 t9 l10 => some ((), (l10, ()))) n j v)
    (body := fun j x v k => bif inb j v.length then k (v.set j.toNat x) else none) (K := fun _ _ v => some ((), (v, ()))) (by omega) (fun n j v => rfl) (n := N) hN (List.replicate l.length (0 : Int))
  refine h1.trans ?_
  rw [foldK_copy (f := id) l (fun j x v k _ => rfl)]
  simp

theorem eqIntS_run {N : Nat} {l m : List Int} (h : l.length ≤ 1048576) (hN : l.length < N) : T_laws_eqIntS N l m = ret (decide (l = m)) := by
  unfold T_laws_eqIntS
  by_cases hl : l.length = m.length
  · have e : (ilen l != ilen m) = false := by simp [ilen, hl]
    rw [e]
    simp only [cond_false]
    have h1 := loop_fold0 (l := l) (d := (0 : Int)) (V := Unit) (R := Unit × (Bool × Unit)) (lp := fun n j v => T_laws_eqIntS_lp0 N l m (some ((), (false, ()))) (fun i8 t9 => some ((), (true, ()))) n j)
      (body := fun j x v k => bif inb j m.length then (bif x != m.getD j.toNat 0 then some ((), (false, ())) else k v) else none) (K := fun _ _ v => some ((), (true, ()))) (by omega) (fun n j v => rfl) (n := N) hN ()
    refine h1.trans ?_
    rw [foldK_eq (E := fun _ => some ((), (false, ()))) (z := 0) l m 0 () (by omega) (fun j x v k _ => by rw [bne_decide])]
    simp only [List.drop_zero]
    by_cases hlm : l = m <;> simp [hlm]
  · have e : (ilen l != ilen m) = true := by simp [ilen]; omega
    have e2 : l ≠ m := fun h => hl (by rw [h])
    rw [e]
    simp [e2]

/-- does an element of the first stand in the second? -/
def common (a b : List Int) : Bool := a.any fun x => b.any fun y => x == y

theorem specSets_run {N : Nat} {a b : List Int} (ha : a.length ≤ 1048576) (hb : b.length ≤ 1048576) (hN : 1048576 < N) : T_spec_SigSets N a b = ret (common a b) := by
  unfold T_spec_SigSets
  have inner : ∀ {R : Type} (j : Nat) (hj : j < a.length) (K0 : Option R) (K1 : Int → Bool → Option R), T_spec_SigSets_lp1 N a b (j : Int) K0 K1 N 0 = bif b.any (fun y => a[j] == y) then K0 else K1 (b.length : Int) false := by
    intro R j hj K0 K1
    have h1 := loop_ix0 (l := b) (V := Unit) (R := R) (lp := fun n i v => T_spec_SigSets_lp1 N a b (j : Int) K0 K1 n i) (n := N) (by omega)
      (body := fun i y v k => bif a[j] == y then K0 else k v) (K := fun i v => K1 i false)
      (fun n i v hi => by
        show T_spec_SigSets_lp1 N a b (j : Int) K0 K1 (n + 1) i = _
        simp only [T_spec_SigSets_lp1, ix_lt hi, ix_inb hi, ix_inb hj, ix_get hi, ix_get hj, ix_succ (show i < 4611686018427387904 by omega), cond_true])
      (fun n v => by
        show T_spec_SigSets_lp1 N a b (j : Int) K0 K1 (n + 1) b.length = _
        simp only [T_spec_SigSets_lp1, ix_ge (Nat.le_refl b.length), cond_false]) ()
    refine h1.trans ?_
    rw [foldK_any (p := fun y => a[j] == y) (E := fun _ => K0) b 0 () (fun j y v k _ => rfl), Nat.zero_add]
  have h0 := loop_ix0 (l := a) (V := Unit) (R := Unit × (Bool × Unit)) (lp := fun n i v => T_spec_SigSets_lp0 N a b (some ((), (true, ()))) (fun i12 t13 => some ((), (false, ()))) n i) (n := N) (by omega)
    (body := fun i x v k => bif b.any (fun y => x == y) then some ((), (true, ())) else k v) (K := fun i v => some ((), (false, ())))
    (fun n i v hi => by
      show T_spec_SigSets_lp0 N a b _ _ (n + 1) i = _
      simp only [T_spec_SigSets_lp0, ix_lt hi, inner i hi, ix_succ (show i < 4611686018427387904 by omega), cond_true])
    (fun n v => by
      show T_spec_SigSets_lp0 N a b _ _ (n + 1) a.length = _
      simp only [T_spec_SigSets_lp0, ix_ge (Nat.le_refl a.length), cond_false]) ()
  refine h0.trans ?_
  rw [foldK_any (p := fun x => b.any fun y => x == y) (E := fun _ => some ((), (true, ()))) a 0 () (fun j y v k _ => rfl)]
  unfold common
  cases (a.any fun x => b.any fun y => x == y) <;> rfl

theorem implSets_run {N : Nat} {a b : List Int} (ha : a.length ≤ 1048576) (hb : b.length ≤ 1048576) (hN : 1048576 < N) : T_impl_SigSets N a b = ret (common a b) := by
  unfold T_impl_SigSets
  have inner : ∀ {R : Type} (j : Nat) (hj : j < a.length) (z : Int) (K0 : Option R) (K1 : Int → Bool → Option R), T_impl_SigSets_lp1 N b a z (j : Int) K0 K1 N 0 = bif b.any (fun y => a[j] == y) then K0 else K1 (b.length : Int) false := by
    intro R j hj z K0 K1
    have h1 := loop_ix0 (l := b) (V := Unit) (R := R) (lp := fun n i v => T_impl_SigSets_lp1 N b a z (j : Int) K0 K1 n i) (n := N) (by omega)
      (body := fun i y v k => bif a[j] == y then K0 else k v) (K := fun i v => K1 i false)
      (fun n i v hi => by
        show T_impl_SigSets_lp1 N b a z (j : Int) K0 K1 (n + 1) i = _
        simp only [T_impl_SigSets_lp1, ix_lt hi, ix_inb hi, ix_inb hj, ix_get hi, ix_get hj, ix_succ (show i < 4611686018427387904 by omega), cond_true])
      (fun n v => by
        show T_impl_SigSets_lp1 N b a z (j : Int) K0 K1 (n + 1) b.length = _
        simp only [T_impl_SigSets_lp1, ix_ge (Nat.le_refl b.length), cond_false]) ()
    refine h1.trans ?_
    rw [foldK_any (p := fun y => a[j] == y) (E := fun _ => K0) b 0 () (fun j y v k _ => rfl), Nat.zero_add]
  have h0 := loop_ix0 (l := a) (V := Unit) (R := Unit × (Bool × Unit)) (lp := fun n i v => T_impl_SigSets_lp0 N b a (some ((), (true, ()))) (fun i12 t13 => some ((), (false, ()))) n i) (n := N) (by omega)
    (body := fun i x v k => bif b.any (fun y => x == y) then some ((), (true, ())) else k v) (K := fun i v => some ((), (false, ())))
    (fun n i v hi => by
      show T_impl_SigSets_lp0 N b a _ _ (n + 1) i = _
      simp only [T_impl_SigSets_lp0, ix_lt hi, ix_inb hi, inner i hi, ix_succ (show i < 4611686018427387904 by omega), cond_true])
    (fun n v => by
      show T_impl_SigSets_lp0 N b a _ _ (n + 1) a.length = _
      simp only [T_impl_SigSets_lp0, ix_ge (Nat.le_refl a.length), cond_false]) ()
  refine h0.trans ?_
  rw [foldK_any (p := fun x => b.any fun y => x == y) (E := fun _ => some ((), (true, ()))) a 0 () (fun j y v k _ => rfl)]
  unfold common
  cases (a.any fun x => b.any fun y => x == y) <;> rfl

theorem law_SigSets {a b : List Int} : ∃ N, T_laws_FnExactSigSets N a b = ret true := by
  refine ⟨1048577, ?_⟩
  unfold T_laws_FnExactSigSets
  by_cases ha : a.length ≤ 1048576
  · by_cases hb : b.length ≤ 1048576
    · have e1 : decide (ilen a > 1048576) = false := by simp [ilen]; omega
      have e2 : decide (ilen b > 1048576) = false := by simp [ilen]; omega
      rw [e1, e2]
      simp only [cond_false, toIntS_run ha (show a.length < 1048577 by omega), toIntS_run hb (show b.length < 1048577 by omega), ret, Option.bind_some]
      rw [specSets_run ha hb (by omega)]
      simp only [ret, Option.bind_some]
      rw [implSets_run ha hb (by omega)]
      simp only [ret, Option.bind_some]
      rw [eqIntS_run ha (by omega), eqIntS_run hb (by omega)]
      simp [beq]
    · have e1 : decide (ilen a > 1048576) = false := by simp [ilen]; omega
      have e2 : decide (ilen b > 1048576) = true := by simp [ilen]; omega
      rw [e1, e2]; rfl
  · have e1 : decide (ilen a > 1048576) = true := by simp [ilen]; omega
    rw [e1]; rfl

theorem law_FnExactSigSets (d : PDen [.v (.slice (.int .i64)) false, .v (.slice (.int .i64)) false]) (hw : WfArgs [.v (.slice (.int .i64)) false, .v (.slice (.int .i64)) false] d) : ∃ N o, T_laws_FnExactSigSets N d.1 d.2.1 = some (o, (true, ())) := by
  obtain ⟨N, h⟩ := law_SigSets (a := d.1) (b := d.2.1)
  exact ⟨N, (), h⟩
end Go.Sx
