/- Plain laws of the Lean functions. -/
import Derived.Test.YtfbomdanghhgcaaMFrEpSafe
/- Plain law: is no held node among the freed ones? -/
namespace Go.Sx
set_option linter.unusedVariables false
set_option linter.unusedSimpArgs false

/-- a loop that ends at the first that fits, and tells its index -/
theorem foldK_idx {α V R : Type} {body : Int → α → V → (V → Option R) → Option R} {K : Int → V → Option R} {p : α → Bool} {E : Int → V → Option R} : ∀ (l : List α) (j : Nat) (v : V), (∀ (j : Nat) x v k, x ∈ l → body j x v k = bif p x then E j v else k v) →
    (l.any p = true ∧ ∃ i : Nat, foldK body K l j v = E i v) ∨ (l.any p = false ∧ foldK body K l j v = K ((j + l.length : Nat) : Int) v)
  | [], j, v, _ => .inr ⟨rfl, rfl⟩
  | x :: l, j, v, h => by
    rw [foldK, h j x v _ (List.mem_cons_self ..), List.any_cons]
    cases hp : p x
    · simp only [cond_false, Bool.false_or]
      rcases foldK_idx l (j + 1) v fun j y v k hy => h j y v k (List.mem_cons_of_mem _ hy) with h | h
      · exact .inl h
      · refine .inr ⟨h.1, h.2.trans ?_⟩
        rw [List.length_cons, show j + 1 + l.length = j + (l.length + 1) by omega]
    · exact .inl ⟨rfl, j, rfl⟩

theorem index_run {N : Nat} {s : List Int} {v : Int} (h : s.length ≤ 1048576) (hN : 1048576 < N) : ∃ r : Int, T_slices_Index___int_int_ N s v = ret r ∧ decide (r ≥ 0) = s.any fun x => v == x := by
  unfold T_slices_Index___int_int_
  have h1 := loop_ix0 (l := s) (V := Unit) (R := Unit × (Int × Unit)) (lp := fun n j _ => T_slices_Index___int_int__lp0 N s v (fun t10 => some ((), (t10, ()))) (fun t11 t12 => some ((), ((-1 : Int), ()))) n j) (n := N) (by omega)
    (body := fun j x _ k => bif v == x then some ((), (j, ())) else k ()) (K := fun _ _ => some ((), ((-1 : Int), ())))
    (fun n i v hi => by simp only [T_slices_Index___int_int__lp0, ix_lt hi, ix_inb hi, ix_get hi, ix_succ (show i < 4611686018427387904 by omega), cond_true])
    (fun n v => by simp only [T_slices_Index___int_int__lp0, ix_ge (Nat.le_refl s.length), cond_false]) ()
  rcases foldK_idx (body := fun j x _ k => bif v == x then some ((), (j, ())) else k ()) (K := fun _ _ => (some ((), ((-1 : Int), ())) : Option (Unit × (Int × Unit)))) (p := fun x => v == x) (E := fun j _ => some ((), (j, ()))) s 0 () (fun j x _ k _ => rfl) with ⟨ha, i, hi⟩ | ⟨ha, hi⟩
  · exact ⟨i, h1.trans hi, by rw [ha]; simp⟩
  · exact ⟨-1, h1.trans hi, by rw [ha]; rfl⟩

theorem contains_run {N : Nat} {s : List Int} {v : Int} (h : s.length ≤ 1048576) (hN : 1048576 < N) : T_slices_Contains___int_int_ N s v = ret (s.any fun x => v == x) := by
  obtain ⟨r, h1, h2⟩ := index_run (v := v) h hN
  unfold T_slices_Contains___int_int_
  rw [h1]
  simp only [ret, Option.bind_some, h2]

abbrev Eps := Int × List Int × List Bool × List (Int × Int) × List (Int × Int) × List Int

theorem implSafe_run {N : Nat} {e : Eps} (h : z_Epochs e ≤ 1048576) (hN : 1048576 < N) : T_impl_EpochSafe N e = ret (!e.2.2.2.2.1.any fun x => e.2.2.2.2.2.any fun y => x.2 == y) := by
  unfold z_Epochs z_EpHoldS z_IntS at h
  unfold T_impl_EpochSafe T_slices_ContainsFunc___impl_EpHold_impl_EpHold___impl_EpochSafe_1 T_slices_IndexFunc___impl_EpHold_impl_EpHold___impl_EpochSafe_1
  have h1 := loop_ix0 (l := e.2.2.2.2.1) (V := { v : Eps // v = e }) (R := (Eps × Unit) × (Int × Unit)) (lp := fun n j v => T_slices_IndexFunc___impl_EpHold_impl_EpHold___impl_EpochSafe_1_lp0 N e.2.2.2.2.1 (fun t15 b16 => some ((b16, ()), (t15, ()))) (fun t17 t18 b19 => some ((b19, ()), ((-1 : Int), ()))) n j v.1) (n := N) (by omega)
    (body := fun j x v k => bif e.2.2.2.2.2.any (fun y => x.2 == y) then some ((v.1, ()), (j, ())) else k v) (K := fun _ v => some ((v.1, ()), ((-1 : Int), ())))
    (fun n i v hi => by
      obtain ⟨v, rfl⟩ := v
      simp only [T_slices_IndexFunc___impl_EpHold_impl_EpHold___impl_EpochSafe_1_lp0, ix_lt hi, ix_inb hi, ix_get hi, ix_succ (show i < 4611686018427387904 by omega), cond_true, T_impl_EpochSafe_1, contains_run (s := v.2.2.2.2.2) (by omega) hN, ret, Option.bind_some])
    (fun n v => by simp only [T_slices_IndexFunc___impl_EpHold_impl_EpHold___impl_EpochSafe_1_lp0, ix_ge (Nat.le_refl e.2.2.2.2.1.length), cond_false]) ⟨e, rfl⟩
  simp only [] at h1
  rw [h1]
  rcases foldK_idx (body := fun j x (v : { v : Eps // v = e }) k => bif e.2.2.2.2.2.any (fun y => x.2 == y) then some ((v.1, ()), (j, ())) else k v) (K := fun _ v => (some ((v.1, ()), ((-1 : Int), ())) : Option ((Eps × Unit) × (Int × Unit)))) (p := fun x => e.2.2.2.2.2.any fun y => x.2 == y)
    (E := fun j v => some ((v.1, ()), (j, ()))) e.2.2.2.2.1 0 ⟨e, rfl⟩ (fun j x v k _ => rfl) with ⟨ha, i, hi⟩ | ⟨ha, hi⟩
  · rw [hi, ha]; simp
  · rw [hi, ha]; rfl

theorem specSafe_run {N : Nat} {e : Eps} (h : z_Epochs e ≤ 1048576) (hN : 1048576 < N) : T_spec_EpochSafe N e = ret (!e.2.2.2.2.2.any fun y => e.2.2.2.2.1.any fun x => x.2 == y) := by
  unfold z_Epochs z_EpHoldS z_IntS at h
  unfold T_spec_EpochSafe
  have inner : ∀ {R : Type} (j : Nat) (hj : j < e.2.2.2.2.2.length) (K0 : Option R) (K1 : Option R), T_spec_EpochSafe_lp1 N (j : Int) e K0 (fun _ _ => K1) N 0 = bif e.2.2.2.2.1.any (fun x => x.2 == e.2.2.2.2.2[j]) then K0 else K1 := by
    intro R j hj K0 K1
    have h1 := loop_ix0 (l := e.2.2.2.2.1) (V := Unit) (R := R) (lp := fun n i v => T_spec_EpochSafe_lp1 N (j : Int) e K0 (fun _ _ => K1) n i) (n := N) (by omega)
      (body := fun i x v k => bif x.2 == e.2.2.2.2.2[j] then K0 else k v) (K := fun i v => K1)
      (fun n i v hi => by
        simp only [T_spec_EpochSafe_lp1, ix_lt hi, ix_inb hi, ix_inb hj, ix_get hi, ix_get hj, ix_succ (show i < 4611686018427387904 by omega), cond_true])
      (fun n v => by
        simp only [T_spec_EpochSafe_lp1, ix_ge (Nat.le_refl e.2.2.2.2.1.length), cond_false]) ()
    refine h1.trans ?_
    rw [foldK_any (p := fun x => x.2 == e.2.2.2.2.2[j]) (E := fun _ => K0) e.2.2.2.2.1 0 () (fun j y v k _ => rfl)]
  have h1 := loop_ix0 (l := e.2.2.2.2.2) (V := Unit) (R := Unit × (Bool × Unit)) (lp := fun n j v => T_spec_EpochSafe_lp0 N e (some ((), (false, ()))) (fun i15 t16 => some ((), (true, ()))) n j) (n := N) (by omega)
    (body := fun j y v k => bif e.2.2.2.2.1.any (fun x => x.2 == y) then some ((), (false, ())) else k v) (K := fun _ v => some ((), (true, ())))
    (fun n i v hi => by simp only [T_spec_EpochSafe_lp0, ix_lt hi, inner i hi, ix_succ (show i < 4611686018427387904 by omega), cond_true])
    (fun n v => by simp only [T_spec_EpochSafe_lp0, ix_ge (Nat.le_refl e.2.2.2.2.2.length), cond_false]) ()
  refine h1.trans ?_
  rw [foldK_any (p := fun y => e.2.2.2.2.1.any fun x => x.2 == y) (E := fun _ => some ((), (false, ()))) e.2.2.2.2.2 0 () (fun j y v k _ => rfl)]
  cases e.2.2.2.2.2.any fun y => e.2.2.2.2.1.any fun x => x.2 == y <;> rfl

theorem any_swap {α β : Type} {p : α → β → Bool} (a : List α) (b : List β) : (a.any fun x => b.any fun y => p x y) = b.any fun y => a.any fun x => p x y := by
  rw [Bool.eq_iff_iff]
  simp only [List.any_eq_true]
  constructor
  · rintro ⟨x, hx, y, hy, h⟩; exact ⟨y, hy, x, hx, h⟩
  · rintro ⟨y, hy, x, hx, h⟩; exact ⟨x, hx, y, hy, h⟩

abbrev TEps : Ty := .prod (.int .i64) (.prod (.slice (.int .i64)) (.prod (.slice .bool) (.prod (.slice (.prod (.int .i64) (.int .i64))) (.prod (.slice (.prod (.int .i64) (.int .i64))) (.slice (.int .i64))))))

theorem law_EpochSafe {e : Eps} (hw : Wfd TEps e) : T_laws_FnExactEpochSafe 1048577 e = ret true := by
  unfold T_laws_FnExactEpochSafe
  rw [f_szEpochs (by omega) (by omega) (by omega) hw]
  simp only [ret, Option.bind_some]
  by_cases h : (1048576 : Int) < (z_Epochs e : Int)
  · rw [if_pos h]; rfl
  · have e1 : decide ((1048576 - (z_Epochs e : Int)) < 0) = false := by simp; omega
    rw [if_neg h, e1]
    have h2 : z_Epochs e ≤ 1048576 := by omega
    have hN : 1048576 < 1048577 := by omega
    simp only [cond_false, f_toEpochs h2 hN, ret, Option.bind_some, implSafe_run h2 hN, specSafe_run h2 hN, f_eqEpochs h2 hN, beq_same, any_swap e.2.2.2.2.1 e.2.2.2.2.2, same_self, Bool.not_true]

theorem law_FnExactEpochSafe (d : PDen [.v TEps true]) (hw : WfArgs [.v TEps true] d) : ∃ N o, T_laws_FnExactEpochSafe N d.1 = some (o, (true, ())) := ⟨1048577, (), law_EpochSafe hw.1⟩
end Go.Sx
