/- Plain laws of the Lean functions. -/
import Derived.Test.YtfbomdanghhgcaaMFrKid
/- Plain law: which alternatives fit. -/
namespace Go.Sx
set_option linter.unusedVariables false
set_option linter.unusedSimpArgs false

theorem touch_ex {N : Nat} {o : Opn} : ∃ t : Int, T_spec_Touches N o = ret t ∧ T_impl_Touches N o = ret t := by
  unfold T_spec_Touches T_impl_Touches
  rw [specOp_run, implOp_run]
  simp only [ret, Option.bind_some]
  cases opOk o
  · exact ⟨0, rfl, rfl⟩
  · cases o.1 == 5 <;> cases o.1 == 6 <;> cases o.1 == 12 <;> cases o.1 == 13 <;> cases o.1 == 14 <;> cases o.1 == 15 <;> cases o.1 == 16 <;> exact ⟨_, rfl, rfl⟩

/-- what an operation touches -/
noncomputable def touch (o : Opn) : Int := match T_spec_Touches 0 o with | some (_, (t, _)) => t | none => 0

theorem touchN {N : Nat} {o : Opn} : T_spec_Touches N o = T_spec_Touches 0 o := by
  unfold T_spec_Touches
  rw [specOp_run, specOp_run]

theorem specTouch_run {N : Nat} {o : Opn} : T_spec_Touches N o = ret (touch o) := by
  rw [touchN]
  obtain ⟨t, h, _⟩ := touch_ex (N := 0) (o := o)
  unfold touch
  rw [h]
theorem implTouch_run {N : Nat} {o : Opn} : T_impl_Touches N o = ret (touch o) := by
  obtain ⟨t, h, h2⟩ := touch_ex (N := N) (o := o)
  rw [h2, ← h, specTouch_run]

noncomputable def kidBad (o : Opn) : Bool := (o.1 == 11) || (touch o == 2)
noncomputable def kidOk (l : List Opn) : Bool := cdOk l && !l.any kidBad

theorem specFork_run {N : Nat} {l : List Opn} (hl : l.length ≤ 1048576) (hN : 1048576 < N) : T_spec_HasFork N l = ret (l.any fun o => o.1 == 11) := by
  unfold T_spec_HasFork
  have h1 := loop_ix0 (l := l) (V := Unit) (R := Unit × (Bool × Unit)) (lp := fun n j v => T_spec_HasFork_lp0 N l (some ((), (true, ()))) (fun i8 t9 => some ((), (false, ()))) n j) (n := N) (by omega)
    (body := fun j x v k => bif x.1 == 11 then some ((), (true, ())) else k v) (K := fun _ v => some ((), (false, ())))
    (fun n i v hi => by simp only [T_spec_HasFork_lp0, ix_lt hi, ix_inb hi, ix_get hi, ix_succ (show i < 4611686018427387904 by omega), cond_true])
    (fun n v => by simp only [T_spec_HasFork_lp0, ix_ge (Nat.le_refl l.length), cond_false]) ()
  refine h1.trans ?_
  rw [foldK_any (p := fun x : Opn => x.1 == 11) (E := fun _ => some ((), (true, ()))) l 0 () (fun j x v k _ => rfl)]
  cases l.any fun o : Opn => o.1 == 11 <;> rfl

theorem specKid_run {N : Nat} {l : List Opn} (hl : l.length ≤ 1048576) (hN : 1048576 < N) : T_spec_KidOk N l = ret (kidOk l) := by
  unfold T_spec_KidOk kidOk
  simp only [specCode_run hl hN, ret, Option.bind_some]
  cases cdOk l with
  | false => rfl
  | true =>
    simp only [specFork_run hl hN, ret, Option.bind_some, Bool.not_true, cond_false, Bool.true_and]
    have h1 := loop_ix0 (l := l) (V := Unit) (R := Unit × (Bool × Unit)) (lp := fun n j v => T_spec_KidOk_lp0 N l (some ((), (false, ()))) (fun i8 t9 => some ((), (true, ()))) n j) (n := N) (by omega)
      (body := fun j x v k => bif touch x == 2 then some ((), (false, ())) else k v) (K := fun _ v => some ((), (true, ())))
      (fun n i v hi => by simp only [T_spec_KidOk_lp0, ix_lt hi, ix_inb hi, ix_get hi, ix_succ (show i < 4611686018427387904 by omega), cond_true, specTouch_run, ret, Option.bind_some])
      (fun n v => by simp only [T_spec_KidOk_lp0, ix_ge (Nat.le_refl l.length), cond_false]) ()
    (try simp only [] at h1)
    rw [h1, foldK_any (p := fun x => touch x == 2) (E := fun _ => some ((), (false, ()))) l 0 () (fun j x v k _ => rfl)]
    have e : l.any kidBad = ((l.any fun o => o.1 == 11) || l.any fun o => touch o == 2) := by
      clear h1 hl
      induction l with
      | nil => rfl
      | cons x l ih =>
        simp only [List.any_cons, ih, kidBad]
        cases x.1 == 11 <;> cases touch x == 2 <;> simp
    rw [e]
    cases l.any fun o : Opn => o.1 == 11 <;> cases l.any fun o => touch o == 2 <;> rfl

theorem implKid_run {N : Nat} {l : List Opn} (hl : l.length ≤ 1048576) (hN : 1048576 < N) : T_impl_KidOk N l = ret (kidOk l) := by
  unfold T_impl_KidOk kidOk
  have h1 := loop_ix0 (l := l) (V := Unit) (R := Unit × (Bool × Unit)) (lp := fun n j v => T_impl_KidOk_lp0 N l (some ((), (false, ()))) (fun t11 t12 => ((T_impl_CodeOk N l).bind fun o13 => (some ((), (o13.2.1, ()))))) n j) (n := N) (by omega)
    (body := fun j x v k => bif kidBad x then some ((), (false, ())) else k v) (K := fun _ v => ret (cdOk l))
    (fun n i v hi => by
      simp only [T_impl_KidOk_lp0, ix_lt hi, ix_inb hi, ix_get hi, ix_succ (show i < 4611686018427387904 by omega), cond_true, implTouch_run, ret, Option.bind_some, kidBad]
      cases l[i].1 == 11 <;> rfl)
    (fun n v => by simp only [T_impl_KidOk_lp0, ix_ge (Nat.le_refl l.length), cond_false, implCode_run hl hN, ret, Option.bind_some]) ()
  refine h1.trans ?_
  rw [foldK_any (p := kidBad) (E := fun _ => some ((), (false, ()))) l 0 () (fun j x v k _ => rfl)]
  cases l.any kidBad <;> cases cdOk l <;> rfl

def regsOk (l : List Int) : Bool := decide (l.length = 4) && l.all isVal

theorem specRegs_run {N : Nat} {l : List Int} (hl : l.length ≤ 1048576) (hN : 1048576 < N) : T_spec_l4Regs N l = ret (regsOk l) := by
  unfold T_spec_l4Regs regsOk
  by_cases h : l.length = 4
  · have e : (ilen l != 4) = false := by simp [ilen, h]
    rw [e]
    simp only [cond_false]
    have h1 := loop_ix0 (l := l) (V := Unit) (R := Unit × (Bool × Unit)) (lp := fun n j v => T_spec_l4Regs_lp0 N l (some ((), (false, ()))) (fun i8 t9 => some ((), (true, ()))) n j) (n := N) (by omega)
      (body := fun j x v k => bif !isVal x then some ((), (false, ())) else k v) (K := fun _ v => some ((), (true, ())))
      (fun n i v hi => by simp only [T_spec_l4Regs_lp0, ix_lt hi, ix_inb hi, ix_get hi, ix_succ (show i < 4611686018427387904 by omega), cond_true, specVal_run, ret, Option.bind_some])
      (fun n v => by simp only [T_spec_l4Regs_lp0, ix_ge (Nat.le_refl l.length), cond_false]) ()
    refine h1.trans ?_
    rw [foldK_any (p := fun x => !isVal x) (E := fun _ => some ((), (false, ()))) l 0 () (fun j x v k _ => rfl), any_not]
    cases l.all isVal <;> simp [h]
  · have e : (ilen l != 4) = true := by simp [ilen]; omega
    rw [e]
    simp [h]

theorem implRegs_run {N : Nat} {l : List Int} (hl : l.length ≤ 1048576) (hN : 1048576 < N) : T_impl_areValues N l 4 = ret (regsOk l) := by
  unfold T_impl_areValues regsOk
  have h1 := loop_ix0 (l := l) (V := Unit) (R := Unit × (Bool × Unit)) (lp := fun n j v => T_impl_areValues_lp0 N l 4 (some ((), (false, ()))) (fun i8 t9 => some ((), ((ilen l) == (4 : Int), ()))) n j) (n := N) (by omega)
    (body := fun j x v k => bif !isVal x then some ((), (false, ())) else k v) (K := fun _ v => some ((), ((ilen l) == (4 : Int), ())))
    (fun n i v hi => by simp only [T_impl_areValues_lp0, ix_lt hi, ix_inb hi, ix_get hi, ix_succ (show i < 4611686018427387904 by omega), cond_true, implVal_run, ret, Option.bind_some])
    (fun n v => by simp only [T_impl_areValues_lp0, ix_ge (Nat.le_refl l.length), cond_false]) ()
  refine h1.trans ?_
  rw [foldK_any (p := fun x => !isVal x) (E := fun _ => some ((), (false, ()))) l 0 () (fun j x v k _ => rfl), any_not]
  have e : ((ilen l) == (4 : Int)) = decide (l.length = 4) := by
    by_cases h : l.length = 4
    · simp [ilen, h]
    · simp [ilen, h]; omega
  rw [e]
  cases l.all isVal <;> simp

noncomputable def altsOk (l : List (List Opn)) (regs cells : List Int) : Bool := decide (l.length ≤ 4) && (regsOk regs && (valsOk cells && l.all kidOk))

theorem kid_len {l : List (List Opn)} (h : z_KidS l ≤ 1048576) {i : Nat} (hi : i < l.length) : l[i].length ≤ 1048576 :=
  Nat.le_trans (z_KidS_mem (List.getElem_mem hi)) h

theorem specAlts_run {N : Nat} {l : List (List Opn)} {regs cells : List Int} (h : z_KidS l ≤ 1048576) (hr : regs.length ≤ 1048576) (hc : cells.length ≤ 1048576) (hN : 1048576 < N) : T_spec_AltsOk N l regs cells = ret (altsOk l regs cells) := by
  have hll : l.length ≤ 1048576 := Nat.le_trans z_KidS_len h
  unfold T_spec_AltsOk altsOk
  by_cases h4 : l.length ≤ 4
  · have e : decide (ilen l > 4) = false := by simp [ilen]; omega
    rw [e]
    simp only [cond_false, specRegs_run hr hN, specVals_run hc hN, ret, Option.bind_some, h4, decide_true, Bool.true_and]
    have h1 := loop_ix0 (l := l) (V := Unit) (R := Unit × (Bool × Unit)) (lp := fun n j v => T_spec_AltsOk_lp0 N l (some ((), (false, ()))) (fun i8 t9 => some ((), (true, ()))) n j) (n := N) (by omega)
      (body := fun j x v k => bif !kidOk x then some ((), (false, ())) else k v) (K := fun _ v => some ((), (true, ())))
      (fun n i v hi => by simp only [T_spec_AltsOk_lp0, ix_lt hi, ix_inb hi, ix_get hi, ix_succ (show i < 4611686018427387904 by omega), cond_true, specKid_run (kid_len h hi) hN, ret, Option.bind_some])
      (fun n v => by simp only [T_spec_AltsOk_lp0, ix_ge (Nat.le_refl l.length), cond_false]) ()
    (try simp only [] at h1)
    rw [h1, foldK_any (p := fun x => !kidOk x) (E := fun _ => some ((), (false, ()))) l 0 () (fun j x v k _ => rfl), any_not]
    cases regsOk regs <;> cases valsOk cells <;> cases l.all kidOk <;> rfl
  · have e : decide (ilen l > 4) = true := by simp [ilen]; omega
    rw [e]
    simp [h4]

/-- a loop that ends at the first that fits, and tells its index -/
theorem foldK_idx {α V R : Type} {body : Int → α → V → (V → Option R) → Option R} {K : Int → V → Option R} {p : α → Bool} {E : Int → V → Option R} : ∀ (l : List α) (j : Nat) (v : V), (∀ (j : Nat) x v k, x ∈ l → body j x v k = bif p x then E j v else k v) →
    (l.any p = true ∧ ∃ i : Nat, foldK body K l j v = E i v) ∨ (l.any p = false ∧ foldK body K l j v = K ((j + l.length : Nat) : Int) v)
  | [], j, v, _ => .inr ⟨rfl, rfl⟩
  | x :: l, j, v, h => by
    rw [foldK, h j x v _ (List.mem_cons_self ..), List.any_cons]
    cases hp : p x
    · simp only [cond_false, Bool.false_or]
      rcases foldK_idx l (j + 1) v fun j y v k hy => h j y v k (List.mem_cons_of_mem _ hy) with h | h
      · exact .inl h
      · refine .inr ⟨h.1, h.2.trans ?_⟩
        rw [List.length_cons, show j + 1 + l.length = j + (l.length + 1) by omega]
    · exact .inl ⟨rfl, j, rfl⟩

theorem implCont_run {N : Nat} {l : List (List Opn)} (h : z_KidS l ≤ 1048576) (hN : 1048576 < N) : T_slices_ContainsFunc___impl_Kid_impl_Kid___impl_AltsOk_1 N l = ret (!l.all kidOk) := by
  have hll : l.length ≤ 1048576 := Nat.le_trans z_KidS_len h
  unfold T_slices_ContainsFunc___impl_Kid_impl_Kid___impl_AltsOk_1 T_slices_IndexFunc___impl_Kid_impl_Kid___impl_AltsOk_1
  have h1 := loop_ix0 (l := l) (V := Unit) (R := Unit × (Int × Unit)) (lp := fun n j v => T_slices_IndexFunc___impl_Kid_impl_Kid___impl_AltsOk_1_lp0 N l (fun t11 => some ((), (t11, ()))) (fun t12 t13 => some ((), ((-1 : Int), ()))) n j) (n := N) (by omega)
    (body := fun j x v k => bif !kidOk x then some ((), (j, ())) else k v) (K := fun _ v => some ((), ((-1 : Int), ())))
    (fun n i v hi => by simp only [T_slices_IndexFunc___impl_Kid_impl_Kid___impl_AltsOk_1_lp0, ix_lt hi, ix_inb hi, ix_get hi, ix_succ (show i < 4611686018427387904 by omega), cond_true, T_impl_AltsOk_1, implKid_run (kid_len h hi) hN, ret, Option.bind_some])
    (fun n v => by simp only [T_slices_IndexFunc___impl_Kid_impl_Kid___impl_AltsOk_1_lp0, ix_ge (Nat.le_refl l.length), cond_false]) ()
  (try simp only [] at h1)
  rw [h1]
  rcases foldK_idx (body := fun j x v k => bif !kidOk x then some ((), (j, ())) else k v) (K := fun _ (v : Unit) => (some ((), ((-1 : Int), ())) : Option (Unit × (Int × Unit)))) (p := fun x => !kidOk x) (E := fun j _ => some ((), (j, ()))) l 0 () (fun j x v k _ => rfl) with ⟨ha, i, hi⟩ | ⟨ha, hi⟩
  · rw [hi]
    rw [any_not] at ha
    rw [ha]
    simp
  · rw [hi]
    rw [any_not] at ha
    rw [ha]
    rfl

theorem implAlts_run {N : Nat} {l : List (List Opn)} {regs cells : List Int} (h : z_KidS l ≤ 1048576) (hr : regs.length ≤ 1048576) (hc : cells.length ≤ 1048576) (hN : 1048576 < N) : T_impl_AltsOk N l regs cells = ret (altsOk l regs cells) := by
  unfold T_impl_AltsOk altsOk
  simp only [implRegs_run hr hN, implVals_run hc hN, implCont_run h hN, ret, Option.bind_some]
  have e : decide (ilen l ≤ 4) = decide (l.length ≤ 4) := by apply decide_eq_decide.2; simp [ilen]; omega
  rw [e]
  cases decide (l.length ≤ 4) <;> cases regsOk regs <;> cases valsOk cells <;> simp

theorem law_AltsOk {N : Nat} {l : List (List Opn)} {regs cells : List Int} (hN : 1048576 < N) (hl : Wfd (.slice (.slice (.prod (.int .i64) (.prod (.int .i64) (.prod (.int .i64) (.int .i64)))))) l) : T_laws_FnExactAltsOk N l regs cells = ret true := by
  unfold T_laws_FnExactAltsOk
  by_cases hr : 1048576 < regs.length
  · have e : decide (ilen regs > 1048576) = true := by simp [ilen]; omega
    rw [e]; rfl
  · have e : decide (ilen regs > 1048576) = false := by simp [ilen]; omega
    rw [e]
    simp only [cond_false]
    by_cases hc : 1048576 < cells.length
    · have e : decide (ilen cells > 1048576) = true := by simp [ilen]; omega
      rw [e]; rfl
    · have e : decide (ilen cells > 1048576) = false := by simp [ilen]; omega
      rw [e]
      simp only [cond_false]
      rw [f_szKidS hN (by omega) (by omega) hl]
      simp only [ret, Option.bind_some]
      by_cases h : (1048576 : Int) < (z_KidS l : Int)
      · rw [if_pos h]; rfl
      · have e : decide ((1048576 - (z_KidS l : Int)) < 0) = false := by simp; omega
        rw [if_neg h, e]
        have hz : z_KidS l ≤ 1048576 := by omega
        have hr2 : regs.length ≤ 1048576 := by omega
        have hc2 : cells.length ≤ 1048576 := by omega
        simp only [cond_false, f_toKidS hz hN, f_toIntS (a := regs) hr2 hN, f_toIntS (a := cells) hc2 hN, ret, Option.bind_some, specAlts_run hz hr2 hc2 hN, implAlts_run hz hr2 hc2 hN, beq_same, same_self, Bool.not_true, f_eqKidS hz hN, f_eqIntS (a := regs) hr2 hN, f_eqIntS (a := cells) hc2 hN]

theorem law_FnExactAltsOk (d : PDen [.v (.slice (.slice (.prod (.int .i64) (.prod (.int .i64) (.prod (.int .i64) (.int .i64)))))) false, .v (.slice (.int .i64)) false, .v (.slice (.int .i64)) false])
    (hw : WfArgs [.v (.slice (.slice (.prod (.int .i64) (.prod (.int .i64) (.prod (.int .i64) (.int .i64)))))) false, .v (.slice (.int .i64)) false, .v (.slice (.int .i64)) false] d) : ∃ N o, T_laws_FnExactAltsOk N d.1 d.2.1 d.2.2.1 = some (o, (true, ())) :=
  ⟨1048577, (), law_AltsOk (by omega) hw.1⟩
end Go.Sx
