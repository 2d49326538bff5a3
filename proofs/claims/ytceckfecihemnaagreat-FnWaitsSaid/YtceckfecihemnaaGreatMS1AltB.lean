/- Plain laws of the Lean functions. -/
import Derived.Test.YtceckfecihemnaaGreatMFrKid

namespace Go.Sx
set_option linter.unusedVariables false
set_option linter.unusedSimpArgs false
noncomputable def altsOk (l : List (List Opn)) (regs cells : List Int) : Bool := decide (l.length ≤ 4) && (regsOk regs && (valsOk cells && l.all kidOk))
theorem kid_len {l : List (List Opn)} (h : z_KidS l ≤ 1048576) {i : Nat} (hi : i < l.length) : l[i].length ≤ 1048576 :=
  Nat.le_trans (z_KidS_mem (List.getElem_mem hi)) h
theorem specAlts_run {N : Nat} {l : List (List Opn)} {regs cells : List Int} (h : z_KidS l ≤ 1048576) (hr : regs.length ≤ 1048576) (hc : cells.length ≤ 1048576) (hN : 1048576 < N) : Zbv N l regs cells = ret (altsOk l regs cells) := by
  have hll : l.length ≤ 1048576 := Nat.le_trans z_KidS_len h
  unfold Zbv altsOk
  by_cases h4 : l.length ≤ 4
  · have e : decide (ilen l > 4) = false := by simp [ilen]; omega
    rw [e]
    simp only [cond_false, specRegs_run hr hN, specVals_run hc hN, ret, Option.bind_some, h4, decide_true, Bool.true_and]
    have h1 := loop_ix0 (l := l) (V := Unit) (R := Unit × (Bool × Unit)) (lp := fun n j v => Zb1 N l (some ((), (false, ()))) (fun i8 t9 => some ((), (true, ()))) n j) (n := N) (by omega)
      (body := fun j x v k => bif !kidOk x then some ((), (false, ())) else k v) (K := fun _ v => some ((), (true, ())))
      (fun n i v hi => by simp only [Zb1, ix_lt hi, ix_inb hi, ix_get hi, ix_succ (show i < 4611686018427387904 by omega), cond_true, specKid_run (kid_len h hi) hN, ret, Option.bind_some])
      (fun n v => by simp only [Zb1, ix_ge (Nat.le_refl l.length), cond_false]) ()
    (try simp only [] at h1)
    rw [h1, foldK_any (p := fun x => !kidOk x) (E := fun _ => some ((), (false, ()))) l 0 () (fun j x v k _ => rfl), any_not]
    cases regsOk regs <;> cases valsOk cells <;> cases l.all kidOk <;> rfl
  · have e : decide (ilen l > 4) = true := by simp [ilen]; omega
    rw [e]
    simp [h4]
theorem foldK_idx {α V R : Type} {body : Int → α → V → (V → Option R) → Option R} {K : Int → V → Option R} {p : α → Bool} {E : Int → V → Option R} : ∀ (l : List α) (j : Nat) (v : V), (∀ (j : Nat) x v k, x ∈ l → body j x v k = bif p x then E j v else k v) →
    (l.any p = true ∧ ∃ i : Nat, foldK body K l j v = E i v) ∨ (l.any p = false ∧ foldK body K l j v = K ((j + l.length : Nat) : Int) v)
  | [], j, v, _ => .inr ⟨rfl, rfl⟩
  | x :: l, j, v, h => by
    rw [foldK, h j x v _ (List.mem_cons_self ..), List.any_cons]
    cases hp : p x
    · simp only [cond_false, Bool.false_or]
      rcases foldK_idx l (j + 1) v fun j y v k hy => h j y v k (List.mem_cons_of_mem _ hy) with h | h
      · exact .inl h
      · refine .inr ⟨h.1, h.2.trans ?_⟩
        rw [List.length_cons, show j + 1 + l.length = j + (l.length + 1) by omega]
    · exact .inl ⟨rfl, j, rfl⟩
theorem implCont_run {N : Nat} {l : List (List Opn)} (h : z_KidS l ≤ 1048576) (hN : 1048576 < N) : Z0 N l = ret (!l.all kidOk) := by
  have hll : l.length ≤ 1048576 := Nat.le_trans z_KidS_len h
  unfold Z0 Zo
  have h1 := loop_ix0 (l := l) (V := Unit) (R := Unit × (Int × Unit)) (lp := fun n j v => Zm N l (fun t11 => some ((), (t11, ()))) (fun t12 t13 => some ((), ((-1 : Int), ()))) n j) (n := N) (by omega)
    (body := fun j x v k => bif !kidOk x then some ((), (j, ())) else k v) (K := fun _ v => some ((), ((-1 : Int), ())))
    (fun n i v hi => by simp only [Zm, ix_lt hi, ix_inb hi, ix_get hi, ix_succ (show i < 4611686018427387904 by omega), cond_true, Zia, implKid_run (kid_len h hi) hN, ret, Option.bind_some])
    (fun n v => by simp only [Zm, ix_ge (Nat.le_refl l.length), cond_false]) ()
  (try simp only [] at h1)
  rw [h1]
  rcases foldK_idx (body := fun j x v k => bif !kidOk x then some ((), (j, ())) else k v) (K := fun _ (v : Unit) => (some ((), ((-1 : Int), ())) : Option (Unit × (Int × Unit)))) (p := fun x => !kidOk x) (E := fun j _ => some ((), (j, ()))) l 0 () (fun j x v k _ => rfl) with ⟨ha, i, hi⟩ | ⟨ha, hi⟩
  · rw [hi]
    rw [any_not] at ha
    rw [ha]
    simp
  · rw [hi]
    rw [any_not] at ha
    rw [ha]
    rfl
theorem implAlts_run {N : Nat} {l : List (List Opn)} {regs cells : List Int} (h : z_KidS l ≤ 1048576) (hr : regs.length ≤ 1048576) (hc : cells.length ≤ 1048576) (hN : 1048576 < N) : Zfn N l regs cells = ret (altsOk l regs cells) := by
  unfold Zfn altsOk
  simp only [implRegs_run hr hN, implVals_run hc hN, implCont_run h hN, ret, Option.bind_some]
  have e : decide (ilen l ≤ 4) = decide (l.length ≤ 4) := by apply decide_eq_decide.2; simp [ilen]; omega
  rw [e]
  cases decide (l.length ≤ 4) <;> cases regsOk regs <;> cases valsOk cells <;> simp
end Go.Sx
