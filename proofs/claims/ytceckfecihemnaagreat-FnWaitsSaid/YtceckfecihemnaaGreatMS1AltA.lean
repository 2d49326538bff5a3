/- Plain laws of the Lean functions. -/
import Derived.Test.YtceckfecihemnaaGreatMS1Stk

namespace Go.Sx
set_option linter.unusedVariables false
set_option linter.unusedSimpArgs false
theorem touch_ex {N : Nat} {o : Opn} : ∃ t : Int, Zbe N o = ret t ∧ Ze5 N o = ret t := by
  unfold Zbe Ze5
  rw [specOp_run, implOp_run]
  simp only [ret, Option.bind_some]
  cases opOk o
  · exact ⟨0, rfl, rfl⟩
  · cases o.1 == 5 <;> cases o.1 == 6 <;> cases o.1 == 12 <;> cases o.1 == 13 <;> cases o.1 == 14 <;> cases o.1 == 15 <;> cases o.1 == 16 <;> exact ⟨_, rfl, rfl⟩
noncomputable def touch (o : Opn) : Int := match Zbe 0 o with | some (_, (t, _)) => t | none => 0
theorem touchN {N : Nat} {o : Opn} : Zbe N o = Zbe 0 o := by
  unfold Zbe
  rw [specOp_run, specOp_run]
theorem specTouch_run {N : Nat} {o : Opn} : Zbe N o = ret (touch o) := by
  rw [touchN]
  obtain ⟨t, h, _⟩ := touch_ex (N := 0) (o := o)
  unfold touch
  rw [h]
theorem implTouch_run {N : Nat} {o : Opn} : Ze5 N o = ret (touch o) := by
  obtain ⟨t, h, h2⟩ := touch_ex (N := N) (o := o)
  rw [h2, ← h, specTouch_run]
noncomputable def kidBad (o : Opn) : Bool := (o.1 == 11) || (touch o == 2)
noncomputable def kidOk (l : List Opn) : Bool := cdOk l && !l.any kidBad
theorem specFork_run {N : Nat} {l : List Opn} (hl : l.length ≤ 1048576) (hN : 1048576 < N) : Zco N l = ret (l.any fun o => o.1 == 11) := by
  unfold Zco
  have h1 := loop_ix0 (l := l) (V := Unit) (R := Unit × (Bool × Unit)) (lp := fun n j v => Zbp N l (some ((), (true, ()))) (fun i8 t9 => some ((), (false, ()))) n j) (n := N) (by omega)
    (body := fun j x v k => bif x.1 == 11 then some ((), (true, ())) else k v) (K := fun _ v => some ((), (false, ())))
    (fun n i v hi => by simp only [Zbp, ix_lt hi, ix_inb hi, ix_get hi, ix_succ (show i < 4611686018427387904 by omega), cond_true])
    (fun n v => by simp only [Zbp, ix_ge (Nat.le_refl l.length), cond_false]) ()
  refine h1.trans ?_
  rw [foldK_any (p := fun x : Opn => x.1 == 11) (E := fun _ => some ((), (true, ()))) l 0 () (fun j x v k _ => rfl)]
  cases l.any fun o : Opn => o.1 == 11 <;> rfl
theorem specKid_run {N : Nat} {l : List Opn} (hl : l.length ≤ 1048576) (hN : 1048576 < N) : Zbq N l = ret (kidOk l) := by
  unfold Zbq kidOk
  simp only [specCode_run hl hN, ret, Option.bind_some]
  cases cdOk l with
  | false => rfl
  | true =>
    simp only [specFork_run hl hN, ret, Option.bind_some, Bool.not_true, cond_false, Bool.true_and]
    have h1 := loop_ix0 (l := l) (V := Unit) (R := Unit × (Bool × Unit)) (lp := fun n j v => Zcj N l (some ((), (false, ()))) (fun i8 t9 => some ((), (true, ()))) n j) (n := N) (by omega)
      (body := fun j x v k => bif touch x == 2 then some ((), (false, ())) else k v) (K := fun _ v => some ((), (true, ())))
      (fun n i v hi => by simp only [Zcj, ix_lt hi, ix_inb hi, ix_get hi, ix_succ (show i < 4611686018427387904 by omega), cond_true, specTouch_run, ret, Option.bind_some])
      (fun n v => by simp only [Zcj, ix_ge (Nat.le_refl l.length), cond_false]) ()
    (try simp only [] at h1)
    rw [h1, foldK_any (p := fun x => touch x == 2) (E := fun _ => some ((), (false, ()))) l 0 () (fun j x v k _ => rfl)]
    have e : l.any kidBad = ((l.any fun o => o.1 == 11) || l.any fun o => touch o == 2) := by
      clear h1 hl
      induction l with
      | nil => rfl
      | cons x l ih =>
        simp only [List.any_cons, ih, kidBad]
        cases x.1 == 11 <;> cases touch x == 2 <;> simp
    rw [e]
    cases l.any fun o : Opn => o.1 == 11 <;> cases l.any fun o => touch o == 2 <;> rfl
theorem implKid_run {N : Nat} {l : List Opn} (hl : l.length ≤ 1048576) (hN : 1048576 < N) : Zcg N l = ret (kidOk l) := by
  unfold Zcg kidOk
  have h1 := loop_ix0 (l := l) (V := Unit) (R := Unit × (Bool × Unit)) (lp := fun n j v => Zck N l (some ((), (false, ()))) (fun t11 t12 => ((Zch N l).bind fun o13 => (some ((), (o13.2.1, ()))))) n j) (n := N) (by omega)
    (body := fun j x v k => bif kidBad x then some ((), (false, ())) else k v) (K := fun _ v => ret (cdOk l))
    (fun n i v hi => by
      simp only [Zck, ix_lt hi, ix_inb hi, ix_get hi, ix_succ (show i < 4611686018427387904 by omega), cond_true, implTouch_run, ret, Option.bind_some, kidBad]
      cases l[i].1 == 11 <;> rfl)
    (fun n v => by simp only [Zck, ix_ge (Nat.le_refl l.length), cond_false, implCode_run hl hN, ret, Option.bind_some]) ()
  refine h1.trans ?_
  rw [foldK_any (p := kidBad) (E := fun _ => some ((), (false, ()))) l 0 () (fun j x v k _ => rfl)]
  cases l.any kidBad <;> cases cdOk l <;> rfl
def regsOk (l : List Int) : Bool := decide (l.length = 4) && l.all isVal
theorem specRegs_run {N : Nat} {l : List Int} (hl : l.length ≤ 1048576) (hN : 1048576 < N) : Za4 N l = ret (regsOk l) := by
  unfold Za4 regsOk
  by_cases h : l.length = 4
  · have e : (ilen l != 4) = false := by simp [ilen, h]
    rw [e]
    simp only [cond_false]
    have h1 := loop_ix0 (l := l) (V := Unit) (R := Unit × (Bool × Unit)) (lp := fun n j v => Zb0 N l (some ((), (false, ()))) (fun i8 t9 => some ((), (true, ()))) n j) (n := N) (by omega)
      (body := fun j x v k => bif !isVal x then some ((), (false, ())) else k v) (K := fun _ v => some ((), (true, ())))
      (fun n i v hi => by simp only [Zb0, ix_lt hi, ix_inb hi, ix_get hi, ix_succ (show i < 4611686018427387904 by omega), cond_true, specVal_run, ret, Option.bind_some])
      (fun n v => by simp only [Zb0, ix_ge (Nat.le_refl l.length), cond_false]) ()
    refine h1.trans ?_
    rw [foldK_any (p := fun x => !isVal x) (E := fun _ => some ((), (false, ()))) l 0 () (fun j x v k _ => rfl), any_not]
    cases l.all isVal <;> simp [h]
  · have e : (ilen l != 4) = true := by simp [ilen]; omega
    rw [e]
    simp [h]
theorem implRegs_run {N : Nat} {l : List Int} (hl : l.length ≤ 1048576) (hN : 1048576 < N) : Zx N l 4 = ret (regsOk l) := by
  unfold Zx regsOk
  have h1 := loop_ix0 (l := l) (V := Unit) (R := Unit × (Bool × Unit)) (lp := fun n j v => Zad N l 4 (some ((), (false, ()))) (fun i8 t9 => some ((), ((ilen l) == (4 : Int), ()))) n j) (n := N) (by omega)
    (body := fun j x v k => bif !isVal x then some ((), (false, ())) else k v) (K := fun _ v => some ((), ((ilen l) == (4 : Int), ())))
    (fun n i v hi => by simp only [Zad, ix_lt hi, ix_inb hi, ix_get hi, ix_succ (show i < 4611686018427387904 by omega), cond_true, implVal_run, ret, Option.bind_some])
    (fun n v => by simp only [Zad, ix_ge (Nat.le_refl l.length), cond_false]) ()
  refine h1.trans ?_
  rw [foldK_any (p := fun x => !isVal x) (E := fun _ => some ((), (false, ()))) l 0 () (fun j x v k _ => rfl), any_not]
  have e : ((ilen l) == (4 : Int)) = decide (l.length = 4) := by
    by_cases h : l.length = 4
    · simp [ilen, h]
    · simp [ilen, h]; omega
  rw [e]
  cases l.all isVal <;> simp
end Go.Sx
