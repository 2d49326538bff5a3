/- Plain laws of the Lean functions. -/
import Derived.Test.YtfbomdanghhgcaaMS1EpP
/- Plain law: the plays of the epochs agree. -/
namespace Go.Sx
set_option linter.unusedVariables false
set_option linter.unusedSimpArgs false

def inR (x a b : Int) : Bool := decide (a ≤ x) && decide (x ≤ b)
def hasH (e : Eps) (h : Int × Int) : Bool := e.2.2.2.2.1.any fun x => x.1 == h.1 && x.2 == h.2

def epAct (e : Eps) (a : Int × Int × Int) : Eps :=
  bif a.1 == 5 then epMove e else
  bif !inR a.2.1 0 2 then e else
  bif !inR a.2.2 0 9 then e else
  bif a.1 == 1 then (bif e.2.1.getD a.2.1.toNat 0 == -1 then (e.1, e.2.1.set a.2.1.toNat e.1, e.2.2) else e) else
  bif a.1 == 2 then (e.1, e.2.1.set a.2.1.toNat (-1), e.2.2.1, e.2.2.2.1, e.2.2.2.2.1.filter fun x => !(x.1 == a.2.1), e.2.2.2.2.2) else
  bif a.1 == 3 then (bif e.2.1.getD a.2.1.toNat 0 != -1 then (bif e.2.2.1.getD a.2.2.toNat false then (bif !hasH e a.2 then (e.1, e.2.1, e.2.2.1, e.2.2.2.1, List.append e.2.2.2.2.1 [a.2], e.2.2.2.2.2) else e) else e) else e) else
  bif a.1 == 4 then (bif e.2.1.getD a.2.1.toNat 0 != -1 then (bif e.2.2.1.getD a.2.2.toNat false then (e.1, e.2.1, e.2.2.1.set a.2.2.toNat false, List.append e.2.2.2.1 [(a.2.2, e.1)], e.2.2.2.2) else e) else e) else e

theorem act_inv {k : Nat} {e : Eps} {a : Int × Int × Int} (h : EpInv k e) : EpInv (k + 1) (epAct e a) := by
  unfold epAct
  have h' := h.mono (show k ≤ k + 1 by omega)
  have hsz := h.sz
  cases a.1 == 5
  · cases !inR a.2.1 0 2
    · cases !inR a.2.2 0 9
      · simp only [cond_false]
        cases a.1 == 1
        · cases a.1 == 2
          · cases a.1 == 3
            · cases a.1 == 4
              · exact h'
              · cases e.2.1.getD a.2.1.toNat 0 != -1
                · exact h'
                · cases e.2.2.1.getD a.2.2.toNat false
                  · exact h'
                  · refine ⟨h'.e0, h.pl, h.pn, by simp [h.ln], fun b hb => ?_, by simp [List.append_eq]; omega⟩
                    simp [List.append_eq] at hb
                    rcases hb with hb | hb
                    · exact h'.bg b hb
                    · rw [hb]; exact ⟨h.e0.1, by have := h.e0.2; simp only [cond_true]; omega⟩
            · cases e.2.1.getD a.2.1.toNat 0 != -1
              · exact h'
              · cases e.2.2.1.getD a.2.2.toNat false
                · exact h'
                · cases !hasH e a.2
                  · exact h'
                  · exact ⟨h'.e0, h.pl, h.pn, h.ln, h'.bg, by simp [List.append_eq]; omega⟩
          · refine ⟨h'.e0, by simp [h.pl], fun p hp => ?_, h.ln, h'.bg, ?_⟩
            · rcases List.mem_or_eq_of_mem_set hp with hp | hp
              · exact h.pn p hp
              · exact .inl hp
            · have := List.length_filter_le (fun x : Int × Int => !(x.1 == a.2.1)) e.2.2.2.2.1
              simp only [cond_true, cond_false]
              omega
        · cases e.2.1.getD a.2.1.toNat 0 == -1
          · exact h'
          · refine ⟨h'.e0, by simp [h.pl], fun p hp => ?_, h.ln, h'.bg, by simp only [cond_true]; omega⟩
            rcases List.mem_or_eq_of_mem_set hp with hp | hp
            · exact h.pn p hp
            · rw [hp]; exact .inr h.e0.1
      · exact h'
    · exact h'
  · exact move_inv h

section
variable {N k : Nat} {e : Eps} {a : Int × Int × Int}

theorem inR_inb {x b : Int} {n : Nat} (h : inR x 0 b = true) (hn : b < n) : inb x n = true := by
  unfold inR at h
  simp at h
  unfold inb
  simp; omega

theorem pin_eq (h : EpInv k e) (i : Nat) : decide (e.2.1.getD i 0 ≥ 0) = (e.2.1.getD i 0 != -1) := by
  have key : e.2.1.getD i 0 = -1 ∨ 0 ≤ e.2.1.getD i 0 := by
    by_cases hi : i < e.2.1.length
    · rw [ix_getm hi]
      exact h.pn _ (List.getElem_mem hi)
    · rw [List.getD_eq_getElem?_getD, List.getElem?_eq_none (by omega)]
      exact .inr (Int.le_refl _)
  generalize e.2.1.getD i 0 = p at key
  rcases key with rfl | hp
  · rfl
  · have e1 : decide (p ≥ 0) = true := by simpa using hp
    have e2 : (p != -1) = true := by simp; omega
    rw [e1, e2]

theorem containsH_run (hN : 1048576 < N) {s : List (Int × Int)} {v : Int × Int} (hs : s.length ≤ 100000) : T_slices_Contains___impl_EpHold_impl_EpHold_ N s v = ret (s.any fun x => x.1 == v.1 && x.2 == v.2) := by
  unfold T_slices_Contains___impl_EpHold_impl_EpHold_ T_slices_Index___impl_EpHold_impl_EpHold_
  have h1 := loop_ix0 (l := s) (V := Unit) (R := Unit × (Int × Unit)) (lp := fun n j _ => T_slices_Index___impl_EpHold_impl_EpHold__lp0 N s v (fun t10 => some ((), (t10, ()))) (fun t11 t12 => some ((), ((-1 : Int), ()))) n j) (n := N) (by omega)
    (body := fun j x _ k => bif (ieq v.1 x.1) && ((ieq v.2 x.2) && true) then some ((), (j, ())) else k ()) (K := fun _ _ => some ((), ((-1 : Int), ())))
    (fun n i v hi => by simp only [T_slices_Index___impl_EpHold_impl_EpHold__lp0, ix_lt hi, ix_inb hi, ix_get hi, ix_succ (show i < 4611686018427387904 by omega), cond_true])
    (fun n v => by simp only [T_slices_Index___impl_EpHold_impl_EpHold__lp0, ix_ge (Nat.le_refl s.length), cond_false]) ()
  have hp : (fun x : Int × Int => (ieq v.1 x.1) && ((ieq v.2 x.2) && true)) = fun x => x.1 == v.1 && x.2 == v.2 := by
    funext x
    rw [Bool.and_true]
    unfold ieq
    rw [Bool.eq_iff_iff]
    simp
    exact ⟨fun ⟨a, b⟩ => ⟨a.symm, b.symm⟩, fun ⟨a, b⟩ => ⟨a.symm, b.symm⟩⟩
  rcases foldK_idx (body := fun j x _ k => bif (ieq v.1 x.1) && ((ieq v.2 x.2) && true) then some ((), (j, ())) else k ()) (K := fun _ _ => (some ((), ((-1 : Int), ())) : Option (Unit × (Int × Unit)))) (p := fun x => (ieq v.1 x.1) && ((ieq v.2 x.2) && true)) (E := fun j _ => some ((), (j, ()))) s 0 () (fun j x _ k _ => rfl) with ⟨ha, i, hi⟩ | ⟨ha, hi⟩
  · rw [hp] at ha
    rw [h1.trans hi, ha]; simp
  · rw [hp] at ha
    rw [h1.trans hi, ha]; rfl

theorem implAct_run (hN : 1048576 < N) (h : EpInv k e) (hk : k ≤ 1000) : T_impl_Epochs_act N e a = some ((epAct e a, ()), ()) := by
  unfold T_impl_Epochs_act epAct
  have hsz := h.sz
  have hdel := delete_run (N := N) (s := e.2.2.2.2.1) (a0 := a) hN (by omega)
  have hcon := containsH_run (N := N) (s := e.2.2.2.2.1) (v := a.2) hN (by omega)
  have hmv := implMove_run (N := N) hN h hk
  have r1 : room (e.2.2.2.2.1.length + [a.2].length) = true := room_le (by simp; omega)
  have r2 : room (e.2.2.2.1.length + [(a.2.2, e.1)].length) = true := room_le (by simp; omega)
  simp only [hmv, hdel, hcon, within_eq, ret, Option.bind_some, r1, r2, cond_true]
  rw [show (decide (0 ≤ a.2.1) && decide (a.2.1 ≤ 2)) = inR a.2.1 0 2 from rfl, show (decide (0 ≤ a.2.2) && decide (a.2.2 ≤ 9)) = inR a.2.2 0 9 from rfl]
  cases a.1 == 5
  · cases hA : inR a.2.1 0 2
    · rfl
    · cases hB : inR a.2.2 0 9
      · rfl
      · rw [inR_inb hA (show (2 : Int) < (e.2.1.length : Nat) by rw [h.pl]; decide), inR_inb hB (show (9 : Int) < (e.2.2.1.length : Nat) by rw [h.ln]; decide)]
        simp only [cond_true, cond_false, Bool.not_true, hasH]
        cases a.1 == 1
        · cases a.1 == 2
          · cases a.1 == 3
            · cases a.1 == 4
              · rfl
              · cases e.2.1.getD a.2.1.toNat 0 != -1
                · rfl
                · cases e.2.2.1.getD a.2.2.toNat false <;> rfl
            · cases e.2.1.getD a.2.1.toNat 0 != -1
              · rfl
              · cases e.2.2.1.getD a.2.2.toNat false
                · rfl
                · cases e.2.2.2.2.1.any fun x => x.1 == a.2.1 && x.2 == a.2.2 <;> rfl
          · rfl
        · cases e.2.1.getD a.2.1.toNat 0 == -1 <;> rfl
  · rfl

theorem any_or (q : Int × Int → Bool) : ∀ (l : List (Int × Int)) (v : Bool), l.foldl (fun v x => v || q x) v = (v || l.any q)
  | [], v => by simp
  | x :: l, v => by rw [List.foldl_cons, any_or q l, List.any_cons, Bool.or_assoc]

theorem specAct_run (hN : 1048576 < N) (h : EpInv k e) (hk : k ≤ 1000) : T_spec_l26Act N e a = ret (epAct e a) := by
  unfold T_spec_l26Act epAct
  have hsz := h.sz
  have hmv := specMove_run (N := N) hN h hk
  have r1 : room (e.2.2.2.2.1.length + [a.2].length) = true := room_le (by simp; omega)
  have r2 : room (e.2.2.2.1.length + [(a.2.2, e.1)].length) = true := room_le (by simp; omega)
  have h0 := fun (p : List Int) => loop_ix0 (l := e.2.2.2.2.1) (V := List (Int × Int)) (R := Unit × (Eps × Unit)) (lp := fun n j v => T_spec_l26Act_lp0 N e.1 a p e.2.2.1 e.2.2.2.1 e.2.2.2.2.1 e.2.2.2.2.2 (fun i19 t20 l21 => (some ((), ((e.1, (p, (e.2.2.1, (e.2.2.2.1, (l21, e.2.2.2.2.2))))), ())))) n j v) (n := N) (by omega)
    (body := fun j x v k => bif x.1 != a.2.1 then (bif room (v.length + [x].length) then k (List.append v [x]) else none) else k v) (K := fun _ v => some ((), ((e.1, (p, (e.2.2.1, (e.2.2.2.1, (v, e.2.2.2.2.2))))), ())))
    (fun n i v hi => by simp only [T_spec_l26Act_lp0, ix_lt hi, ix_inb hi, ix_get hi, ix_succ (show i < 4611686018427387904 by omega), cond_true])
    (fun n v => by simp only [T_spec_l26Act_lp0, ix_ge (Nat.le_refl e.2.2.2.2.1.length), cond_false]) []
  have h0' : ∀ p : List Int, T_spec_l26Act_lp0 N e.1 a p e.2.2.1 e.2.2.2.1 e.2.2.2.2.1 e.2.2.2.2.2 (fun i19 t20 l21 => (some ((), ((e.1, (p, (e.2.2.1, (e.2.2.2.1, (l21, e.2.2.2.2.2))))), ())))) N 0 ([] : List (Int × Int)) = some ((), ((e.1, (p, (e.2.2.1, (e.2.2.2.1, (e.2.2.2.2.1.filter (fun x => !(x.1 == a.2.1)), e.2.2.2.2.2))))), ())) := fun p => by
    refine (h0 p).trans ?_
    rw [foldK_foldI (f := fun v x => bif x.1 != a.2.1 then List.append v [x] else v) (I := fun j v => v.length ≤ j) (J := e.2.2.2.2.1.length) e.2.2.2.2.1 0 _ (by omega) (by simp) ?_]
    · have : ∀ (l v : List (Int × Int)), l.foldl (fun v x => bif x.1 != a.2.1 then List.append v [x] else v) v = v ++ l.filter fun x => !(x.1 == a.2.1) := by
        intro l
        induction l with
        | nil => intro v; simp
        | cons x l ih =>
          intro v
          rw [List.foldl_cons, ih, List.filter_cons]
          cases hx : x.1 == a.2.1 <;> simp [bne, hx, List.append_eq]
      rw [this]
      rfl
    · intro j x v c hx hj hI
      have r : room (v.length + [x].length) = true := room_le (by simp; omega)
      rw [r]
      cases x.1 != a.2.1
      · exact ⟨rfl, Nat.le_trans hI (by omega)⟩
      · exact ⟨rfl, by simp [List.append_eq]; omega⟩
  have h1 := fun (pb : Bool) (K : Bool → Option (Unit × (Eps × Unit))) => loop_ix0 (l := e.2.2.2.2.1) (V := Bool) (R := Unit × (Eps × Unit)) (lp := fun n j v => T_spec_l26Act_lp1 N pb e.1 a a.2 e.2.1 e.2.2.1 e.2.2.2.1 e.2.2.2.2.1 e.2.2.2.2.2 (fun has _ _ => K has) n v j) (n := N) (by omega)
    (body := fun j x v k => k (v || (x.1 == a.2.1 && x.2 == a.2.2))) (K := fun _ v => K v)
    (fun n i v hi => by
      simp only [T_spec_l26Act_lp1, ix_lt hi, ix_inb hi, ix_get hi, ix_succ (show i < 4611686018427387904 by omega), cond_true, Bool.and_true, ieq]
      cases v <;> rfl)
    (fun n v => by simp only [T_spec_l26Act_lp1, ix_ge (Nat.le_refl e.2.2.2.2.1.length), cond_false]) false
  have h1' : ∀ (pb : Bool) (K : Bool → Option (Unit × (Eps × Unit))), T_spec_l26Act_lp1 N pb e.1 a a.2 e.2.1 e.2.2.1 e.2.2.2.1 e.2.2.2.2.1 e.2.2.2.2.2 (fun has _ _ => K has) N false 0 = K (hasH e a.2) := fun pb K => by
    refine (h1 pb K).trans ?_
    rw [foldK_fold (f := fun v x => v || (x.1 == a.2.1 && x.2 == a.2.2)) e.2.2.2.2.1 0 false (fun j x v k _ => rfl), any_or (fun x => x.1 == a.2.1 && x.2 == a.2.2)]
    rfl
  simp only [hmv, in_eq, ret, Option.bind_some, r1, r2, cond_true, h0', pin_eq h]
  rw [show (decide (0 ≤ a.2.1) && decide (a.2.1 ≤ 2)) = inR a.2.1 0 2 from rfl, show (decide (0 ≤ a.2.2) && decide (a.2.2 ≤ 9)) = inR a.2.2 0 9 from rfl]
  cases a.1 == 5
  · cases hA : inR a.2.1 0 2
    · rfl
    · cases hB : inR a.2.2 0 9
      · rfl
      · rw [inR_inb hA (show (2 : Int) < (e.2.1.length : Nat) by rw [h.pl]; decide), inR_inb hB (show (9 : Int) < (e.2.2.1.length : Nat) by rw [h.ln]; decide)]
        simp only [cond_true, cond_false, Bool.not_true]
        rw [h1' _ (fun has => bif e.2.1.getD a.2.1.toNat 0 != -1 then (bif e.2.2.1.getD a.2.2.toNat false then (bif !has then some ((), ((e.1, (e.2.1, (e.2.2.1, (e.2.2.2.1, (List.append e.2.2.2.2.1 [a.2], e.2.2.2.2.2))))), ())) else some ((), (e, ()))) else some ((), (e, ()))) else some ((), (e, ())))]
        cases a.1 == 1
        · cases a.1 == 2
          · cases a.1 == 3
            · cases a.1 == 4
              · rfl
              · cases e.2.1.getD a.2.1.toNat 0 != -1
                · rfl
                · cases e.2.2.1.getD a.2.2.toNat false <;> rfl
            · cases e.2.1.getD a.2.1.toNat 0 != -1
              · rfl
              · cases e.2.2.1.getD a.2.2.toNat false
                · rfl
                · cases hasH e a.2 <;> rfl
          · rfl
        · unfold bne
          cases e.2.1.getD a.2.1.toNat 0 == -1 <;> rfl
  · rfl
end
end Go.Sx
