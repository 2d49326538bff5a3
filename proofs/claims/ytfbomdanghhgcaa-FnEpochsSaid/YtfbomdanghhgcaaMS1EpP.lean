/- Plain laws of the Lean functions. -/
import Derived.Test.YtfbomdanghhgcaaMFrEpPlay
/- Plain law: the play of the epochs. -/
namespace Go.Sx
set_option linter.unusedVariables false
set_option linter.unusedSimpArgs false

/-- a loop that goes through, with what holds on the way -/
theorem foldK_foldI {α V R : Type} {body : Int → α → V → (V → Option R) → Option R} {K : Int → V → Option R} {f : V → α → V} {I : Nat → V → Prop} {J : Nat} : ∀ (l : List α) (j : Nat) (v : V), j + l.length = J → I j v →
    (∀ (j : Nat) x v k, x ∈ l → j < J → I j v → body j x v k = k (f v x) ∧ I (j + 1) (f v x)) → foldK body K l j v = K (J : Int) (l.foldl f v)
  | [], j, v, hJ, _, _ => by subst hJ; rfl
  | x :: l, j, v, hJ, hI, h => by
    simp only [List.length_cons] at hJ
    have h0 := h j x v (foldK body K l (j + 1)) (List.mem_cons_self ..) (by omega) hI
    rw [foldK, h0.1, foldK_foldI l (j + 1) _ (by omega) h0.2 fun j y v k hy => h j y v k (List.mem_cons_of_mem _ hy), List.foldl_cons]

/-- a loop that ends at the first that fits: where -/
theorem foldK_first {α V R : Type} {body : Int → α → V → (V → Option R) → Option R} {K : Int → V → Option R} {p : α → Bool} {E : Int → V → Option R} : ∀ (l : List α) (j : Nat) (v : V), (∀ (j : Nat) x v k, x ∈ l → body j x v k = bif p x then E j v else k v) →
    (∃ a x r, l = a ++ x :: r ∧ (∀ y ∈ a, p y = false) ∧ p x = true ∧ foldK body K l j v = E ((j + a.length : Nat) : Int) v) ∨ ((∀ y ∈ l, p y = false) ∧ foldK body K l j v = K ((j + l.length : Nat) : Int) v)
  | [], j, v, _ => .inr ⟨by simp, rfl⟩
  | x :: l, j, v, h => by
    rw [foldK, h j x v _ (List.mem_cons_self ..)]
    cases hp : p x
    · simp only [cond_false]
      rcases foldK_first (E := E) l (j + 1) v fun j y v k hy => h j y v k (List.mem_cons_of_mem _ hy) with ⟨a, y, r, h1, h2, h3, h4⟩ | ⟨h1, h2⟩
      · refine .inl ⟨x :: a, y, r, by rw [h1]; rfl, fun z hz => ?_, h3, ?_⟩
        · rcases List.mem_cons.1 hz with rfl | hz
          · exact hp
          · exact h2 z hz
        · rw [h4, List.length_cons, show j + 1 + a.length = j + (a.length + 1) by omega]
      · refine .inr ⟨fun z hz => ?_, ?_⟩
        · rcases List.mem_cons.1 hz with rfl | hz
          · exact hp
          · exact h1 z hz
        · rw [h2, List.length_cons, show j + 1 + l.length = j + (l.length + 1) by omega]
    · exact .inl ⟨[], x, l, rfl, by simp, hp, rfl⟩

def oldB (E : Int) (b : Int × Int) : Bool := decide (b.2 + 2 ≤ E)
def busy (e : Eps) (p : Int) : Bool := decide (p ≥ 0) && (p != e.1)
def stepB (E : Int) (v : List (Int × Int) × List Int) (b : Int × Int) : List (Int × Int) × List Int := bif oldB E b then (v.1, List.append v.2 [b.1]) else (List.append v.1 [b], v.2)

def epMove (e : Eps) : Eps :=
  bif e.2.1.any (busy e) then e else
    (e.1 + 1, e.2.1, e.2.2.1, (e.2.2.2.1.foldl (stepB (e.1 + 1)) ([], e.2.2.2.2.2)).1, e.2.2.2.2.1, (e.2.2.2.1.foldl (stepB (e.1 + 1)) ([], e.2.2.2.2.2)).2)

structure EpInv (k : Nat) (e : Eps) : Prop where
  e0 : 0 ≤ e.1 ∧ e.1 ≤ k
  pl : e.2.1.length = 3
  pn : ∀ p ∈ e.2.1, p = -1 ∨ 0 ≤ p
  ln : e.2.2.1.length = 10
  bg : ∀ b ∈ e.2.2.2.1, 0 ≤ b.2 ∧ b.2 ≤ k
  sz : e.2.2.2.1.length + e.2.2.2.2.1.length + e.2.2.2.2.2.length ≤ k

theorem stepB_len (E : Int) : ∀ (l : List (Int × Int)) (v : List (Int × Int) × List Int), (l.foldl (stepB E) v).1.length + (l.foldl (stepB E) v).2.length = v.1.length + v.2.length + l.length
  | [], v => by simp
  | x :: l, v => by
    rw [List.foldl_cons, stepB_len E l]
    unfold stepB
    cases oldB E x <;> simp [List.append_eq] <;> omega

theorem stepB_mem (E : Int) : ∀ (l : List (Int × Int)) (v : List (Int × Int) × List Int) (b : Int × Int), b ∈ (l.foldl (stepB E) v).1 → b ∈ v.1 ∨ b ∈ l
  | [], v, b, h => .inl h
  | x :: l, v, b, h => by
    rw [List.foldl_cons] at h
    rcases stepB_mem E l _ b h with h | h
    · unfold stepB at h
      cases ho : oldB E x
      · rw [ho] at h
        simp [List.append_eq] at h
        rcases h with h | h
        · exact .inl h
        · exact .inr (by simp [h])
      · rw [ho] at h
        exact .inl h
    · exact .inr (List.mem_cons_of_mem _ h)

theorem EpInv.mono {k m : Nat} {e : Eps} (h : EpInv k e) (hm : k ≤ m) : EpInv m e :=
  ⟨⟨h.e0.1, by have := h.e0.2; omega⟩, h.pl, h.pn, h.ln, fun b hb => ⟨(h.bg b hb).1, by have := (h.bg b hb).2; omega⟩, by have := h.sz; omega⟩

theorem move_inv {k : Nat} {e : Eps} (h : EpInv k e) : EpInv (k + 1) (epMove e) := by
  unfold epMove
  cases e.2.1.any (busy e)
  · refine ⟨⟨by have := h.e0.1; simp only [cond_false]; omega, by have := h.e0.2; simp only [cond_false]; omega⟩, h.pl, h.pn, h.ln, fun b hb => ?_, ?_⟩
    · simp only [cond_false] at hb
      rcases stepB_mem _ _ _ _ hb with hb | hb
      · simp at hb
      · have := h.bg b hb
        exact ⟨this.1, by omega⟩
    · have := stepB_len (e.1 + 1) e.2.2.2.1 ([], e.2.2.2.2.2)
      have h2 := h.sz
      simp only [cond_false]
      simp at this
      omega
  · exact h.mono (by omega)

section
variable {N k : Nat} {e : Eps}

theorem specMove_run (hN : 1048576 < N) (h : EpInv k e) (hk : k ≤ 1000) : T_spec_l26Move N e = ret (epMove e) := by
  unfold T_spec_l26Move epMove
  have hE : iadd .i64 e.1 1 = e.1 + 1 := iadd_eq (by unfold I64; have := h.e0; omega)
  have h1 := fun (K0 K1 : Option (Unit × (Eps × Unit))) => loop_ix0 (l := e.2.1) (V := Unit) (R := Unit × (Eps × Unit)) (lp := fun n j _ => T_spec_l26Move_lp0 N e.1 e.2.1 e.2.2.1 e.2.2.2.1 e.2.2.2.2.1 e.2.2.2.2.2 K0 (fun _ _ => K1) n j) (n := N) (by rw [h.pl]; omega)
    (body := fun j p v k => bif busy e p then K0 else k v) (K := fun _ _ => K1)
    (fun n i v hi => by
      have e1 : decide ((i : Int) < 3) = true := by have := h.pl; simp; omega
      simp only [T_spec_l26Move_lp0, e1, ix_inb hi, ix_get hi, ix_succ (show i < 4611686018427387904 by have := h.pl; omega), cond_true, busy]
      cases decide (e.2.1[i] ≥ 0) <;> rfl)
    (fun n v => by
      have e1 : decide (((e.2.1.length : Nat) : Int) < 3) = false := by rw [h.pl]; rfl
      simp only [T_spec_l26Move_lp0, e1, cond_false]) ()
  have h2 := loop_ix0 (l := e.2.2.2.1) (V := List (Int × Int) × List Int) (R := Unit × (Eps × Unit)) (lp := fun n j v => T_spec_l26Move_lp1 N (e.1 + 1) e.2.1 e.2.2.1 e.2.2.2.1 e.2.2.2.2.1 (fun i27 t28 l29 l30 => (some ((), ((e.1 + 1, (e.2.1, (e.2.2.1, (l29, (e.2.2.2.2.1, l30))))), ())))) n j v.1 v.2) (n := N) (by have := h.sz; omega)
    (body := fun j x v k => bif decide (iadd .i64 x.2 2 ≤ e.1 + 1) then (bif room (v.2.length + [x.1].length) then k (v.1, List.append v.2 [x.1]) else none) else (bif room (v.1.length + [x].length) then k (List.append v.1 [x], v.2) else none))
    (K := fun _ v => (some ((), ((e.1 + 1, (e.2.1, (e.2.2.1, (v.1, (e.2.2.2.2.1, v.2))))), ()))))
    (fun n i v hi => by
      simp only [T_spec_l26Move_lp1, ix_lt hi, ix_inb hi, ix_get hi, ix_succ (show i < 4611686018427387904 by have := h.sz; omega), cond_true])
    (fun n v => by simp only [T_spec_l26Move_lp1, ix_ge (Nat.le_refl e.2.2.2.1.length), cond_false]) ([], e.2.2.2.2.2)
  simp only [] at h2
  simp only [hE, h2]
  refine (h1 _ _).trans ?_
  rw [foldK_any (p := busy e) (E := fun _ => some ((), (e, ()))) e.2.1 0 () (fun j x v k _ => rfl)]
  cases e.2.1.any (busy e)
  · simp only [cond_false]
    rw [foldK_foldI (f := stepB (e.1 + 1)) (I := fun j v => v.1.length + v.2.length = j + e.2.2.2.2.2.length) (J := e.2.2.2.1.length) e.2.2.2.1 0 _ (by omega) (by simp) ?_]
    intro j x v c hx hj hI
    have hb := h.bg x hx
    have e1 : iadd .i64 x.2 2 = x.2 + 2 := iadd_eq (by unfold I64; omega)
    have hs := h.sz
    have r1 : room (v.2.length + [x.1].length) = true := room_le (by simp; omega)
    have r2 : room (v.1.length + [x].length) = true := room_le (by simp; omega)
    rw [e1, r1, r2]
    unfold stepB oldB
    cases decide (x.2 + 2 ≤ e.1 + 1)
    · exact ⟨rfl, by simp [List.append_eq]; omega⟩
    · exact ⟨rfl, by simp [List.append_eq]; omega⟩
  · rfl

theorem implMove_run (hN : 1048576 < N) (h : EpInv k e) (hk : k ≤ 1000) : T_impl_Epochs_move N e = some ((epMove e, ()), ()) := by
  unfold T_impl_Epochs_move epMove
  have hE : iadd .i64 e.1 1 = e.1 + 1 := iadd_eq (by unfold I64; have := h.e0; omega)
  have hE2 : isub .i64 (e.1 + 1) 2 = e.1 + 1 - 2 := isub_eq (by unfold I64; have := h.e0; omega)
  have h1 := fun (K0 K1 : Option ((Eps × Unit) × Unit)) => loop_ix0 (l := e.2.1) (V := Unit) (R := (Eps × Unit) × Unit) (lp := fun n j _ => T_impl_Epochs_move_lp0 N (ilen e.2.1) e.1 e.2.1 e.2.2.1 e.2.2.2.1 e.2.2.2.2.1 e.2.2.2.2.2 (fun _ _ => K0) (fun _ _ => K1) n j) (n := N) (by rw [h.pl]; omega)
    (body := fun j p v k => bif busy e p then K0 else k v) (K := fun _ _ => K1)
    (fun n i v hi => by
      simp only [T_impl_Epochs_move_lp0, ix_lt hi, ix_inb hi, ix_get hi, ix_succ (show i < 4611686018427387904 by have := h.pl; omega), cond_true, busy]
      cases decide (e.2.1[i] ≥ 0) <;> rfl)
    (fun n v => by simp only [T_impl_Epochs_move_lp0, ix_ge (Nat.le_refl e.2.1.length), cond_false]) ()
  have h2 := loop_ix0 (l := e.2.2.2.1) (V := List (Int × Int) × List Int) (R := (Eps × Unit) × Unit) (lp := fun n j v => T_impl_Epochs_move_lp1 N (ilen e.2.2.2.1) (e.1 + 1) e.2.2.2.1 e.2.1 e.2.2.1 e.2.2.2.2.1 (fun t31 t32 l33 l34 => (some (((e.1 + 1, (e.2.1, (e.2.2.1, (l33, (e.2.2.2.2.1, l34))))), ()), ()))) n j v.1 v.2) (n := N) (by have := h.sz; omega)
    (body := fun j x v k => bif decide (x.2 ≤ e.1 + 1 - 2) then (bif room (v.2.length + [x.1].length) then k (v.1, List.append v.2 [x.1]) else none) else (bif room (v.1.length + [x].length) then k (List.append v.1 [x], v.2) else none))
    (K := fun _ v => (some (((e.1 + 1, (e.2.1, (e.2.2.1, (v.1, (e.2.2.2.2.1, v.2))))), ()), ())))
    (fun n i v hi => by
      simp only [T_impl_Epochs_move_lp1, ix_lt hi, ix_inb hi, ix_get hi, ix_succ (show i < 4611686018427387904 by have := h.sz; omega), cond_true, hE2])
    (fun n v => by simp only [T_impl_Epochs_move_lp1, ix_ge (Nat.le_refl e.2.2.2.1.length), cond_false]) ([], e.2.2.2.2.2)
  simp only [] at h2
  simp only [hE, h2]
  refine (h1 _ _).trans ?_
  rw [foldK_any (p := busy e) (E := fun _ => some ((e, ()), ())) e.2.1 0 () (fun j x v k _ => rfl)]
  cases e.2.1.any (busy e)
  · simp only [cond_false]
    rw [foldK_foldI (f := stepB (e.1 + 1)) (I := fun j v => v.1.length + v.2.length = j + e.2.2.2.2.2.length) (J := e.2.2.2.1.length) e.2.2.2.1 0 _ (by omega) (by simp) ?_]
    intro j x v c hx hj hI
    have hb := h.bg x hx
    have e1 : decide (x.2 ≤ e.1 + 1 - 2) = decide (x.2 + 2 ≤ e.1 + 1) := by apply decide_eq_decide.2; omega
    have hs := h.sz
    have r1 : room (v.2.length + [x.1].length) = true := room_le (by simp; omega)
    have r2 : room (v.1.length + [x].length) = true := room_le (by simp; omega)
    rw [e1, r1, r2]
    unfold stepB oldB
    cases decide (x.2 + 2 ≤ e.1 + 1)
    · exact ⟨rfl, by simp [List.append_eq]; omega⟩
    · exact ⟨rfl, by simp [List.append_eq]; omega⟩
  · rfl
end

/-! deleting -/
abbrev DelK (α : Type) := Int → Int → Bool → List α → (Int × Int × Int) → Option (((Int × Int × Int) × Unit) × (List α × Unit))

theorem del_lp {N : Nat} (a0 : Int × Int × Int) {R : Type} (K : Int → Int → Bool → List (Int × Int) → (Int × Int × Int) → Option R) :
    ∀ (r a m : List (Int × Int)) (n : Nat), r.length < n → a.length + m.length + r.length ≤ 1048576 → ∃ m', 
      T_slices_DeleteFunc___impl_EpHold_impl_EpHold___impl_Epochs_act_1_lp0 N K n (a.length : Int) ((a.length + m.length : Nat) : Int) (a ++ m ++ r) a0 =
        K ((a ++ r.filter fun x => !(x.1 == a0.2.1)).length : Int) ((a.length + m.length + r.length : Nat) : Int) false ((a ++ r.filter fun x => !(x.1 == a0.2.1)) ++ m') a0
  | [], a, m, 0, h, _ => by simp at h
  | [], a, m, n + 1, h, _ => by
    refine ⟨m, ?_⟩
    have e1 : decide (((a.length + m.length : Nat) : Int) < ilen (a ++ m ++ [])) = false := by simp [ilen]
    simp only [T_slices_DeleteFunc___impl_EpHold_impl_EpHold___impl_Epochs_act_1_lp0, e1, cond_false]
    simp
  | x :: r, a, m, 0, h, _ => by simp at h
  | x :: r, a, m, n + 1, h, hb => by
    simp only [List.length_cons] at h hb
    have hj : a.length + m.length < (a ++ m ++ x :: r).length := by simp
    have hi : a.length < (a ++ m ++ x :: r).length := by simp; omega
    have hx : List.getD (a ++ m ++ x :: r) (a.length + m.length) ((0 : Int), (0 : Int)) = x := by
      have : a.length + m.length = (a ++ m).length := by simp
      rw [this, List.getD_eq_getElem?_getD, List.getElem?_append_right (Nat.le_refl _)]
      simp
    cases hp : x.1 == a0.2.1
    · obtain ⟨m2, hm2, hm3⟩ : ∃ m2 : List (Int × Int), m2.length = m.length ∧ (a ++ m ++ x :: r).set a.length x = (a ++ [x]) ++ m2 ++ r := by
        cases m with
        | nil => exact ⟨[], rfl, by rw [List.append_nil, set_append_len]; simp⟩
        | cons y m => exact ⟨m ++ [x], by simp, by rw [show a ++ (y :: m) ++ x :: r = a ++ y :: (m ++ x :: r) by simp, set_append_len]; simp⟩
      obtain ⟨m', ih⟩ := del_lp (N := N) a0 K r (a ++ [x]) m2 n (by omega) (by simp; omega)
      refine ⟨m', ?_⟩
      simp only [T_slices_DeleteFunc___impl_EpHold_impl_EpHold___impl_Epochs_act_1_lp0, T_impl_Epochs_act_1, ix_lt hj, ix_inb hj, ix_inb hi, Int.toNat_natCast, hx, hp, Option.bind_some, cond_true, Bool.not_false, Int.toNat_natCast, hm3,
        ix_succ (show a.length < 4611686018427387904 by omega), ix_succ (show a.length + m.length < 4611686018427387904 by omega)]
      have l1 : (a ++ [x]).length = a.length + 1 := by simp
      rw [l1, hm2, show a.length + 1 + m.length = a.length + m.length + 1 by omega] at ih
      rw [ih]
      simp only [List.filter_cons, hp, Bool.not_false, if_true, List.append_assoc, List.singleton_append, List.length_cons]
      rw [show a.length + m.length + 1 + r.length = a.length + m.length + (r.length + 1) by omega]
    · obtain ⟨m', ih⟩ := del_lp (N := N) a0 K r a (m ++ [x]) n (by omega) (by simp; omega)
      refine ⟨m', ?_⟩
      simp only [T_slices_DeleteFunc___impl_EpHold_impl_EpHold___impl_Epochs_act_1_lp0, T_impl_Epochs_act_1, ix_lt hj, ix_inb hj, ix_inb hi, Int.toNat_natCast, hx, hp, Option.bind_some, cond_true, cond_false, Bool.not_true,
        ix_succ (show a.length + m.length < 4611686018427387904 by omega)]
      simp only [List.length_append, List.length_cons, List.length_nil, Nat.zero_add] at ih
      rw [show a.length + (m.length + 1) = a.length + m.length + 1 by omega, show a ++ (m ++ [x]) ++ r = a ++ m ++ x :: r by simp] at ih
      rw [ih]
      simp only [List.filter_cons, hp, Bool.not_true, if_false, Bool.false_eq_true, List.length_cons]
      simp only [List.length_append]
      rw [show a.length + m.length + 1 + r.length = a.length + m.length + (r.length + 1) by omega]

theorem delete_run {N : Nat} {s : List (Int × Int)} {a0 : Int × Int × Int} (hN : 1048576 < N) (hs : s.length ≤ 100000) :
    T_slices_DeleteFunc___impl_EpHold_impl_EpHold___impl_Epochs_act_1 N s a0 = some ((a0, ()), (s.filter fun x => !(x.1 == a0.2.1), ())) := by
  unfold T_slices_DeleteFunc___impl_EpHold_impl_EpHold___impl_Epochs_act_1
  have h1 := loop_ix0 (l := s) (V := { v : Int × Int × Int // v = a0 }) (R := ((Int × Int × Int) × Unit) × (Int × Unit)) (lp := fun n j v => T_slices_IndexFunc___impl_EpHold_impl_EpHold___impl_Epochs_act_1_lp0 N s (fun t15 b16 => some ((b16, ()), (t15, ()))) (fun t17 t18 b19 => some ((b19, ()), ((-1 : Int), ()))) n j v.1) (n := N) (by omega)
    (body := fun j x v k => bif x.1 == a0.2.1 then some ((v.1, ()), (j, ())) else k v) (K := fun _ v => some ((v.1, ()), ((-1 : Int), ())))
    (fun n i v hi => by
      obtain ⟨v, rfl⟩ := v
      simp only [T_slices_IndexFunc___impl_EpHold_impl_EpHold___impl_Epochs_act_1_lp0, ix_lt hi, ix_inb hi, ix_get hi, ix_succ (show i < 4611686018427387904 by omega), cond_true, T_impl_Epochs_act_1, Option.bind_some])
    (fun n v => by simp only [T_slices_IndexFunc___impl_EpHold_impl_EpHold___impl_Epochs_act_1_lp0, ix_ge (Nat.le_refl s.length), cond_false]) ⟨a0, rfl⟩
  simp only [] at h1
  unfold T_slices_IndexFunc___impl_EpHold_impl_EpHold___impl_Epochs_act_1
  rw [h1]
  rcases foldK_first (body := fun j x (v : { v : Int × Int × Int // v = a0 }) k => bif x.1 == a0.2.1 then some ((v.1, ()), (j, ())) else k v) (K := fun _ v => (some ((v.1, ()), ((-1 : Int), ())) : Option (((Int × Int × Int) × Unit) × (Int × Unit)))) (p := fun x => x.1 == a0.2.1)
    (E := fun j v => some ((v.1, ()), (j, ()))) s 0 ⟨a0, rfl⟩ (fun j x v k _ => rfl) with ⟨a, x, r, hs', ha, hx, hr⟩ | ⟨ha, hr⟩
  · rw [hr]
    simp only [Option.bind_some, Nat.zero_add]
    have e0 : ((a.length : Int) == -1) = false := by simp
    rw [e0, ix_succ (show a.length < 4611686018427387904 by rw [hs'] at hs; simp at hs; omega)]
    simp only [cond_false]
    obtain ⟨m', hd⟩ := del_lp (N := N) a0 (fun i15 j16 t17 l18 b19 =>
          (bif (decide ((0 : Int) ≤ i15)) && (decide (i15 ≤ ((List.length l18) : Int))) then
            (bif (decide ((0 : Int) ≤ i15)) && (decide (i15 ≤ ((List.length ((List.take (Int.toNat i15) l18) ++ List.replicate ((List.length l18) - (Int.toNat i15)) ((0 : Int), (0 : Int)) ++ (List.drop (List.length l18) l18))) : Int))) then
              (some ((b19, ()), (List.take (Int.toNat i15) ((List.take (Int.toNat i15) l18) ++ List.replicate ((List.length l18) - (Int.toNat i15)) ((0 : Int), (0 : Int)) ++ (List.drop (List.length l18) l18)), ()))) else none) else none)) r a [x] N (by rw [hs'] at hs; simp at hs; omega) (by rw [hs'] at hs; simp at hs; simp; omega)
    rw [show a ++ [x] ++ r = s by rw [hs']; simp] at hd
    simp only [List.length_cons, List.length_nil, Nat.zero_add] at hd
    rw [hd]
    have hf : (s.filter fun x => !(x.1 == a0.2.1)) = a ++ r.filter fun x => !(x.1 == a0.2.1) := by
      rw [hs', List.filter_append, List.filter_cons]
      have : (a.filter fun x => !(x.1 == a0.2.1)) = a := List.filter_eq_self.2 fun y hy => by simp [ha y hy]
      rw [this]
      simp [hx]
    rw [← hf]
    generalize (s.filter fun x => !(x.1 == a0.2.1)) = f
    have c1 : (decide ((0 : Int) ≤ (f.length : Int)) && decide ((f.length : Int) ≤ ((List.length (f ++ m')) : Int))) = true := by
      rw [Bool.and_eq_true]
      refine ⟨by simp, decide_eq_true ?_⟩
      rw [List.length_append]; omega
    rw [c1]
    simp only [cond_true, Int.toNat_natCast, List.take_left', List.take_append_of_le_length (Nat.le_refl f.length), List.take_length]
    have c2 : (decide ((0 : Int) ≤ (f.length : Int)) && decide ((f.length : Int) ≤ ((List.length (f ++ List.replicate ((f ++ m').length - f.length) ((0 : Int), (0 : Int)) ++ List.drop (f ++ m').length (f ++ m'))) : Int))) = true := by
      rw [Bool.and_eq_true]
      refine ⟨by simp, decide_eq_true ?_⟩
      rw [List.length_append, List.length_append]; omega
    rw [c2]
    simp [List.append_assoc]
  · rw [hr]
    simp only [Option.bind_some]
    have : (s.filter fun x => !(x.1 == a0.2.1)) = s := List.filter_eq_self.2 fun y hy => by simp [ha y hy]
    rw [this]
    rfl
end Go.Sx
