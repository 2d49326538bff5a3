/- Plain laws of the Lean functions. -/
import Derived.Test.YtfbomdanghhgcaaMS1EpS
/- Plain law: is a state of the epochs whole? -/
namespace Go.Sx
set_option linter.unusedVariables false
set_option linter.unusedSimpArgs false

theorem ix_getm {α : Type} {l : List α} {j : Nat} (h : j < l.length) (d : α) : List.getD l j d = l[j] := by simp [h]

/-- a loop that fails at the first that does not fit, and else goes on -/
theorem foldK_ok {α V R : Type} {body : Int → α → V → (V → Option R) → Option R} {K : Int → V → Option R} {p : α → Bool} {f : V → α → V} {E : Option R} : ∀ (l : List α) (j : Nat) (v : V), (∀ (j : Nat) x v k, x ∈ l → body j x v k = bif !p x then E else k (f v x)) →
    foldK body K l j v = bif l.all p then K ((j + l.length : Nat) : Int) (l.foldl f v) else E
  | [], j, v, _ => rfl
  | x :: l, j, v, h => by
    rw [foldK, h j x v _ (List.mem_cons_self ..), foldK_ok l (j + 1) _ fun j y v k hy => h j y v k (List.mem_cons_of_mem _ hy), List.all_cons]
    cases p x
    · rfl
    · simp only [Bool.not_true, cond_false, Bool.true_and, List.length_cons, List.foldl_cons]
      rw [show j + 1 + l.length = j + (l.length + 1) by omega]

def node (x : Int) : Bool := decide (0 ≤ x) && decide (x ≤ 9)
def pinOk (ep p : Int) : Bool := (p == -1) || (decide (ep - 1 ≤ p) && decide (p ≤ ep))
def epIn (ep p : Int) : Bool := decide (ep - 1 ≤ p) && decide (p ≤ ep)
def holdOk (pins : List Int) (h : Int × Int) : Bool := (decide (0 ≤ h.1) && decide (h.1 ≤ 2)) && (node h.2 && !decide (pins.getD h.1.toNat 0 < 0))
def lnk (b : Bool) : Int := bif b then 1 else 0
def bump (v : List Int) (n : Int) : List Int := v.set n.toNat (iadd .i64 (v.getD n.toNat 0) 1)

theorem bump_len (v : List Int) (n : Int) : (bump v n).length = v.length := by simp [bump]
theorem bumps_len (l : List Int) : ∀ v : List Int, (l.foldl bump v).length = v.length := by
  induction l with
  | nil => intro v; rfl
  | cons x l ih => intro v; rw [List.foldl_cons, ih, bump_len]

theorem bump_comm (v : List Int) (a b : Int) : bump (bump v a) b = bump (bump v b) a := by
  unfold bump
  by_cases h : a.toNat = b.toNat
  · rw [h]
  · have h' : b.toNat ≠ a.toNat := fun e => h e.symm
    have g1 : ∀ x, (v.set a.toNat x).getD b.toNat 0 = v.getD b.toNat 0 := fun x => by
      rw [List.getD_eq_getElem?_getD, List.getD_eq_getElem?_getD, List.getElem?_set]
      rw [if_neg h]
    have g2 : ∀ x, (v.set b.toNat x).getD a.toNat 0 = v.getD a.toNat 0 := fun x => by
      rw [List.getD_eq_getElem?_getD, List.getD_eq_getElem?_getD, List.getElem?_set]
      rw [if_neg h']
    rw [g1, g2, List.set_comm _ _ h]

theorem bumps_bump (l : List Int) : ∀ (v : List Int) (a : Int), l.foldl bump (bump v a) = bump (l.foldl bump v) a := by
  induction l with
  | nil => intro v a; rfl
  | cons x l ih => intro v a; rw [List.foldl_cons, List.foldl_cons, bump_comm, ih]

theorem bumps_swap (a b : List Int) (v : List Int) : b.foldl bump (a.foldl bump v) = a.foldl bump (b.foldl bump v) := by
  induction a generalizing v with
  | nil => rfl
  | cons x a ih => rw [List.foldl_cons, List.foldl_cons, ih, bumps_bump]

abbrev Ten := { v : List Int // v.length = 10 }
def tbump (v : Ten) (n : Int) : Ten := ⟨bump v.1 n, by rw [bump_len]; exact v.2⟩
theorem tbumps (l : List Int) (v : Ten) : (l.foldl tbump v).1 = l.foldl bump v.1 := by
  induction l generalizing v with
  | nil => rfl
  | cons x l ih => rw [List.foldl_cons, List.foldl_cons, ih]; rfl

theorem links {R : Type} {body : Int → Bool → List Int → (List Int → Option R) → Option R} {K : Int → List Int → Option R} : ∀ (l : List Bool) (d : List Int),
    (∀ (j : Nat) x (v : List Int) k, v.getD j 0 = 0 → j < v.length → body j x v k = k (bif x then v.set j 1 else v)) →
    foldK body K l d.length (d ++ List.replicate l.length 0) = K ((d.length + l.length : Nat) : Int) (d ++ l.map lnk)
  | [], d, h => by simp [foldK]
  | x :: l, d, h => by
    have e0 : (d ++ List.replicate (l.length + 1) (0 : Int)).getD d.length 0 = 0 := by simp [List.getD_eq_getElem?_getD, List.replicate_succ]
    rw [foldK, List.length_cons, h d.length x _ _ e0 (by simp)]
    have e1 : (bif x then (d ++ List.replicate (l.length + 1) (0 : Int)).set d.length 1 else d ++ List.replicate (l.length + 1) 0) = (d ++ [lnk x]) ++ List.replicate l.length 0 := by
      cases x
      · simp [lnk, List.replicate_succ]
      · rw [List.replicate_succ]
        show (d ++ 0 :: List.replicate l.length 0).set d.length 1 = _
        rw [set_append_len]
        simp [lnk]
    rw [e1]
    have ih := links (K := K) l (d ++ [lnk x]) h
    rw [List.length_append] at ih
    simp only [List.length_cons, List.length_nil, Nat.zero_add] at ih
    rw [ih]
    rw [show d.length + 1 + l.length = d.length + (l.length + 1) by omega]
    simp

def epOk (e : Eps) : Bool :=
  decide (e.2.1.length = 3) && (decide (e.2.2.1.length = 10) && ((decide (0 ≤ e.1) && decide (e.1 ≤ 205)) && (e.2.1.all (pinOk e.1) &&
    ((e.2.2.2.1.all fun b => node b.1 && epIn e.1 b.2) && (e.2.2.2.2.2.all node && ((e.2.2.2.2.2.foldl bump ((e.2.2.2.1.map (·.1)).foldl bump (e.2.2.1.map lnk))).all (· == 1) && e.2.2.2.2.1.all (holdOk e.2.1)))))))

theorem any_notp {α : Type} (p : α → Bool) (l : List α) : (l.any fun x => !p x) = !l.all p := any_not l

theorem foldl_map' {α β V : Type} (f : V → β → V) (g : α → β) : ∀ (l : List α) (v : V), (l.map g).foldl f v = l.foldl (fun v x => f v (g x)) v
  | [], _ => rfl
  | x :: l, v => by rw [List.map_cons, List.foldl_cons, List.foldl_cons, foldl_map' f g l]

section
variable {N : Nat} {e : Eps}

theorem isub1 (h0 : 0 ≤ e.1) (h1 : e.1 ≤ 205) : isub .i64 e.1 1 = e.1 - 1 := isub_eq (by unfold I64; omega)

theorem specPins (hN : 1048576 < N) (hz : z_Epochs e ≤ 1048576) (h0 : 0 ≤ e.1) (h1 : e.1 ≤ 205) {R : Type} (K0 K1 : Option R) :
    T_spec_EpochOk_lp0 N e K0 (fun _ _ => K1) N 0 = bif e.2.1.all (pinOk e.1) then K1 else K0 := by
  unfold z_Epochs z_IntS at hz
  have h := loop_ix0 (l := e.2.1) (V := Unit) (R := R) (lp := fun n j v => T_spec_EpochOk_lp0 N e K0 (fun _ _ => K1) n j) (n := N) (by omega)
    (body := fun j x v k => bif !pinOk e.1 x then K0 else k v) (K := fun _ _ => K1)
    (fun n i v hi => by
      simp only [T_spec_EpochOk_lp0, ix_lt hi, ix_inb hi, ix_get hi, ix_succ (show i < 4611686018427387904 by omega), cond_true, in_eq, ret, Option.bind_some, isub1 h0 h1]
      unfold pinOk bne
      cases e.2.1[i] == -1 <;> rfl)
    (fun n v => by simp only [T_spec_EpochOk_lp0, ix_ge (Nat.le_refl e.2.1.length), cond_false]) ()
  refine h.trans ?_
  rw [foldK_any (p := fun x => !pinOk e.1 x) (E := fun _ => K0) e.2.1 0 () (fun j x v k _ => rfl), any_notp]
  cases e.2.1.all (pinOk e.1) <;> rfl

theorem implPins (hN : 1048576 < N) (hz : z_Epochs e ≤ 1048576) (h0 : 0 ≤ e.1) (h1 : e.1 ≤ 205) {R : Type} (K0 K1 : Option R) :
    T_impl_EpochOk_lp0 N e.2.1 e K0 (fun _ _ => K1) N 0 = bif e.2.1.all (pinOk e.1) then K1 else K0 := by
  unfold z_Epochs z_IntS at hz
  have h := loop_ix0 (l := e.2.1) (V := Unit) (R := R) (lp := fun n j v => T_impl_EpochOk_lp0 N e.2.1 e K0 (fun _ _ => K1) n j) (n := N) (by omega)
    (body := fun j x v k => bif !pinOk e.1 x then K0 else k v) (K := fun _ _ => K1)
    (fun n i v hi => by
      simp only [T_impl_EpochOk_lp0, ix_lt hi, ix_inb hi, ix_get hi, ix_succ (show i < 4611686018427387904 by omega), cond_true, isub1 h0 h1]
      generalize e.2.1[i] = p
      by_cases a : p = -1
      · have x1 : (p != -1) = false := by simp [a]
        have x2 : pinOk e.1 p = true := by unfold pinOk; simp [a]
        rw [x1, x2]; rfl
      · have x1 : (p != -1) = true := by simp [a]
        by_cases b : p = e.1
        · have x3 : (p != e.1) = false := by simp [b]
          have x2 : pinOk e.1 p = true := by unfold pinOk; simp; omega
          rw [x1, x2, x3]; rfl
        · have x3 : (p != e.1) = true := by simp [b]
          by_cases c : p = e.1 - 1
          · have x4 : (p != e.1 - 1) = false := by simp [c]
            have x5 : decide (p < 0) = false := by simp; omega
            have x2 : pinOk e.1 p = true := by unfold pinOk; simp; omega
            rw [x1, x2, x3, x4, x5]; rfl
          · have x4 : (p != e.1 - 1) = true := by simp [c]
            have x2 : pinOk e.1 p = false := by unfold pinOk; simp [a]; omega
            rw [x1, x2, x3, x4]; rfl)
    (fun n v => by simp only [T_impl_EpochOk_lp0, ix_ge (Nat.le_refl e.2.1.length), cond_false]) ()
  refine h.trans ?_
  rw [foldK_any (p := fun x => !pinOk e.1 x) (E := fun _ => K0) e.2.1 0 () (fun j x v k _ => rfl), any_notp]
  cases e.2.1.all (pinOk e.1) <;> rfl

theorem specLinks (hN : 1048576 < N) (hl : e.2.2.1.length = 10) {R : Type} (K0 : List Int → Option R) :
    T_spec_EpochOk_lp1 N e (fun _ _ l => K0 l) N 0 (List.replicate 10 0) = K0 (e.2.2.1.map lnk) := by
  have h := loop_ix0 (l := e.2.2.1) (V := List Int) (R := R) (lp := fun n j v => T_spec_EpochOk_lp1 N e (fun _ _ l => K0 l) n j v) (n := N) (by omega)
    (body := fun j x v k => bif x then (bif inb j v.length then k (v.set j.toNat 1) else none) else k v) (K := fun _ v => K0 v)
    (fun n i v hi => by
      have e1 : decide ((i : Int) < 10) = true := by simp; omega
      simp only [T_spec_EpochOk_lp1, e1, ix_inb hi, ix_get hi, ix_succ (show i < 4611686018427387904 by omega), cond_true])
    (fun n v => by
      have e1 : decide (((e.2.2.1.length : Nat) : Int) < 10) = false := by rw [hl]; rfl
      simp only [T_spec_EpochOk_lp1, e1, cond_false]) (List.replicate 10 0)
  refine h.trans ?_
  have := links (R := R) (body := fun j x v k => bif x then (bif inb j v.length then k (v.set j.toNat 1) else none) else k v) (K := fun _ v => K0 v) e.2.2.1 [] (fun j x v k h0 hj => by
    cases x
    · rfl
    · simp only [cond_true, inb_nat, hj, decide_true, Int.toNat_natCast])
  simpa [hl] using this

theorem implLinks (hN : 1048576 < N) (hl : e.2.2.1.length = 10) {R : Type} (K0 : List Int → Option R) :
    T_impl_EpochOk_lp1 N e.2.2.1 e (fun _ _ l => K0 l) N 0 (List.replicate 10 0) = K0 (e.2.2.1.map lnk) := by
  have h := loop_ix0 (l := e.2.2.1) (V := Ten) (R := R) (lp := fun n j v => T_impl_EpochOk_lp1 N e.2.2.1 e (fun _ _ l => K0 l) n j v.1) (n := N) (by omega)
    (body := fun j x v k => k (bif x then ⟨v.1.set j.toNat (iadd .i64 (v.1.getD j.toNat 0) 1), by simp [v.2]⟩ else v)) (K := fun _ v => K0 v.1)
    (fun n i v hi => by
      have e1 : inb (i : Int) 10 = true := by rw [inb_nat]; simp; omega
      have e2 : decide (v.1.length = 10) = true := by simp [v.2]
      simp only [T_impl_EpochOk_lp1, ix_lt hi, e1, e2, Bool.and_self, ix_inb hi, ix_get hi, ix_succ (show i < 4611686018427387904 by omega), cond_true]
      cases e.2.2.1[i] <;> rfl)
    (fun n v => by simp only [T_impl_EpochOk_lp1, ix_ge (Nat.le_refl e.2.2.1.length), cond_false]) ⟨List.replicate 10 0, by simp⟩
  refine h.trans ?_
  have key : ∀ (l : List Bool) (d : List Int) (hd : (d ++ List.replicate l.length (0 : Int)).length = 10),
      foldK (R := R) (fun j x (v : Ten) k => k (bif x then ⟨v.1.set j.toNat (iadd .i64 (v.1.getD j.toNat 0) 1), by simp [v.2]⟩ else v)) (fun _ v => K0 v.1) l d.length ⟨d ++ List.replicate l.length 0, hd⟩ = K0 (d ++ l.map lnk) := by
    intro l
    induction l with
    | nil => intro d hd; simp [foldK]
    | cons x l ih =>
      intro d hd
      rw [foldK]
      have e0 : (d ++ List.replicate (l.length + 1) (0 : Int)).getD d.length 0 = 0 := by simp [List.getD_eq_getElem?_getD, List.replicate_succ]
      have ei : iadd .i64 0 1 = 1 := by decide
      have e1 : (bif x then (⟨(d ++ List.replicate (x :: l).length (0 : Int)).set (d.length : Int).toNat (iadd .i64 ((d ++ List.replicate (x :: l).length (0 : Int)).getD (d.length : Int).toNat 0) 1), by simpa using hd⟩ : Ten) else ⟨d ++ List.replicate (x :: l).length 0, hd⟩) = ⟨(d ++ [lnk x]) ++ List.replicate l.length 0, by simp at hd ⊢; omega⟩ := by
        apply Subtype.ext
        cases x
        · simp [lnk, List.replicate_succ]
        · simp only [cond_true, Int.toNat_natCast, List.length_cons]
          rw [e0, ei, List.replicate_succ, set_append_len]
          simp [lnk]
      rw [e1]
      have := ih (d ++ [lnk x]) (by simp at hd ⊢; omega)
      rw [List.length_append] at this
      simp only [List.length_cons, List.length_nil, Nat.zero_add] at this
      rw [this]
      simp
  have := key e.2.2.1 [] (by simp [hl])
  simpa [hl] using this

theorem specBags (hN : 1048576 < N) (hz : z_Epochs e ≤ 1048576) (h0 : 0 ≤ e.1) (h1 : e.1 ≤ 205) {R : Type} (K0 : Option R) (K1 : List Int → Option R) (v : Ten) :
    T_spec_EpochOk_lp2 N e K0 (fun _ _ l => K1 l) N 0 v.1 = bif (e.2.2.2.1.all fun b => node b.1 && epIn e.1 b.2) then K1 ((e.2.2.2.1.map (·.1)).foldl bump v.1) else K0 := by
  unfold z_Epochs z_EpBagS at hz
  have h := loop_ix0 (l := e.2.2.2.1) (V := Ten) (R := R) (lp := fun n j v => T_spec_EpochOk_lp2 N e K0 (fun _ _ l => K1 l) n j v.1) (n := N) (by omega)
    (body := fun j x v k => bif !(node x.1 && epIn e.1 x.2) then K0 else k (tbump v x.1)) (K := fun _ v => K1 v.1)
    (fun n i v hi => by
      simp only [T_spec_EpochOk_lp2, ix_lt hi, ix_inb hi, ix_get hi, ix_succ (show i < 4611686018427387904 by omega), cond_true, in_eq, ret, Option.bind_some, isub1 h0 h1]
      have hnd : node e.2.2.2.1[i].1 = (decide (0 ≤ e.2.2.2.1[i].1) && decide (e.2.2.2.1[i].1 ≤ 9)) := rfl
      have hep : epIn e.1 e.2.2.2.1[i].2 = (decide (e.1 - 1 ≤ e.2.2.2.1[i].2) && decide (e.2.2.2.1[i].2 ≤ e.1)) := rfl
      rw [← hnd, ← hep]
      cases hn : node e.2.2.2.1[i].1 with
      | false => rfl
      | true =>
        have hin : inb e.2.2.2.1[i].1 v.1.length = true := by
          unfold node at hn; unfold inb; simp at hn ⊢; rw [v.2]; omega
        rw [hin]
        cases epIn e.1 e.2.2.2.1[i].2 <;> rfl)
    (fun n v => by simp only [T_spec_EpochOk_lp2, ix_ge (Nat.le_refl e.2.2.2.1.length), cond_false]) v
  refine h.trans ?_
  rw [foldK_ok (p := fun x => node x.1 && epIn e.1 x.2) (f := fun v x => tbump v x.1) (E := K0) e.2.2.2.1 0 v (fun j x v k _ => rfl)]
  have e5 : (e.2.2.2.1.map (·.1)).foldl tbump v = e.2.2.2.1.foldl (fun v x => tbump v x.1) v := foldl_map' _ _ _ _
  rw [← e5, tbumps]

theorem specFreed (hN : 1048576 < N) (hz : z_Epochs e ≤ 1048576) {R : Type} (K0 : Option R) (K1 : List Int → Option R) (v : Ten) :
    T_spec_EpochOk_lp3 N e K0 (fun _ _ l => K1 l) N 0 v.1 = bif e.2.2.2.2.2.all node then K1 (e.2.2.2.2.2.foldl bump v.1) else K0 := by
  unfold z_Epochs z_IntS at hz
  have h := loop_ix0 (l := e.2.2.2.2.2) (V := Ten) (R := R) (lp := fun n j v => T_spec_EpochOk_lp3 N e K0 (fun _ _ l => K1 l) n j v.1) (n := N) (by omega)
    (body := fun j x v k => bif !node x then K0 else k (tbump v x)) (K := fun _ v => K1 v.1)
    (fun n i v hi => by
      simp only [T_spec_EpochOk_lp3, ix_lt hi, ix_inb hi, ix_get hi, ix_succ (show i < 4611686018427387904 by omega), cond_true, in_eq, ret, Option.bind_some]
      have hnd : node e.2.2.2.2.2[i] = (decide (0 ≤ e.2.2.2.2.2[i]) && decide (e.2.2.2.2.2[i] ≤ 9)) := rfl
      rw [← hnd]
      cases hn : node e.2.2.2.2.2[i] with
      | false => rfl
      | true =>
        have hin : inb e.2.2.2.2.2[i] v.1.length = true := by
          unfold node at hn; unfold inb; simp at hn ⊢; rw [v.2]; omega
        rw [hin]
        rfl)
    (fun n v => by simp only [T_spec_EpochOk_lp3, ix_ge (Nat.le_refl e.2.2.2.2.2.length), cond_false]) v
  refine h.trans ?_
  rw [foldK_ok (p := node) (f := tbump) (E := K0) e.2.2.2.2.2 0 v (fun j x v k _ => rfl), tbumps]

theorem implBags (hN : 1048576 < N) (hz : z_Epochs e ≤ 1048576) (h0 : 0 ≤ e.1) (h1 : e.1 ≤ 205) {R : Type} (l0 : List Int) (K0 : Option R) (K1 : List Int → Option R) :
    T_impl_EpochOk_lp2 N e.2.2.2.1 e l0 K0 (fun _ _ l => K1 l) N 0 e.2.2.2.2.2 = bif (e.2.2.2.1.all fun b => epIn e.1 b.2) then K1 (e.2.2.2.2.2 ++ e.2.2.2.1.map (·.1)) else K0 := by
  unfold z_Epochs z_EpBagS z_IntS at hz
  have key : ∀ (n j : Nat) (v : List Int), j ≤ e.2.2.2.1.length → e.2.2.2.1.length - j < n → v.length ≤ e.2.2.2.2.2.length + j →
      T_impl_EpochOk_lp2 N e.2.2.2.1 e l0 K0 (fun _ _ l => K1 l) n (j : Int) v = bif ((e.2.2.2.1.drop j).all fun b => epIn e.1 b.2) then K1 (v ++ (e.2.2.2.1.drop j).map (·.1)) else K0 := by
    intro n
    induction n with
    | zero => intro j v _ h; omega
    | succ n ih =>
      intro j v h2 h3 h4
      by_cases hj : j < e.2.2.2.1.length
      · have er : room (v.length + [e.2.2.2.1[j].1].length) = true := by unfold room; simp; omega
        rw [List.drop_eq_getElem_cons hj, List.all_cons, List.map_cons]
        simp only [T_impl_EpochOk_lp2, ix_lt hj, ix_inb hj, ix_get hj, ix_succ (show j < 4611686018427387904 by omega), cond_true, er, isub1 h0 h1]
        have ih := ih (j + 1) (v ++ [e.2.2.2.1[j].1]) hj (by omega) (by simp; omega)
        have ih' : T_impl_EpochOk_lp2 N e.2.2.2.1 e l0 K0 (fun _ _ l => K1 l) n ((j + 1 : Nat) : Int) (List.append v [e.2.2.2.1[j].1]) = _ := ih
        rw [ih']
        have e3 : v ++ [e.2.2.2.1[j].1] ++ (e.2.2.2.1.drop (j + 1)).map (·.1) = v ++ e.2.2.2.1[j].1 :: (e.2.2.2.1.drop (j + 1)).map (·.1) := by simp
        rw [e3]
        by_cases a : e.2.2.2.1[j].2 = e.1
        · have b1 : (e.2.2.2.1[j].2 != e.1) = false := by simp [a]
          have b2 : epIn e.1 e.2.2.2.1[j].2 = true := by unfold epIn; simp; omega
          rw [b1, b2]; rfl
        · have b1 : (e.2.2.2.1[j].2 != e.1) = true := by simp [a]
          by_cases b : e.2.2.2.1[j].2 = e.1 - 1
          · have b3 : (e.2.2.2.1[j].2 != e.1 - 1) = false := by simp [b]
            have b2 : epIn e.1 e.2.2.2.1[j].2 = true := by unfold epIn; simp; omega
            rw [b1, b2, b3]; rfl
          · have b3 : (e.2.2.2.1[j].2 != e.1 - 1) = true := by simp [b]
            have b2 : epIn e.1 e.2.2.2.1[j].2 = false := by
              unfold epIn
              rw [Bool.and_eq_false_iff]
              by_cases q : e.2.2.2.1[j].2 < e.1 - 1
              · exact .inl (by simp; omega)
              · exact .inr (by simp; omega)
            rw [b1, b2, b3]; rfl
      · have e1 : e.2.2.2.1.drop j = [] := List.drop_eq_nil_of_le (by omega)
        rw [e1]
        simp only [T_impl_EpochOk_lp2, ix_ge (show e.2.2.2.1.length ≤ j by omega), cond_false, List.all_nil, cond_true, List.map_nil, List.append_nil]
  have := key N 0 e.2.2.2.2.2 (Nat.zero_le _) (by omega) (by omega)
  simpa using this

theorem implNodes (hN : 1048576 < N) {l : List Int} (hl : l.length ≤ 2097152 ∧ l.length < N) {R : Type} (K0 : Option R) (K1 : List Int → Option R) (v : Ten) :
    T_impl_EpochOk_lp3 N e l K0 (fun _ _ l => K1 l) N 0 v.1 = bif l.all node then K1 (l.foldl bump v.1) else K0 := by
  have h := loop_ix0 (l := l) (V := Ten) (R := R) (lp := fun n j v => T_impl_EpochOk_lp3 N e l K0 (fun _ _ l => K1 l) n j v.1) (n := N) hl.2
    (body := fun j x v k => bif !node x then K0 else k (tbump v x)) (K := fun _ v => K1 v.1)
    (fun n i v hi => by
      simp only [T_impl_EpochOk_lp3, ix_lt hi, ix_inb hi, ix_get hi, ix_succ (show i < 4611686018427387904 by omega), cond_true, within_eq, ret, Option.bind_some]
      have hnd : node l[i] = (decide (0 ≤ l[i]) && decide (l[i] ≤ 9)) := rfl
      rw [← hnd]
      cases hn : node l[i] with
      | false => rfl
      | true =>
        have hin : inb l[i] 10 = true := by unfold node at hn; unfold inb; simp at hn ⊢; omega
        have e2 : decide (v.1.length = 10) = true := by simp [v.2]
        rw [hin, e2]
        rfl)
    (fun n v => by simp only [T_impl_EpochOk_lp3, ix_ge (Nat.le_refl l.length), cond_false]) v
  refine h.trans ?_
  rw [foldK_ok (p := node) (f := tbump) (E := K0) l 0 v (fun j x v k _ => rfl), tbumps]

theorem specOnes (hN : 1048576 < N) {l : List Int} (hl : l.length = 10) {R : Type} (K0 K1 : Option R) : T_spec_EpochOk_lp4 N e l K0 (fun _ _ => K1) N 0 = bif l.all (· == 1) then K1 else K0 := by
  have h := loop_ix0 (l := l) (V := Unit) (R := R) (lp := fun n j v => T_spec_EpochOk_lp4 N e l K0 (fun _ _ => K1) n j) (n := N) (by omega)
    (body := fun j x v k => bif !(x == 1) then K0 else k v) (K := fun _ _ => K1)
    (fun n i v hi => by
      have e1 : decide ((i : Int) < 10) = true := by simp; omega
      simp only [T_spec_EpochOk_lp4, e1, ix_inb hi, ix_get hi, ix_succ (show i < 4611686018427387904 by omega), cond_true, bne])
    (fun n v => by
      have e1 : decide (((l.length : Nat) : Int) < 10) = false := by rw [hl]; rfl
      simp only [T_spec_EpochOk_lp4, e1, cond_false]) ()
  refine h.trans ?_
  rw [foldK_any (p := fun x => !(x == 1)) (E := fun _ => K0) l 0 () (fun j x v k _ => rfl), any_notp]
  cases l.all (· == 1) <;> rfl

theorem implOnes (hN : 1048576 < N) {l : List Int} (hl : l.length = 10) {R : Type} (K0 K1 : Option R) :
    T_impl_EpochOk_lp4 N (List.getD l 0 (0 : Int)) (List.getD l 1 (0 : Int)) (List.getD l 2 (0 : Int)) (List.getD l 3 (0 : Int)) (List.getD l 4 (0 : Int)) (List.getD l 5 (0 : Int)) (List.getD l 6 (0 : Int)) (List.getD l 7 (0 : Int)) (List.getD l 8 (0 : Int)) (List.getD l 9 (0 : Int)) e K0 (fun _ _ => K1) N 0 = bif l.all (· == 1) then K1 else K0 := by
  match l, hl with
  | [a, b, c, d, f, g, i, j, k, m], _ =>
    have h := loop_ix0 (l := [a, b, c, d, f, g, i, j, k, m]) (V := Unit) (R := R) (lp := fun n q v => T_impl_EpochOk_lp4 N a b c d f g i j k m e K0 (fun _ _ => K1) n q) (n := N) (by simp; omega)
      (body := fun j x v k => bif !(x == 1) then K0 else k v) (K := fun _ _ => K1)
      (fun n q v hq => by
        have hq10 : q < 10 := hq
        have e1 : decide ((q : Int) < 10) = true := by simp; omega
        have e2 : inb (q : Int) 10 = true := by rw [inb_nat]; simp; omega
        simp only [T_impl_EpochOk_lp4, e1, e2, ix_get hq, ix_succ (show q < 4611686018427387904 by omega), cond_true, bne])
      (fun n v => rfl) ()
    refine h.trans ?_
    rw [foldK_any (p := fun x => !(x == 1)) (E := fun _ => K0) _ 0 () (fun j x v k _ => rfl), any_notp]
    cases [a, b, c, d, f, g, i, j, k, m].all (· == 1) <;> rfl

theorem specHolds (hN : 1048576 < N) (hz : z_Epochs e ≤ 1048576) (hp : e.2.1.length = 3) {R : Type} (K0 K1 : Option R) :
    T_spec_EpochOk_lp5 N e K0 (fun _ _ => K1) N 0 = bif e.2.2.2.2.1.all (holdOk e.2.1) then K1 else K0 := by
  unfold z_Epochs z_EpHoldS at hz
  have h := loop_ix0 (l := e.2.2.2.2.1) (V := Unit) (R := R) (lp := fun n j v => T_spec_EpochOk_lp5 N e K0 (fun _ _ => K1) n j) (n := N) (by omega)
    (body := fun j x v k => bif !holdOk e.2.1 x then K0 else k v) (K := fun _ _ => K1)
    (fun n i v hi => by
      simp only [T_spec_EpochOk_lp5, ix_lt hi, ix_inb hi, ix_get hi, ix_succ (show i < 4611686018427387904 by omega), cond_true, in_eq, ret, Option.bind_some]
      generalize e.2.2.2.2.1[i] = x
      unfold holdOk node
      cases h1 : (decide (0 ≤ x.1) && decide (x.1 ≤ 2)) with
      | false => rfl
      | true =>
        have hin : inb x.1 e.2.1.length = true := by unfold inb; simp at h1 ⊢; rw [hp]; omega
        rw [hin]
        cases (decide (0 ≤ x.2) && decide (x.2 ≤ 9)) <;> cases decide (e.2.1.getD x.1.toNat 0 < 0) <;> rfl)
    (fun n v => by simp only [T_spec_EpochOk_lp5, ix_ge (Nat.le_refl e.2.2.2.2.1.length), cond_false]) ()
  refine h.trans ?_
  rw [foldK_any (p := fun x => !holdOk e.2.1 x) (E := fun _ => K0) e.2.2.2.2.1 0 () (fun j x v k _ => rfl), any_notp]
  cases e.2.2.2.2.1.all (holdOk e.2.1) <;> rfl

theorem implHolds (hN : 1048576 < N) (hz : z_Epochs e ≤ 1048576) (hp : e.2.1.length = 3) {R : Type} (K0 K1 : Option R) :
    T_impl_EpochOk_lp5 N e.2.2.2.2.1 e K0 (fun _ _ => K1) N 0 = bif e.2.2.2.2.1.all (holdOk e.2.1) then K1 else K0 := by
  unfold z_Epochs z_EpHoldS at hz
  have h := loop_ix0 (l := e.2.2.2.2.1) (V := Unit) (R := R) (lp := fun n j v => T_impl_EpochOk_lp5 N e.2.2.2.2.1 e K0 (fun _ _ => K1) n j) (n := N) (by omega)
    (body := fun j x v k => bif !holdOk e.2.1 x then K0 else k v) (K := fun _ _ => K1)
    (fun n i v hi => by
      simp only [T_impl_EpochOk_lp5, ix_lt hi, ix_inb hi, ix_get hi, ix_succ (show i < 4611686018427387904 by omega), cond_true, within_eq, ret, Option.bind_some]
      generalize e.2.2.2.2.1[i] = x
      unfold holdOk node
      cases h1 : (decide (0 ≤ x.1) && decide (x.1 ≤ 2)) with
      | false => rfl
      | true =>
        have hin : inb x.1 e.2.1.length = true := by unfold inb; simp at h1 ⊢; rw [hp]; omega
        rw [hin]
        cases (decide (0 ≤ x.2) && decide (x.2 ≤ 9)) <;> cases decide (e.2.1.getD x.1.toNat 0 < 0) <;> rfl)
    (fun n v => by simp only [T_impl_EpochOk_lp5, ix_ge (Nat.le_refl e.2.2.2.2.1.length), cond_false]) ()
  refine h.trans ?_
  rw [foldK_any (p := fun x => !holdOk e.2.1 x) (E := fun _ => K0) e.2.2.2.2.1 0 () (fun j x v k _ => rfl), any_notp]
  cases e.2.2.2.2.1.all (holdOk e.2.1) <;> rfl

theorem specEp_run (hN : 2097152 < N) (hz : z_Epochs e ≤ 1048576) : T_spec_EpochOk N e = ret (epOk e) := by
  unfold T_spec_EpochOk epOk
  by_cases h3 : e.2.1.length = 3
  · have b3 : (ilen e.2.1 != 3) = false := by simp [ilen, h3]
    by_cases h10 : e.2.2.1.length = 10
    · have b10 : (ilen e.2.2.1 != 10) = false := by simp [ilen, h10]
      simp only [b3, b10, cond_false, in_eq, ret, Option.bind_some, h3, h10, decide_true, Bool.true_and]
      cases hr : (decide (0 ≤ e.1) && decide (e.1 ≤ 205)) with
      | false => rfl
      | true =>
        simp only [Bool.and_eq_true, decide_eq_true_eq] at hr
        have em : (((decide ((0 : Int) ≤ (10 : Int))) && (decide ((10 : Int) ≤ (10 : Int)))) && (room (Int.toNat (10 : Int)))) = true := by decide
        have e10 : Int.toNat 10 = 10 := rfl
        simp only [Bool.not_true, cond_false, Bool.true_and, em, cond_true, e10]
        rw [specPins (by omega) hz hr.1 hr.2]
        cases e.2.1.all (pinOk e.1) with
        | false => rfl
        | true =>
          simp only [cond_true, Bool.true_and]
          rw [specLinks (by omega) h10, specBags (by omega) hz hr.1 hr.2 _ _ ⟨e.2.2.1.map lnk, by simp [h10]⟩]
          cases (e.2.2.2.1.all fun b => node b.1 && epIn e.1 b.2) with
          | false => rfl
          | true =>
            simp only [cond_true, Bool.true_and]
            rw [specFreed (by omega) hz _ _ ⟨(e.2.2.2.1.map (·.1)).foldl bump (e.2.2.1.map lnk), by rw [bumps_len]; simp [h10]⟩]
            cases e.2.2.2.2.2.all node with
            | false => rfl
            | true =>
              simp only [cond_true, Bool.true_and]
              rw [specOnes (by omega) (by rw [bumps_len, bumps_len]; simp [h10]), specHolds (by omega) hz h3]
              cases (e.2.2.2.2.2.foldl bump ((e.2.2.2.1.map (·.1)).foldl bump (e.2.2.1.map lnk))).all (· == 1) <;> cases e.2.2.2.2.1.all (holdOk e.2.1) <;> rfl
    · have b10 : (ilen e.2.2.1 != 10) = true := by simp [ilen]; omega
      rw [b3, b10]
      simp [h10]
  · have b3 : (ilen e.2.1 != 3) = true := by simp [ilen]; omega
    rw [b3]
    simp [h3]

theorem implEp_run (hN : 2097152 < N) (hz : z_Epochs e ≤ 1048576) : T_impl_EpochOk N e = ret (epOk e) := by
  unfold T_impl_EpochOk epOk
  by_cases h3 : e.2.1.length = 3
  · have b3 : (ilen e.2.1 != 3) = false := by simp [ilen, h3]
    by_cases h10 : e.2.2.1.length = 10
    · have b10 : (ilen e.2.2.1 != 10) = false := by simp [ilen, h10]
      simp only [b3, b10, cond_false, within_eq, ret, Option.bind_some, h3, h10, decide_true, Bool.true_and]
      cases hr : (decide (0 ≤ e.1) && decide (e.1 ≤ 205)) with
      | false => rfl
      | true =>
        simp only [Bool.and_eq_true, decide_eq_true_eq] at hr
        simp only [Bool.not_true, cond_false, Bool.true_and]
        rw [implPins (by omega) hz hr.1 hr.2]
        cases e.2.1.all (pinOk e.1) with
        | false => rfl
        | true =>
          simp only [cond_true, Bool.true_and]
          rw [implLinks (by omega) h10]
          have hlen : e.2.2.2.2.2.length ≤ 1048576 ∧ e.2.2.2.1.length ≤ 1048576 := by unfold z_Epochs z_EpBagS z_IntS at hz; omega
          have ec : T_impl_copyInts N e.2.2.2.2.2 = ret e.2.2.2.2.2 := by
            unfold T_impl_copyInts
            have : room e.2.2.2.2.2.length = true := by unfold room; simp; omega
            rw [this]; rfl
          rw [ec]
          simp only [ret, Option.bind_some]
          rw [implBags (by omega) hz hr.1 hr.2]
          have hsplit : (e.2.2.2.1.all fun b => node b.1 && epIn e.1 b.2) = ((e.2.2.2.1.all fun b => epIn e.1 b.2) && (e.2.2.2.1.map (·.1)).all node) := by
            rw [List.all_map]
            induction e.2.2.2.1 with
            | nil => rfl
            | cons b l ih =>
              simp only [List.all_cons, ih, Function.comp]
              cases node b.1 <;> cases epIn e.1 b.2 <;> simp
          rw [hsplit]
          cases (e.2.2.2.1.all fun b => epIn e.1 b.2) with
          | false => rfl
          | true =>
            simp only [cond_true, Bool.true_and]
            rw [implNodes (by omega) ⟨by simp; omega, by simp; omega⟩ _ _ ⟨e.2.2.1.map lnk, by simp [h10]⟩, List.all_append, List.foldl_append, bumps_swap]
            cases h1 : e.2.2.2.2.2.all node with
            | false => cases (e.2.2.2.1.map (·.1)).all node <;> rfl
            | true =>
              cases h2 : (e.2.2.2.1.map (·.1)).all node with
              | false => rfl
              | true =>
                have hl10 : (e.2.2.2.2.2.foldl bump ((e.2.2.2.1.map (·.1)).foldl bump (e.2.2.1.map lnk))).length = 10 := by rw [bumps_len, bumps_len]; simp [h10]
                simp only [Bool.and_self, cond_true, Bool.true_and, hl10, decide_true]
                rw [implOnes (by omega) hl10, implHolds (by omega) hz h3]
                cases (e.2.2.2.2.2.foldl bump ((e.2.2.2.1.map (·.1)).foldl bump (e.2.2.1.map lnk))).all (· == 1) <;> cases e.2.2.2.2.1.all (holdOk e.2.1) <;> rfl
    · have b10 : (ilen e.2.2.1 != 10) = true := by simp [ilen]; omega
      rw [b3, b10]
      simp [h10]
  · have b3 : (ilen e.2.1 != 3) = true := by simp [ilen]; omega
    rw [b3]
    simp [h3]
end

theorem law_EpochOk {N : Nat} {e : Eps} (hN : 2097152 < N) (hw : Wfd TEps e) : T_laws_FnExactEpochOk N e = ret true := by
  unfold T_laws_FnExactEpochOk
  rw [f_szEpochs (by omega) (by omega) (by omega) hw]
  simp only [ret, Option.bind_some]
  by_cases h : (1048576 : Int) < (z_Epochs e : Int)
  · rw [if_pos h]; rfl
  · have e1 : decide ((1048576 - (z_Epochs e : Int)) < 0) = false := by simp; omega
    rw [if_neg h, e1]
    have h2 : z_Epochs e ≤ 1048576 := by omega
    simp only [cond_false, f_toEpochs h2 (show 1048576 < N by omega), ret, Option.bind_some, implEp_run hN h2, specEp_run hN h2, f_eqEpochs h2 (show 1048576 < N by omega), beq_same, same_self, Bool.not_true]

theorem law_FnExactEpochOk (d : PDen [.v TEps true]) (hw : WfArgs [.v TEps true] d) : ∃ N o, T_laws_FnExactEpochOk N d.1 = some (o, (true, ())) := ⟨2097153, (), law_EpochOk (by omega) hw.1⟩
end Go.Sx
