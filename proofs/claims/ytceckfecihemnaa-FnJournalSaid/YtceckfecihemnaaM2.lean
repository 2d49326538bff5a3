/- Plain laws. -/
import Derived.Test.YtceckfecihemnaaM1

namespace Go.Sx
set_option linter.unusedVariables false
set_option linter.unusedSimpArgs false
section
variable {α : Type} {l : List α} {j : Nat}
theorem ix_lt (h : j < l.length) : decide ((j : Int) < ilen l) = true := by simp [ilen]; exact h
theorem ix_ge (h : l.length ≤ j) : decide ((j : Int) < ilen l) = false := by simp [ilen]; exact h
theorem ix_inb (h : j < l.length) : inb (j : Int) l.length = true := by rw [inb_nat]; exact decide_eq_true h
theorem ix_get (h : j < l.length) (d : α) : List.getD l (Int.toNat (j : Int)) d = l[j] := by simp [h]
theorem ix_succ (h : j < 4611686018427387904) : iadd .i64 (j : Int) 1 = ((j + 1 : Nat) : Int) := by rw [iadd_eq (by unfold I64; omega)]; rfl
theorem loop_ix {V R : Type} {lp : Nat → Int → V → Option R} {body : Int → α → V → (V → Option R) → Option R} {K : Int → V → Option R}
    (hs : ∀ n (j : Nat) v (h : j < l.length), lp (n + 1) (j : Int) v = body j l[j] v (fun v' => lp n ((j + 1 : Nat) : Int) v'))
    (he : ∀ n v, lp (n + 1) (l.length : Int) v = K l.length v) : ∀ (n j : Nat) (v : V), j ≤ l.length → l.length - j < n → lp n (j : Int) v = foldK body K (l.drop j) j v
  | 0, j, v, _, h2 => by omega
  | n + 1, j, v, h1, h2 => by
    by_cases hj : j < l.length
    · rw [hs n j v hj, List.drop_eq_getElem_cons hj, foldK]
      congr 1
      funext v'
      exact loop_ix hs he n (j + 1) v' hj (by omega)
    · have : j = l.length := by omega
      subst this
      rw [he, List.drop_length, foldK]
theorem loop_ix0 {V R : Type} {lp : Nat → Int → V → Option R} {body : Int → α → V → (V → Option R) → Option R} {K : Int → V → Option R} {n : Nat} (hn : l.length < n)
    (hs : ∀ n (j : Nat) v (h : j < l.length), lp (n + 1) (j : Int) v = body j l[j] v (fun v' => lp n ((j + 1 : Nat) : Int) v'))
    (he : ∀ n v, lp (n + 1) (l.length : Int) v = K l.length v) (v : V) : lp n 0 v = foldK body K l 0 v := by
  have := loop_ix hs he n 0 v (Nat.zero_le _) (by omega)
  rwa [List.drop_zero] at this
end
abbrev ret {α : Type} (v : α) : Option (Unit × (α × Unit)) := some ((), (v, ()))
theorem ite_bool {α : Type} {b : Bool} {x y : α} : (bif b then x else y) = if b = true then x else y := by cases b <;> rfl
section
variable {α V R : Type} {body : Int → α → V → (V → Option R) → Option R} {K : Int → V → Option R}
theorem foldK_congr {body' : Int → α → V → (V → Option R) → Option R} : ∀ (l : List α) (j : Nat) (v : V), (∀ (j : Nat) x v k, x ∈ l → body j x v k = body' j x v k) → foldK body K l j v = foldK body' K l j v
  | [], _, _, _ => rfl
  | x :: l, j, v, h => by
    rw [foldK, foldK, h j x v _ (List.mem_cons_self ..)]
    congr 1
    funext v'
    exact foldK_congr l (j + 1) v' fun j y v k hy => h j y v k (List.mem_cons_of_mem _ hy)
theorem foldK_any {p : α → Bool} {E : V → Option R} : ∀ (l : List α) (j : Nat) (v : V), (∀ (j : Nat) x v k, x ∈ l → body j x v k = bif p x then E v else k v) →
    foldK body K l j v = bif l.any p then E v else K ((j + l.length : Nat) : Int) v
  | [], j, v, _ => rfl
  | x :: l, j, v, h => by
    rw [foldK, h j x v _ (List.mem_cons_self ..), foldK_any l (j + 1) v fun j y v k hy => h j y v k (List.mem_cons_of_mem _ hy), List.any_cons]
    cases p x
    · simp only [cond_false, Bool.false_or, List.length_cons]
      rw [show j + 1 + l.length = j + (l.length + 1) by omega]
    · rfl
theorem foldK_fold {f : V → α → V} : ∀ (l : List α) (j : Nat) (v : V), (∀ (j : Nat) x v k, x ∈ l → body j x v k = k (f v x)) → foldK body K l j v = K ((j + l.length : Nat) : Int) (l.foldl f v)
  | [], j, v, _ => rfl
  | x :: l, j, v, h => by
    rw [foldK, h j x v _ (List.mem_cons_self ..), foldK_fold l (j + 1) _ fun j y v k hy => h j y v k (List.mem_cons_of_mem _ hy), List.foldl_cons, List.length_cons]
    rw [show j + 1 + l.length = j + (l.length + 1) by omega]
end
theorem set_append_len {β : Type} (a : List β) (b : β) (r : List β) (y : β) : (a ++ b :: r).set a.length y = a ++ y :: r := by
  induction a with
  | nil => rfl
  | cons x a ih => simp [ih]
theorem foldK_set {α β R : Type} {body : Int → α → List β → (List β → Option R) → Option R} {K : Int → List β → Option R} {f : α → β} : ∀ (l : List α) (d r : List β), r.length = l.length →
    (∀ (j : Nat) x (v : List β) k, x ∈ l → body j x v k = bif inb (j : Int) v.length then k (v.set (j : Int).toNat (f x)) else none) →
    foldK body K l d.length (d ++ r) = K ((d.length + l.length : Nat) : Int) (d ++ l.map f)
  | [], d, r, hr, h => by
    have : r = [] := List.eq_nil_of_length_eq_zero hr
    subst this
    simp [foldK]
  | x :: l, d, r, hr, h => by
    cases r with
    | nil => simp at hr
    | cons b r =>
      rw [foldK, h d.length x _ _ (List.mem_cons_self ..), inb_nat]
      have e : decide (d.length < (d ++ b :: r).length) = true := by simp
      rw [e]
      simp only [cond_true, Int.toNat_natCast]
      rw [set_append_len]
      have := foldK_set (K := K) l (d ++ [f x]) r (by simpa using hr) (fun j y v k hy => h j y v k (List.mem_cons_of_mem _ hy))
      rw [List.length_append, List.append_assoc] at this
      simp only [List.length_cons, List.length_nil, Nat.zero_add, List.singleton_append, List.append_assoc] at this
      rw [this, List.length_cons, List.map_cons]
      rw [show d.length + 1 + l.length = d.length + (l.length + 1) by omega]
theorem foldK_copy {α β R : Type} {body : Int → α → List β → (List β → Option R) → Option R} {K : Int → List β → Option R} {f : α → β} {z : β} (l : List α)
    (h : ∀ (j : Nat) x (v : List β) k, x ∈ l → body j x v k = bif inb (j : Int) v.length then k (v.set (j : Int).toNat (f x)) else none) :
    foldK body K l 0 (List.replicate l.length z) = K (l.length : Int) (l.map f) := by
  have := foldK_set (body := body) (K := K) (f := f) l [] (List.replicate l.length z) (by simp) h
  simpa using this
theorem foldK_eq {α V R : Type} [DecidableEq α] {body : Int → α → V → (V → Option R) → Option R} {K : Int → V → Option R} {E : V → Option R} {z : α} : ∀ (l : List α) (b : List α) (j : Nat) (v : V), b.length = j + l.length →
    (∀ (j : Nat) x (v : V) k, x ∈ l → body j x v k = bif inb (j : Int) b.length then (bif !decide (x = b.getD (j : Int).toNat z) then E v else k v) else none) →
    foldK body K l j v = bif decide (l = b.drop j) then K ((j + l.length : Nat) : Int) v else E v
  | [], b, j, v, hb, h => by
    have : b.drop j = [] := List.drop_eq_nil_of_le (by simp at hb; omega)
    rw [this]; rfl
  | x :: l, b, j, v, hb, h => by
    have hj : j < b.length := by rw [hb]; simp
    rw [foldK, h j x v _ (List.mem_cons_self ..), inb_nat]
    have e1 : decide (j < b.length) = true := by simpa using hj
    have e2 : b.getD (j : Int).toNat z = b[j] := by simp [hj]
    have e3 : b.drop j = b[j] :: b.drop (j + 1) := List.drop_eq_getElem_cons hj
    rw [e1, e2, e3, foldK_eq l b (j + 1) v (by rw [hb]; simp; omega) fun j y v k hy => h j y v k (List.mem_cons_of_mem _ hy)]
    simp only [cond_true]
    by_cases hx : x = b[j]
    · have : decide (x :: l = b[j] :: b.drop (j + 1)) = decide (l = b.drop (j + 1)) := by
        apply decide_eq_decide.2
        rw [List.cons.injEq]
        exact ⟨fun h => h.2, fun h => ⟨hx, h⟩⟩
      rw [this]
      have e4 : (!decide (x = b[j])) = false := by simp [hx]
      rw [e4]
      simp only [cond_false, List.length_cons]
      rw [show j + 1 + l.length = j + (l.length + 1) by omega]
    · have : decide (x :: l = b[j] :: b.drop (j + 1)) = false := decide_eq_false fun h => hx (List.cons.inj h).1
      rw [this]
      simp [hx]
theorem bne_decide {x y : Int} : (x != y) = !decide (x = y) := by
  by_cases h : x = y <;> simp [h]
theorem room_le {n : Nat} (h : n ≤ 1073741824) : room n = true := by unfold room; simpa using h
theorem make_ok {α : Type} (l : List α) (h : l.length ≤ 1073741824) : (((decide ((0 : Int) ≤ ilen l)) && (decide (ilen l ≤ ilen l))) && (room (Int.toNat (ilen l)))) = true := by
  simp only [ilen, room, Int.toNat_natCast, Int.natCast_nonneg, decide_true, Int.le_refl, Bool.and_self, Bool.true_and]
  exact decide_eq_true h
theorem toNat_ilen {α : Type} (l : List α) : Int.toNat (ilen l) = l.length := by simp [ilen]
end Go.Sx
