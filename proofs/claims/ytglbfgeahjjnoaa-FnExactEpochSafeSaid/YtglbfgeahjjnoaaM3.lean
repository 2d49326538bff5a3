/- Plain laws. -/
import Derived.Test.YtglbfgeahjjnoaaM2
/- Plain laws of the loops that write marks into a list and read them again. -/
namespace Go.Sx
set_option linter.unusedVariables false
set_option linter.unusedSimpArgs false

/-- the list with marks in it: each element is turned by the count, which grows by `c` -/
def marks {α : Type} (g : Int → α → α) (c : Nat) : Int → List α → List α
  | _, [] => []
  | k, x :: l => g k x :: marks g c (k + c) l

theorem marks_len {α : Type} (g : Int → α → α) (c : Nat) : ∀ (k : Int) (l : List α), (marks g c k l).length = l.length
  | _, [] => rfl
  | k, x :: l => by rw [marks, List.length_cons, List.length_cons, marks_len g c (k + c) l]

theorem mark_loop {α R : Type} {g : Int → α → α} {c : Nat} {lp : Nat → Int → Int → List α → Option R} {K : Int → Int → List α → Option R}
    (hs : ∀ n (k : Int) (j : Nat) v (h : j < v.length), j < 4611686018427387904 → 0 ≤ k → k + c ≤ 4611686018427387904 → lp (n + 1) k (j : Int) v = lp n (k + c) ((j + 1 : Nat) : Int) (v.set j (g k v[j])))
    (he : ∀ n k v, lp (n + 1) k (v.length : Int) v = K k (v.length : Int) v) :
    ∀ (l d : List α) (n : Nat) (k : Int), l.length < n → d.length + l.length < 4611686018427387904 → 0 ≤ k → k + (c * l.length : Nat) ≤ 4611686018427387904 →
      lp n k (d.length : Int) (d ++ l) = K (k + (c * l.length : Nat)) ((d.length + l.length : Nat) : Int) (d ++ marks g c k l)
  | [], d, 0, k, h, _, _, _ => by simp at h
  | [], d, n + 1, k, _, _, _, _ => by
    have := he n k d
    simpa [marks] using this
  | x :: l, d, 0, k, h, _, _, _ => by simp at h
  | x :: l, d, n + 1, k, h1, h2, h3, h4 => by
    simp only [List.length_cons] at h1 h2 h4
    have e0 : c * (l.length + 1) = c * l.length + c := Nat.mul_succ _ _
    rw [e0] at h4
    have hj : d.length < (d ++ x :: l).length := by simp
    rw [hs n k d.length (d ++ x :: l) hj (by omega) h3 (by omega)]
    have e1 : (d ++ x :: l)[d.length] = x := by simp
    rw [e1, set_append_len]
    have ih := mark_loop hs he l (d ++ [g k x]) n (k + c) (by omega) (by simp; omega) (by omega) (by omega)
    rw [List.length_append, List.append_assoc, List.append_assoc] at ih
    simp only [List.length_cons, List.length_nil, Nat.zero_add, List.singleton_append] at ih
    rw [ih, List.length_cons, marks, e0]
    congr 1
    · push_cast; omega
    · congr 1; omega

theorem mark_loop0 {α R : Type} {g : Int → α → α} {c : Nat} {lp : Nat → Int → Int → List α → Option R} {K : Int → Int → List α → Option R}
    (hs : ∀ n (k : Int) (j : Nat) v (h : j < v.length), j < 4611686018427387904 → 0 ≤ k → k + c ≤ 4611686018427387904 → lp (n + 1) k (j : Int) v = lp n (k + c) ((j + 1 : Nat) : Int) (v.set j (g k v[j])))
    (he : ∀ n k v, lp (n + 1) k (v.length : Int) v = K k (v.length : Int) v) (l : List α) {n : Nat} {k : Int} (h1 : l.length < n) (h2 : l.length < 4611686018427387904) (h3 : 0 ≤ k) (h4 : k + (c * l.length : Nat) ≤ 4611686018427387904) :
    lp n k 0 l = K (k + (c * l.length : Nat)) (l.length : Int) (marks g c k l) := by
  have := mark_loop hs he l [] n k h1 (by simpa using h2) h3 h4
  simpa using this

theorem held_loop {α R : Type} {g : Int → α → α} {c : Nat} {a : List α} {lp : Nat → Int → Int → Option R} {K : Int → Option R}
    (hs : ∀ n (k : Int) (j : Nat) x (h : j < a.length), a[j] = g k x → j < 4611686018427387904 → 0 ≤ k → k + c ≤ 4611686018427387904 → lp (n + 1) k (j : Int) = lp n (k + c) ((j + 1 : Nat) : Int))
    (he : ∀ n k, lp (n + 1) k (a.length : Int) = K k) :
    ∀ (l d : List α) (n : Nat) (k : Int), a = d ++ marks g c k l → l.length < n → d.length + l.length < 4611686018427387904 → 0 ≤ k → k + (c * l.length : Nat) ≤ 4611686018427387904 →
      lp n k (d.length : Int) = K (k + (c * l.length : Nat))
  | [], d, 0, k, _, h, _, _, _ => by simp at h
  | [], d, n + 1, k, ha, _, _, _, _ => by
    have e : a = d := by rw [ha]; simp [marks]
    have := he n k
    rw [e] at this
    simpa using this
  | x :: l, d, 0, k, _, h, _, _, _ => by simp at h
  | x :: l, d, n + 1, k, ha, h1, h2, h3, h4 => by
    simp only [List.length_cons] at h1 h2 h4
    have e0 : c * (l.length + 1) = c * l.length + c := Nat.mul_succ _ _
    rw [e0] at h4
    rw [marks] at ha
    have hj : d.length < a.length := by rw [ha]; simp
    have e1 : a[d.length] = g k x := by simp [ha]
    rw [hs n k d.length x hj e1 (by omega) h3 (by omega)]
    have ih := held_loop hs he l (d ++ [g k x]) n (k + c) (by rw [ha]; simp) (by omega) (by simp; omega) (by omega) (by omega)
    rw [List.length_append] at ih
    simp only [List.length_cons, List.length_nil, Nat.zero_add] at ih
    rw [ih, List.length_cons, e0]
    congr 1
    push_cast; omega

theorem held_loop0 {α R : Type} {g : Int → α → α} {c : Nat} {lp : Nat → Int → Int → Option R} {K : Int → Option R} (l : List α) {n : Nat} {k : Int} {a : List α} (ha : marks g c k l = a)
    (hs : ∀ n (k' : Int) (j : Nat) x (h : j < a.length), a[j] = g k' x → j < 4611686018427387904 → 0 ≤ k' → k' + c ≤ 4611686018427387904 → lp (n + 1) k' (j : Int) = lp n (k' + c) ((j + 1 : Nat) : Int))
    (he : ∀ n k', lp (n + 1) k' (a.length : Int) = K k')
    (h1 : l.length < n) (h2 : l.length < 4611686018427387904) (h3 : 0 ≤ k) (h4 : k + (c * l.length : Nat) ≤ 4611686018427387904) :
    lp n k 0 = K (k + (c * l.length : Nat)) := held_loop hs he l [] n k ha.symm h1 (by simpa using h2) h3 h4

/-! measures, comparisons -/
theorem sz_bind {left : Int} {z1 z2 : Nat} {k : Unit × (Int × Unit) → Option (Unit × (Int × Unit))} (h0 : 0 ≤ left)
    (hk : (z1 : Int) ≤ left → k ((), (left - z1, ())) = ret (if left - z1 < (z2 : Int) then -1 else left - z1 - z2)) :
    ((ret (if left < (z1 : Int) then (-1 : Int) else left - z1)).bind fun o => bif decide (o.2.1 < (0 : Int)) then some ((), ((-1 : Int), ())) else k o) = ret (if left < ((z1 + z2 : Nat) : Int) then -1 else left - ((z1 + z2 : Nat) : Int)) := by
  by_cases h : left < (z1 : Int)
  · rw [if_pos h, if_pos (by omega)]; rfl
  · rw [if_neg h]
    have e : decide (left - (z1 : Int) < 0) = false := by simp; omega
    simp only [ret, Option.bind_some, e, cond_false]
    rw [hk (by omega)]
    by_cases h2 : left - z1 < (z2 : Int)
    · rw [if_pos h2, if_pos (by omega)]
    · rw [if_neg h2, if_neg (by omega)]
      rw [show left - (z1 : Int) - (z2 : Int) = left - ((z1 + z2 : Nat) : Int) by omega]

theorem sz_done {left : Int} (h : 0 ≤ left) : some ((), (left, ())) = ret (if left < ((0 : Nat) : Int) then -1 else left - ((0 : Nat) : Int)) := by
  rw [if_neg (by omega)]; simp

theorem beq_decide {x y : Bool} : beq x y = decide (x = y) := by cases x <;> cases y <;> rfl
theorem seq_decide {x y : List UInt8} : seq x y = decide (x = y) := by
  unfold seq
  by_cases h : x = y <;> simp [h]

theorem eq_step {p q : Prop} [Decidable p] [Decidable q] {R : Option (Unit × (Bool × Unit))} (h : R = ret (decide q)) : (bif !decide p then some ((), (false, ())) else R) = ret (decide (p ∧ q)) := by
  rw [h]
  by_cases hp : p <;> by_cases hq : q <;> simp [hp, hq]
theorem eq_done : some ((), (true, ())) = ret (decide True) := rfl

theorem getD_set_self {α : Type} {l : List α} {j : Nat} (h : j < l.length) (x d : α) : (l.set j x).getD j d = x := by simp [h]
end Go.Sx
