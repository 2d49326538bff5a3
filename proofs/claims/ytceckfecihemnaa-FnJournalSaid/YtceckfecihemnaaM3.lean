/- Plain laws. -/
import Derived.Test.YtceckfecihemnaaM2

namespace Go.Sx
set_option linter.unusedVariables false
set_option linter.unusedSimpArgs false
def marks {α : Type} (g : Int → α → α) (c : Nat) : Int → List α → List α
  | _, [] => []
  | k, x :: l => g k x :: marks g c (k + c) l
theorem marks_len {α : Type} (g : Int → α → α) (c : Nat) : ∀ (k : Int) (l : List α), (marks g c k l).length = l.length
  | _, [] => rfl
  | k, x :: l => by rw [marks, List.length_cons, List.length_cons, marks_len g c (k + c) l]
theorem mark_loop {α R : Type} {g : Int → α → α} {c : Nat} {lp : Nat → Int → Int → List α → Option R} {K : Int → Int → List α → Option R}
    (hs : ∀ n (k : Int) (j : Nat) v (h : j < v.length), j < 4611686018427387904 → 0 ≤ k → k + c ≤ 4611686018427387904 → lp (n + 1) k (j : Int) v = lp n (k + c) ((j + 1 : Nat) : Int) (v.set j (g k v[j])))
    (he : ∀ n k v, lp (n + 1) k (v.length : Int) v = K k (v.length : Int) v) :
    ∀ (l d : List α) (n : Nat) (k : Int), l.length < n → d.length + l.length < 4611686018427387904 → 0 ≤ k → k + (c * l.length : Nat) ≤ 4611686018427387904 →
      lp n k (d.length : Int) (d ++ l) = K (k + (c * l.length : Nat)) ((d.length + l.length : Nat) : Int) (d ++ marks g c k l)
  | [], d, 0, k, h, _, _, _ => by simp at h
  | [], d, n + 1, k, _, _, _, _ => by
    have := he n k d
    simpa [marks] using this
  | x :: l, d, 0, k, h, _, _, _ => by simp at h
  | x :: l, d, n + 1, k, h1, h2, h3, h4 => by
    simp only [List.length_cons] at h1 h2 h4
    have e0 : c * (l.length + 1) = c * l.length + c := Nat.mul_succ _ _
    rw [e0] at h4
    have hj : d.length < (d ++ x :: l).length := by simp
    rw [hs n k d.length (d ++ x :: l) hj (by omega) h3 (by omega)]
    have e1 : (d ++ x :: l)[d.length] = x := by simp
    rw [e1, set_append_len]
    have ih := mark_loop hs he l (d ++ [g k x]) n (k + c) (by omega) (by simp; omega) (by omega) (by omega)
    rw [List.length_append, List.append_assoc, List.append_assoc] at ih
    simp only [List.length_cons, List.length_nil, Nat.zero_add, List.singleton_append] at ih
    rw [ih, List.length_cons, marks, e0]
    congr 1
    · push_cast; omega
    · congr 1; omega
theorem mark_loop0 {α R : Type} {g : Int → α → α} {c : Nat} {lp : Nat → Int → Int → List α → Option R} {K : Int → Int → List α → Option R}
    (hs : ∀ n (k : Int) (j : Nat) v (h : j < v.length), j < 4611686018427387904 → 0 ≤ k → k + c ≤ 4611686018427387904 → lp (n + 1) k (j : Int) v = lp n (k + c) ((j + 1 : Nat) : Int) (v.set j (g k v[j])))
    (he : ∀ n k v, lp (n + 1) k (v.length : Int) v = K k (v.length : Int) v) (l : List α) {n : Nat} {k : Int} (h1 : l.length < n) (h2 : l.length < 4611686018427387904) (h3 : 0 ≤ k) (h4 : k + (c * l.length : Nat) ≤ 4611686018427387904) :
    lp n k 0 l = K (k + (c * l.length : Nat)) (l.length : Int) (marks g c k l) := by
  have := mark_loop hs he l [] n k h1 (by simpa using h2) h3 h4
  simpa using this
theorem held_loop {α R : Type} {g : Int → α → α} {c : Nat} {a : List α} {lp : Nat → Int → Int → Option R} {K : Int → Option R}
    (hs : ∀ n (k : Int) (j : Nat) x (h : j < a.length), a[j] = g k x → j < 4611686018427387904 → 0 ≤ k → k + c ≤ 4611686018427387904 → lp (n + 1) k (j : Int) = lp n (k + c) ((j + 1 : Nat) : Int))
    (he : ∀ n k, lp (n + 1) k (a.length : Int) = K k) :
    ∀ (l d : List α) (n : Nat) (k : Int), a = d ++ marks g c k l → l.length < n → d.length + l.length < 4611686018427387904 → 0 ≤ k → k + (c * l.length : Nat) ≤ 4611686018427387904 →
      lp n k (d.length : Int) = K (k + (c * l.length : Nat))
  | [], d, 0, k, _, h, _, _, _ => by simp at h
  | [], d, n + 1, k, ha, _, _, _, _ => by
    have e : a = d := by rw [ha]; simp [marks]
    have := he n k
    rw [e] at this
    simpa using this
  | x :: l, d, 0, k, _, h, _, _, _ => by simp at h
  | x :: l, d, n + 1, k, ha, h1, h2, h3, h4 => by
    simp only [List.length_cons] at h1 h2 h4
    have e0 : c * (l.length + 1) = c * l.length + c := Nat.mul_succ _ _
    rw [e0] at h4
    rw [marks] at ha
    have hj : d.length < a.length := by rw [ha]; simp
    have e1 : a[d.length] = g k x := by simp [ha]
    rw [hs n k d.length x hj e1 (by omega) h3 (by omega)]
    have ih := held_loop hs he l (d ++ [g k x]) n (k + c) (by rw [ha]; simp) (by omega) (by simp; omega) (by omega) (by omega)
    rw [List.length_append] at ih
    simp only [List.length_cons, List.length_nil, Nat.zero_add] at ih
    rw [ih, List.length_cons, e0]
    congr 1
    push_cast; omega
theorem held_loop0 {α R : Type} {g : Int → α → α} {c : Nat} {lp : Nat → Int → Int → Option R} {K : Int → Option R} (l : List α) {n : Nat} {k : Int} {a : List α} (ha : marks g c k l = a)
    (hs : ∀ n (k' : Int) (j : Nat) x (h : j < a.length), a[j] = g k' x → j < 4611686018427387904 → 0 ≤ k' → k' + c ≤ 4611686018427387904 → lp (n + 1) k' (j : Int) = lp n (k' + c) ((j + 1 : Nat) : Int))
    (he : ∀ n k', lp (n + 1) k' (a.length : Int) = K k')
    (h1 : l.length < n) (h2 : l.length < 4611686018427387904) (h3 : 0 ≤ k) (h4 : k + (c * l.length : Nat) ≤ 4611686018427387904) :
    lp n k 0 = K (k + (c * l.length : Nat)) := held_loop hs he l [] n k ha.symm h1 (by simpa using h2) h3 h4
theorem sz_bind {left : Int} {z1 z2 : Nat} {k : Unit × (Int × Unit) → Option (Unit × (Int × Unit))} (h0 : 0 ≤ left)
    (hk : (z1 : Int) ≤ left → k ((), (left - z1, ())) = ret (if left - z1 < (z2 : Int) then -1 else left - z1 - z2)) :
    ((ret (if left < (z1 : Int) then (-1 : Int) else left - z1)).bind fun o => bif decide (o.2.1 < (0 : Int)) then some ((), ((-1 : Int), ())) else k o) = ret (if left < ((z1 + z2 : Nat) : Int) then -1 else left - ((z1 + z2 : Nat) : Int)) := by
  by_cases h : left < (z1 : Int)
  · rw [if_pos h, if_pos (by omega)]; rfl
  · rw [if_neg h]
    have e : decide (left - (z1 : Int) < 0) = false := by simp; omega
    simp only [ret, Option.bind_some, e, cond_false]
    rw [hk (by omega)]
    by_cases h2 : left - z1 < (z2 : Int)
    · rw [if_pos h2, if_pos (by omega)]
    · rw [if_neg h2, if_neg (by omega)]
      rw [show left - (z1 : Int) - (z2 : Int) = left - ((z1 + z2 : Nat) : Int) by omega]
theorem sz_done {left : Int} (h : 0 ≤ left) : some ((), (left, ())) = ret (if left < ((0 : Nat) : Int) then -1 else left - ((0 : Nat) : Int)) := by
  rw [if_neg (by omega)]; simp
theorem sz_loop {α : Type} {l : List α} {z : α → Nat} {lp : Nat → Int → Int → Option (Unit × (Int × Unit))}
    (hs : ∀ n (left : Int) (j : Nat) (h : j < l.length), 0 ≤ left → left ≤ 1048576 → lp (n + 1) left (j : Int) = if left < (z l[j] : Int) then ret (-1) else lp n (left - (z l[j] : Int)) ((j + 1 : Nat) : Int))
    (he : ∀ n left, lp (n + 1) left (l.length : Int) = ret left) : ∀ (r d : List α) (n : Nat) (left : Int), l = d ++ r → r.length < n → 0 ≤ left → left ≤ 1048576 →
      lp n left (d.length : Int) = ret (if left < ((r.map z).sum : Int) then -1 else left - ((r.map z).sum : Int))
  | [], d, 0, left, _, h, _, _ => by simp at h
  | [], d, n + 1, left, hl, _, h0, _ => by
    have e : l = d := by rw [hl]; simp
    have := he n left
    rw [e] at this
    rw [this]
    simp
    omega
  | x :: r, d, 0, left, _, h, _, _ => by simp at h
  | x :: r, d, n + 1, left, hl, hn, h0, h1 => by
    have hj : d.length < l.length := by rw [hl]; simp
    have e1 : l[d.length] = x := by simp [hl]
    rw [hs n left d.length hj h0 h1, e1]
    simp only [List.length_cons] at hn
    by_cases h : left < (z x : Int)
    · rw [if_pos h, if_pos (by simp; omega)]
    · rw [if_neg h]
      have ih := sz_loop hs he r (d ++ [x]) n (left - (z x : Int)) (by rw [hl]; simp) (by omega) (by omega) (by omega)
      rw [List.length_append] at ih
      simp only [List.length_cons, List.length_nil, Nat.zero_add] at ih
      rw [ih]
      simp only [List.map_cons, List.sum_cons]
      by_cases h2 : left - (z x : Int) < ((r.map z).sum : Int)
      · rw [if_pos h2, if_pos (by push_cast; omega)]
      · rw [if_neg h2, if_neg (by push_cast; omega)]
        have : left - (z x : Int) - ((r.map z).sum : Int) = left - ((z x + (r.map z).sum : Nat) : Int) := by push_cast; omega
        rw [this]
theorem sz_loop0 {α : Type} {l : List α} {z : α → Nat} {lp : Nat → Int → Int → Option (Unit × (Int × Unit))}
    (hs : ∀ n (left : Int) (j : Nat) (h : j < l.length), 0 ≤ left → left ≤ 1048576 → lp (n + 1) left (j : Int) = if left < (z l[j] : Int) then ret (-1) else lp n (left - (z l[j] : Int)) ((j + 1 : Nat) : Int))
    (he : ∀ n left, lp (n + 1) left (l.length : Int) = ret left) {n : Nat} {left : Int} (hn : l.length < n) (h0 : (l.length : Int) ≤ left) (h1 : left ≤ 1048576) :
      lp n (left - (l.length : Int)) 0 = ret (if left < ((l.length + (l.map z).sum : Nat) : Int) then -1 else left - ((l.length + (l.map z).sum : Nat) : Int)) := by
  refine (sz_loop hs he l [] n (left - l.length) rfl hn (by omega) (by omega)).trans ?_
  by_cases h2 : left - l.length < ((l.map z).sum : Int)
  · rw [if_pos h2, if_pos (by push_cast; omega)]
  · rw [if_neg h2, if_neg (by push_cast; omega)]
    have : left - (l.length : Int) - ((l.map z).sum : Int) = left - ((l.length + (l.map z).sum : Nat) : Int) := by push_cast; omega
    rw [this]
theorem le_sum_map {α : Type} (f : α → Nat) {x : α} : ∀ {l : List α}, x ∈ l → f x ≤ (l.map f).sum
  | y :: l, h => by
    rw [List.map_cons, List.sum_cons]
    rcases List.mem_cons.1 h with h | h
    · rw [h]; omega
    · have := le_sum_map f h; omega
noncomputable def same {α : Type} (a b : α) : Bool := @decide (a = b) (Classical.propDecidable _)
theorem same_self {α : Type} (a : α) : same a a = true := by unfold same; simp
theorem same_iff {α : Type} {a b : α} : same a b = true ↔ a = b := by unfold same; simp
theorem same_ne {α : Type} {a b : α} (h : a ≠ b) : same a b = false := by unfold same; simp [h]
theorem same_prod {α β : Type} (a b : α × β) : same a b = (same a.1 b.1 && same a.2 b.2) := by
  rw [Bool.eq_iff_iff, Bool.and_eq_true, same_iff, same_iff, same_iff, Prod.ext_iff]
theorem bne_same {x y : Int} : (x != y) = !same x y := by
  by_cases h : x = y
  · rw [h, same_self]; simp
  · rw [same_ne h]; simp [h]
theorem beq_same {x y : Bool} : beq x y = same x y := by
  by_cases h : x = y
  · rw [h, same_self]; cases y <;> rfl
  · rw [same_ne h]; cases x <;> cases y <;> simp_all [beq]
theorem seq_same {x y : List UInt8} : seq x y = same x y := by
  unfold seq
  by_cases h : x = y
  · rw [h, same_self]; simp
  · rw [same_ne h]; simp [h]
theorem eq_pair {α β : Type} {a b : α × β} {R : Option (Unit × (Bool × Unit))} (h : R = ret (same a.2 b.2)) : (bif !same a.1 b.1 then some ((), (false, ())) else R) = ret (same a b) := by
  rw [h, same_prod]
  cases same a.1 b.1 <;> rfl
theorem eq_last {α : Type} {a b : α} : (bif !same a b then some ((), (false, ())) else some ((), (true, ()))) = ret (same a b) := by
  cases same a b <;> rfl
theorem foldK_same {α V R : Type} {body : Int → α → V → (V → Option R) → Option R} {K : Int → V → Option R} {E : V → Option R} {z : α} : ∀ (l : List α) (b : List α) (j : Nat) (v : V), b.length = j + l.length →
    (∀ (j : Nat) x (v : V) k, x ∈ l → body j x v k = bif inb (j : Int) b.length then (bif !same x (b.getD (j : Int).toNat z) then E v else k v) else none) →
    foldK body K l j v = bif same l (b.drop j) then K ((j + l.length : Nat) : Int) v else E v
  | [], b, j, v, hb, h => by
    have : b.drop j = [] := List.drop_eq_nil_of_le (by simp at hb; omega)
    rw [this, same_self]; rfl
  | x :: l, b, j, v, hb, h => by
    have hj : j < b.length := by rw [hb]; simp
    rw [foldK, h j x v _ (List.mem_cons_self ..), inb_nat]
    have e1 : decide (j < b.length) = true := by simpa using hj
    have e2 : b.getD (j : Int).toNat z = b[j] := by simp [hj]
    have e3 : b.drop j = b[j] :: b.drop (j + 1) := List.drop_eq_getElem_cons hj
    rw [e1, e2, e3, foldK_same l b (j + 1) v (by rw [hb]; simp; omega) fun j y v k hy => h j y v k (List.mem_cons_of_mem _ hy)]
    simp only [cond_true]
    by_cases hx : x = b[j]
    · have : same (x :: l) (b[j] :: b.drop (j + 1)) = same l (b.drop (j + 1)) := by
        rw [Bool.eq_iff_iff, same_iff, same_iff, List.cons.injEq]
        exact ⟨fun h => h.2, fun h => ⟨hx, h⟩⟩
      rw [this]
      have e4 : (!same x b[j]) = false := by rw [hx, same_self]; rfl
      rw [e4]
      simp only [cond_false, List.length_cons]
      rw [show j + 1 + l.length = j + (l.length + 1) by omega]
    · have : same (x :: l) (b[j] :: b.drop (j + 1)) = false := same_ne fun h => hx (List.cons.inj h).1
      rw [this, same_ne hx]
      rfl
theorem getD_set_self {α : Type} {l : List α} {j : Nat} (h : j < l.length) (x d : α) : (l.set j x).getD j d = x := by simp [h]
end Go.Sx
