/- Plain laws of the Lean functions. -/
import Derived.Test.YtceckfecihemnaaGreatMS1SerI

namespace Go.Sx
set_option linter.unusedVariables false
set_option linter.unusedSimpArgs false
def dda : List Int → List Int
  | [] => []
  | [x] => [x]
  | x :: y :: l => bif x == y then dda (y :: l) else x :: dda (y :: l)
theorem dda_ne : ∀ (x : Int) (l : List Int), dda (x :: l) ≠ []
  | x, [] => by simp [dda]
  | x, y :: l => by
    rw [dda]
    cases x == y
    · simp
    · simpa using dda_ne y l
theorem dda_snoc : ∀ (q : List Int) (y x : Int), dda (q ++ [y, x]) = bif y == x then dda (q ++ [y]) else dda (q ++ [y]) ++ [x]
  | [], y, x => by
    simp only [List.nil_append, dda]
    cases h : y == x
    · rfl
    · have : y = x := by simpa using h
      subst this; rfl
  | [a], y, x => by
    have h := dda_snoc [] y x
    simp only [List.nil_append] at h
    simp only [List.cons_append, List.nil_append]
    rw [dda, h, show dda [a, y] = bif a == y then dda [y] else a :: dda [y] from rfl]
    cases a == y <;> cases y == x <;> rfl
  | a :: b :: q, y, x => by
    have h := dda_snoc (b :: q) y x
    simp only [List.cons_append] at h ⊢
    rw [dda, h, show dda (a :: b :: (q ++ [y])) = bif a == b then dda (b :: (q ++ [y])) else a :: dda (b :: (q ++ [y])) from rfl]
    cases a == b <;> cases y == x <;> rfl
theorem dda_take {l : List Int} {j : Nat} (h : j + 1 < l.length) : dda (l.take (j + 2)) = bif l[j] == l[j + 1] then dda (l.take (j + 1)) else dda (l.take (j + 1)) ++ [l[j + 1]] := by
  have e1 : l.take (j + 2) = l.take j ++ [l[j], l[j + 1]] := by
    rw [List.take_succ_eq_append_getElem h, List.take_succ_eq_append_getElem (by omega : j < l.length), List.append_assoc]; rfl
  have e2 : l.take (j + 1) = l.take j ++ [l[j]] := List.take_succ_eq_append_getElem (by omega)
  rw [e1, e2]
  exact dda_snoc _ _ _
theorem dda_len : ∀ (l : List Int), (dda l).length ≤ l.length
  | [] => Nat.le_refl _
  | [x] => Nat.le_refl _
  | x :: y :: l => by
    have := dda_len (y :: l)
    rw [dda]
    cases x == y
    · simp only [cond_false, List.length_cons] at this ⊢; omega
    · simp only [cond_true, List.length_cons] at this ⊢; omega
theorem isub1 {j : Nat} (h : j < 4611686018427387904) : isub .i64 ((j + 1 : Nat) : Int) 1 = (j : Int) := by
  rw [isub_eq (by unfold I64; omega)]; omega
section
variable {N : Nat} {l : List Int} {R : Type}
theorem cpt_lp1 (hl : l.length ≤ 1048576) {s : Nat} (hs1 : 1 ≤ s) (hs : s < l.length) (K0 : Int → Int → Bool → List Int → Option R) :
    ∀ (n k : Nat) (acc : List Int), k < l.length - s → l.length - s - k ≤ n → acc = dda (l.take (s + k + 1)) → acc.length ≤ s + k →
      Z4 N s l.length K0 (n + 1) (acc.length : Int) ((k + 1 : Nat) : Int) (acc ++ l.drop acc.length) =
        K0 ((dda l).length : Int) ((l.length - s : Nat) : Int) false (dda l ++ l.drop (dda l).length)
  | n, k, acc, hk, hn, ha, hal => by
    rw [Z4]
    by_cases h1 : k + 1 < l.length - s
    · have e1 : decide (((k + 1 : Nat) : Int) < ((l.length - s : Nat) : Int)) = true := by simp; omega
      have e2 : inb ((k + 1 : Nat) : Int) (l.length - s) = true := by rw [inb_nat]; simpa using h1
      have e3 : inb (k : Int) (l.length - s) = true := by rw [inb_nat]; simpa using hk
      have g1 : (acc ++ l.drop acc.length).getD (s + (k + 1)) 0 = l[s + (k + 1)] := by
        rw [List.getD_eq_getElem?_getD, List.getElem?_append_right (by omega), List.getElem?_drop, show acc.length + (s + (k + 1) - acc.length) = s + (k + 1) by omega, List.getElem?_eq_getElem (by omega)]; rfl
      have g2 : (acc ++ l.drop acc.length).getD (s + k) 0 = l[s + k] := by
        rw [List.getD_eq_getElem?_getD, List.getElem?_append_right (by omega), List.getElem?_drop, show acc.length + (s + k - acc.length) = s + k by omega, List.getElem?_eq_getElem (by omega)]; rfl
      have e4 : inb (acc.length : Int) (acc ++ l.drop acc.length).length = true := by rw [inb_nat]; simp; omega
      have hd := dda_take (l := l) (j := s + k) (by omega)
      obtain ⟨n', rfl⟩ : ∃ n', n = n' + 1 := ⟨n - 1, by omega⟩
      simp only [e1, e2, isub1 (show k < 4611686018427387904 by omega), e3, Int.toNat_natCast, g1, g2, cond_true, e4, ix_succ (show k + 1 < 4611686018427387904 by omega), ix_succ (show acc.length < 4611686018427387904 by omega)]
      have hb : (l[s + (k + 1)] != l[s + k]) = !(l[s + k] == l[s + k + 1]) := by
        rw [bne, show l[s + (k + 1)] = l[s + k + 1] from rfl]
        congr 1
        rw [Bool.eq_iff_iff, beq_iff_eq, beq_iff_eq]; exact eq_comm
      rw [hb]
      cases hq : l[s + k] == l[s + k + 1]
      · rw [hq] at hd
        simp only [cond_false] at hd
        simp only [Bool.not_false, cond_true]
        have e5 : (acc ++ l.drop acc.length).set acc.length l[s + (k + 1)] = (acc ++ [l[s + (k + 1)]]) ++ l.drop (acc.length + 1) := by
          rw [List.set_append_right _ _ (Nat.le_refl _), Nat.sub_self, List.drop_eq_getElem_cons (by omega : acc.length < l.length), List.set_cons_zero, List.append_assoc]; rfl
        rw [e5]
        have := cpt_lp1 hl hs1 hs K0 n' (k + 1) (acc ++ [l[s + (k + 1)]]) h1 (by omega) (by rw [show s + (k + 1) + 1 = s + k + 2 by omega, hd, ← ha]; rfl) (by simp; omega)
        simpa using this
      · rw [hq] at hd
        simp only [cond_true] at hd
        simp only [Bool.not_true, cond_false]
        exact cpt_lp1 hl hs1 hs K0 n' (k + 1) acc h1 (by omega) (by rw [show s + (k + 1) + 1 = s + k + 2 by omega, hd, ← ha]) (by omega)
    · have hk' : k + 1 = l.length - s := by omega
      have e1 : decide (((k + 1 : Nat) : Int) < ((l.length - s : Nat) : Int)) = false := by simp; omega
      have e2 : l.take (s + k + 1) = l := List.take_of_length_le (by omega)
      rw [e2] at ha
      subst ha
      simp only [e1, cond_false]
      rw [hk']
termination_by n => n
theorem cpt_lp0 (hl : l.length ≤ 1048576) (hN : 1048576 < N) (K0 : List Int → Option R) (K1 : Int → Bool → Option R) :
    ∀ (n k : Nat), k < l.length → l.length - k ≤ n → dda (l.take (k + 1)) = l.take (k + 1) →
      (∀ i b, K1 i b = K0 l) → Zae N l K0 K1 (n + 1) ((k + 1 : Nat) : Int) = K0 (dda l)
  | n, k, hk, hn, hd, hK => by
    rw [Zae]
    by_cases h1 : k + 1 < l.length
    · obtain ⟨n', rfl⟩ : ∃ n', n = n' + 1 := ⟨n - 1, by omega⟩
      have e3 : inb (k : Int) l.length = true := ix_inb hk
      have hd2 := dda_take (l := l) (j := k) h1
      simp only [ix_lt h1, ix_inb h1, ix_get h1, isub1 (show k < 4611686018427387904 by omega), e3, ix_get hk, cond_true, ix_succ (show k + 1 < 4611686018427387904 by omega)]
      have hb : (l[k + 1] == l[k]) = (l[k] == l[k + 1]) := by rw [Bool.eq_iff_iff, beq_iff_eq, beq_iff_eq]; exact eq_comm
      rw [hb]
      cases hq : l[k] == l[k + 1]
      · rw [hq] at hd2
        simp only [cond_false] at hd2 ⊢
        refine cpt_lp0 hl hN K0 K1 n' (k + 1) h1 (by omega) ?_ hK
        rw [hd2, hd]
        exact (List.take_succ_eq_append_getElem h1).symm
      · rw [hq] at hd2
        simp only [cond_true] at hd2 ⊢
        have c1 : ((decide ((0 : Int) ≤ ((k + 1 : Nat) : Int))) && (decide (((k + 1 : Nat) : Int) ≤ ((List.length l) : Int)))) = true := by simp; omega
        simp only [c1, cond_true, Int.toNat_natCast]
        have ht : dda (l.take (k + 1 + 0 + 1)) = l.take (k + 1) := by rw [hd2, hd]
        have hlt : (l.take (k + 1)).length = k + 1 := by rw [List.length_take]; omega
        obtain ⟨N', rfl⟩ : ∃ N', N = N' + 1 := ⟨N - 1, by omega⟩
        have key := cpt_lp1 (N := N' + 1) hl (s := k + 1) (by omega) h1 (fun k20 k21 t22 l23 =>
          (bif (decide ((0 : Int) ≤ k20)) && (decide (k20 ≤ ((List.length l23) : Int))) then
            (bif (decide ((0 : Int) ≤ k20)) && (decide (k20 ≤ ((List.length ((List.take (Int.toNat k20) l23) ++ List.replicate ((List.length l23) - (Int.toNat k20)) (0 : Int) ++ (List.drop (List.length l23) l23))) : Int))) then
              (K0 (List.take (Int.toNat k20) ((List.take (Int.toNat k20) l23) ++ List.replicate ((List.length l23) - (Int.toNat k20)) (0 : Int) ++ (List.drop (List.length l23) l23)))) else none) else none)) N' 0 (l.take (k + 1)) (by omega) (by omega) ht.symm (by omega)
        rw [hlt, List.take_append_drop] at key
        refine Eq.trans key ?_
        have hdl := dda_len l
        have z1 : (dda l ++ l.drop (dda l).length).length = l.length := by rw [List.length_append, List.length_drop]; omega
        have z2 : (List.take (dda l).length (dda l ++ l.drop (dda l).length)) = dda l := by simp
        have c2 : ((decide ((0 : Int) ≤ ((dda l).length : Int))) && (decide (((dda l).length : Int) ≤ ((dda l ++ l.drop (dda l).length).length : Int)))) = true := by rw [z1]; simp; omega
        simp only [c2, cond_true, Int.toNat_natCast, z2]
        have c3 : ((decide ((0 : Int) ≤ ((dda l).length : Int))) && (decide (((dda l).length : Int) ≤ ((dda l ++ List.replicate ((dda l ++ l.drop (dda l).length).length - (dda l).length) (0 : Int) ++ (List.drop (dda l ++ l.drop (dda l).length).length (dda l ++ l.drop (dda l).length))).length : Int)))) = true := by
          simp only [List.length_append]; simp; omega
        simp only [c3, cond_true]
        congr 1
        rw [List.append_assoc]
        simp
    · have e1 : decide (((k + 1 : Nat) : Int) < ilen l) = false := by unfold ilen; simp; omega
      have e2 : l.take (k + 1) = l := List.take_of_length_le (by omega)
      rw [e2] at hd
      simp only [e1, cond_false]
      rw [hK, hd]
termination_by n => n
theorem compact_run (hl : l.length ≤ 1048576) (hN : 1048576 < N) : Zu N l = ret (dda l) := by
  unfold Zu
  by_cases h : l.length < 2
  · have e : decide (ilen l < (2 : Int)) = true := by unfold ilen; simp; omega
    rw [e]
    match l, h with
    | [], _ => rfl
    | [x], _ => rfl
    | _ :: _ :: _, h => simp at h; omega
  · have e : decide (ilen l < (2 : Int)) = false := by unfold ilen; simp; omega
    rw [e]
    obtain ⟨N', rfl⟩ : ∃ N', N = N' + 1 := ⟨N - 1, by omega⟩
    have h0 : dda (l.take (0 + 1)) = l.take (0 + 1) := by
      match l, h with
      | x :: l, _ => rfl
    exact cpt_lp0 (R := Unit × (List Int × Unit)) hl hN (fun l24 => some ((), (l24, ()))) (fun k25 t26 => some ((), (l, ()))) N' 0 (by omega) (by omega) h0 (fun _ _ => rfl)
end
def cellsIn (p : Int → Bool) : List Int := ((List.range 8).map fun i : Nat => (i : Int)).filter p
theorem strict_ext : ∀ {a b : List Int}, a.Pairwise (· < ·) → b.Pairwise (· < ·) → (∀ x, x ∈ a ↔ x ∈ b) → a = b
  | [], [], _, _, _ => rfl
  | [], y :: b, _, _, h => absurd ((h y).2 (by simp)) (by simp)
  | x :: a, [], _, _, h => absurd ((h x).1 (by simp)) (by simp)
  | x :: a, y :: b, ha, hb, h => by
    rw [List.pairwise_cons] at ha hb
    have hxy : x = y := by
      have h1 := (h x).1 (by simp)
      have h2 := (h y).2 (by simp)
      rw [List.mem_cons] at h1 h2
      rcases h1 with h1 | h1
      · exact h1
      · rcases h2 with h2 | h2
        · exact h2.symm
        · have := hb.1 x h1; have := ha.1 y h2; omega
    subst hxy
    congr 1
    refine strict_ext ha.2 hb.2 fun z => ?_
    have := h z
    rw [List.mem_cons, List.mem_cons] at this
    constructor
    · intro hz
      rcases this.1 (.inr hz) with e | e
      · subst e; have := ha.1 z hz; omega
      · exact e
    · intro hz
      rcases this.2 (.inr hz) with e | e
      · subst e; have := hb.1 z hz; omega
      · exact e
theorem mem_dda {x : Int} : ∀ {l : List Int}, x ∈ dda l ↔ x ∈ l
  | [] => Iff.rfl
  | [y] => Iff.rfl
  | y :: z :: l => by
    rw [dda]
    cases h : y == z
    · simp only [cond_false, List.mem_cons, mem_dda (l := z :: l)]
    · have : y = z := by simpa using h
      subst this
      simp only [cond_true, List.mem_cons, mem_dda (l := y :: l)]
      simp
theorem dda_strict : ∀ {l : List Int}, l.Pairwise (· ≤ ·) → (dda l).Pairwise (· < ·)
  | [], _ => List.Pairwise.nil
  | [y], _ => List.pairwise_singleton ..
  | y :: z :: l, h => by
    rw [List.pairwise_cons] at h
    have ih := dda_strict h.2
    rw [dda]
    cases hq : y == z
    · simp only [cond_false]
      refine List.pairwise_cons.2 ⟨fun w hw => ?_, ih⟩
      have hw' := mem_dda.1 hw
      have h1 := h.1 z (by simp)
      have h2 : y ≠ z := by simpa using hq
      rw [List.mem_cons] at hw'
      rcases hw' with e | e
      · subst e; omega
      · have := (List.pairwise_cons.1 h.2).1 w e; omega
    · exact ih
theorem sortInts_le (l : List Int) : (sortInts l).Pairwise (· ≤ ·) := by
  have := List.pairwise_mergeSort (le := fun x y : Int => decide (x ≤ y)) (fun a b c h1 h2 => by simp at *; omega) (fun a b => by simp; omega) l
  unfold sortInts
  exact this.imp fun h => by simpa using h
theorem mem_sortInts {x : Int} {l : List Int} : x ∈ sortInts l ↔ x ∈ l := by unfold sortInts; exact List.mem_mergeSort
theorem len_sortInts (l : List Int) : (sortInts l).length = l.length := by unfold sortInts; exact List.length_mergeSort _
theorem cells_strict (p : Int → Bool) : (cellsIn p).Pairwise (· < ·) := by
  unfold cellsIn
  exact List.Pairwise.filter _ (by decide)
theorem mem_cells {p : Int → Bool} {x : Int} : x ∈ cellsIn p ↔ (0 ≤ x ∧ x ≤ 7) ∧ p x = true := by
  unfold cellsIn
  rw [List.mem_filter]
  refine and_congr_left fun _ => ?_
  simp only [List.mem_map, List.mem_range]
  constructor
  · rintro ⟨a, ha, rfl⟩; omega
  · intro h; exact ⟨x.toNat, by omega, by omega⟩
theorem sorted_cells {l : List Int} (h : ∀ x ∈ l, 0 ≤ x ∧ x ≤ 7) : dda (sortInts l) = cellsIn fun i => l.any (· == i) := by
  refine strict_ext (dda_strict (sortInts_le l)) (cells_strict _) fun x => ?_
  rw [mem_dda, mem_sortInts, mem_cells]
  simp only [List.any_eq_true, beq_iff_eq, exists_eq_right]
  exact ⟨fun hx => ⟨h x hx, hx⟩, fun hx => hx.2⟩
end Go.Sx
