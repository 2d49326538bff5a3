/- Plain laws of the Lean functions. -/
import Derived.Test.YtfbomdanghhgcaaMS1EpOk
/- Plain laws of the helpers that copy, measure, compare and mark. -/
namespace Go.Sx
set_option linter.unusedVariables false
set_option linter.unusedSimpArgs false
set_option synthInstance.maxSize 20000
set_option synthInstance.maxHeartbeats 4000000

def z_EpActS (l : List (Int × Int × Int)) : Nat := l.length
theorem f_szEpActS {N : Nat} {a : List (Int × Int × Int)} {left : Int} (hN : 1048576 < N) (h0 : 0 ≤ left) (h1 : left ≤ 1048576) (hw : Wfd (.slice (.prod (.int .i64) (.prod (.int .i64) (.int .i64)))) a) :
    T_laws_szEpActS N a left = ret (if left < (z_EpActS a : Int) then -1 else left - (z_EpActS a : Int)) := by
  have hl : a.length ≤ 9223372036854775807 := Nat.le_trans hw.1 (by decide)
  unfold T_laws_szEpActS z_EpActS
  have e : isub .i64 left (ilen a) = left - (a.length : Int) := isub_eq (by unfold I64 ilen; omega)
  rw [e]
  by_cases h : left < (a.length : Int)
  · rw [if_pos h, show decide (left - (a.length : Int) < 0) = true by simp; omega]; rfl
  · rw [if_neg h, show decide (left - (a.length : Int) < 0) = false by simp; omega]; rfl

theorem f_toEpAct {N : Nat} {a : Int × Int × Int} (hN : 1048576 < N) : T_laws_toEpAct N a = ret a := by
  unfold T_laws_toEpAct
  all_goals rfl

theorem f_toEpActS {N : Nat} {a : List (Int × Int × Int)} (h : z_EpActS a ≤ 1048576) (hN : 1048576 < N) : T_laws_toEpActS N a = ret a := by
  have hl : a.length ≤ 1048576 := h
  unfold T_laws_toEpActS
  rw [make_ok a (by omega), toNat_ilen]
  simp only [cond_true]
  have h1 := loop_ix0 (l := a) (V := List (Int × Int × Int)) (R := Unit × (List (Int × Int × Int) × Unit)) (lp := fun n j v => T_laws_toEpActS_lp0 N a (fun i8 t9 l10 => some ((), (l10, ()))) n j v) (n := N) (by omega)
    (body := fun j x v k => bif inb j v.length then k (v.set j.toNat x) else none) (K := fun _ v => some ((), (v, ())))
    (fun n i v hi => by simp only [T_laws_toEpActS_lp0, ix_lt hi, ix_inb hi, ix_get hi, ix_succ (show i < 4611686018427387904 by omega), cond_true, f_toEpAct hN, ret, Option.bind_some])
    (fun n v => by simp only [T_laws_toEpActS_lp0, ix_ge (Nat.le_refl a.length), cond_false]) (List.replicate a.length ((0 : Int), ((0 : Int), (0 : Int))))
  refine h1.trans ?_
  rw [foldK_copy (f := id) a (fun j x v k _ => rfl)]
  simp

theorem f_eqEpAct {N : Nat} {a b : Int × Int × Int} (hN : 1048576 < N) : T_laws_eqEpAct N a b = ret (same a b) := by
  unfold T_laws_eqEpAct
  simp only [bne_same, beq_same, seq_same, ret, Option.bind_some]
  exact eq_pair (eq_pair (eq_last))

theorem f_eqEpActS {N : Nat} {a b : List (Int × Int × Int)} (h : z_EpActS a ≤ 1048576) (hN : 1048576 < N) : T_laws_eqEpActS N a b = ret (same a b) := by
  have hl0 : a.length ≤ 1048576 := h
  unfold T_laws_eqEpActS
  by_cases hl : a.length = b.length
  · have e : (ilen a != ilen b) = false := by simp [ilen, hl]
    rw [e]
    simp only [cond_false]
    have h1 := loop_ix0 (l := a) (V := Unit) (R := Unit × (Bool × Unit)) (lp := fun n j v => T_laws_eqEpActS_lp0 N a b (some ((), (false, ()))) (fun i8 t9 => some ((), (true, ()))) n j) (n := N) (by omega)
      (body := fun j x v k => bif inb j b.length then (bif !same x (b.getD j.toNat ((0 : Int), ((0 : Int), (0 : Int)))) then some ((), (false, ())) else k v) else none) (K := fun _ v => some ((), (true, ())))
      (fun n i v hi => by simp only [T_laws_eqEpActS_lp0, ix_lt hi, ix_inb hi, ix_get hi, ix_succ (show i < 4611686018427387904 by omega), cond_true, f_eqEpAct hN, ret, Option.bind_some])
      (fun n v => by simp only [T_laws_eqEpActS_lp0, ix_ge (Nat.le_refl a.length), cond_false]) ()
    refine h1.trans ?_
    rw [foldK_same (E := fun _ => some ((), (false, ()))) (z := ((0 : Int), ((0 : Int), (0 : Int)))) a b 0 () (by omega) (fun j x v k _ => rfl)]
    simp only [List.drop_zero]
    cases same a b <;> rfl
  · have e : (ilen a != ilen b) = true := by simp [ilen]; omega
    have e2 : a ≠ b := fun h => hl (by rw [h])
    rw [e, same_ne e2]
    rfl

def m_EpActS : Int → (Int × Int × Int) → (Int × Int × Int) := fun k _ => (k, k + 1, k + 2)
theorem f_markEpActS {N : Nat} {a : List (Int × Int × Int)} {k : Int} (h : a.length ≤ 1048576) (hN : 1048576 < N) (hk : 0 ≤ k) (hk2 : k ≤ 1073741824) :
    T_laws_markEpActS N a k = some ((marks m_EpActS 3 k a, ()), (k + (3 * a.length : Nat), ())) := by
  unfold T_laws_markEpActS
  refine (mark_loop0 (g := m_EpActS) (c := 3) (lp := fun n k i v => T_laws_markEpActS_lp0 N _ n k i v) (K := fun k i v => some ((v, ()), (k, ()))) ?_ ?_ a (by omega) (by omega) hk (by omega))
  · intro n k j v h hj hk hk2
    simp only [T_laws_markEpActS_lp0, ix_lt h, ix_inb h, ix_succ hj, cond_true, iadd_eq (show I64 (k + 1) by unfold I64; omega), iadd_eq (show I64 (k + 1 + 1) by unfold I64; omega), iadd_eq (show I64 (k + 1 + 1 + 1) by unfold I64; omega), m_EpActS, show inz 3 = true from rfl, Int.toNat_natCast, List.length_set, getD_set_self h, List.set_set, share]
    rw [show k + 1 + 1 + 1 = k + (3 : Nat) by omega]
    all_goals (try congr 2)
    all_goals (try simp [h])
    all_goals (try omega)
  · intro n k v
    simp only [T_laws_markEpActS_lp0, ix_ge (Nat.le_refl v.length), cond_false]

def m_IntS : Int → Int → Int := fun k _ => k
theorem f_markIntS {N : Nat} {a : List Int} {k : Int} (h : a.length ≤ 1048576) (hN : 1048576 < N) (hk : 0 ≤ k) (hk2 : k ≤ 1073741824) :
    T_laws_markIntS N a k = some ((marks m_IntS 1 k a, ()), (k + (1 * a.length : Nat), ())) := by
  unfold T_laws_markIntS
  refine (mark_loop0 (g := m_IntS) (c := 1) (lp := fun n k i v => T_laws_markIntS_lp0 N _ n k i v) (K := fun k i v => some ((v, ()), (k, ()))) ?_ ?_ a (by omega) (by omega) hk (by omega))
  · intro n k j v h hj hk hk2
    simp only [T_laws_markIntS_lp0, ix_lt h, ix_inb h, ix_succ hj, cond_true, iadd_eq (show I64 (k + 1) by unfold I64; omega), m_IntS, show inz 3 = true from rfl, Int.toNat_natCast, List.length_set, getD_set_self h, List.set_set, share]
    rw [show k + 1 = k + (1 : Nat) by omega]
    all_goals (try congr 2)
    all_goals (try simp [h])
    all_goals (try omega)
  · intro n k v
    simp only [T_laws_markIntS_lp0, ix_ge (Nat.le_refl v.length), cond_false]

def m_BoolS : Int → Bool → Bool := fun k _ => (irem k 3 == 0)
theorem f_markBoolS {N : Nat} {a : List Bool} {k : Int} (h : a.length ≤ 1048576) (hN : 1048576 < N) (hk : 0 ≤ k) (hk2 : k ≤ 1073741824) :
    T_laws_markBoolS N a k = some ((marks m_BoolS 1 k a, ()), (k + (1 * a.length : Nat), ())) := by
  unfold T_laws_markBoolS
  refine (mark_loop0 (g := m_BoolS) (c := 1) (lp := fun n k i v => T_laws_markBoolS_lp0 N _ n k i v) (K := fun k i v => some ((v, ()), (k, ()))) ?_ ?_ a (by omega) (by omega) hk (by omega))
  · intro n k j v h hj hk hk2
    simp only [T_laws_markBoolS_lp0, ix_lt h, ix_inb h, ix_succ hj, cond_true, iadd_eq (show I64 (k + 1) by unfold I64; omega), m_BoolS, show inz 3 = true from rfl, Int.toNat_natCast, List.length_set, getD_set_self h, List.set_set, share]
    rw [show k + 1 = k + (1 : Nat) by omega]
    all_goals (try congr 2)
    all_goals (try simp [h])
    all_goals (try omega)
  · intro n k v
    simp only [T_laws_markBoolS_lp0, ix_ge (Nat.le_refl v.length), cond_false]

def m_EpBagS : Int → (Int × Int) → (Int × Int) := fun k _ => (k, k + 1)
theorem f_markEpBagS {N : Nat} {a : List (Int × Int)} {k : Int} (h : a.length ≤ 1048576) (hN : 1048576 < N) (hk : 0 ≤ k) (hk2 : k ≤ 1073741824) :
    T_laws_markEpBagS N a k = some ((marks m_EpBagS 2 k a, ()), (k + (2 * a.length : Nat), ())) := by
  unfold T_laws_markEpBagS
  refine (mark_loop0 (g := m_EpBagS) (c := 2) (lp := fun n k i v => T_laws_markEpBagS_lp0 N _ n k i v) (K := fun k i v => some ((v, ()), (k, ()))) ?_ ?_ a (by omega) (by omega) hk (by omega))
  · intro n k j v h hj hk hk2
    simp only [T_laws_markEpBagS_lp0, ix_lt h, ix_inb h, ix_succ hj, cond_true, iadd_eq (show I64 (k + 1) by unfold I64; omega), iadd_eq (show I64 (k + 1 + 1) by unfold I64; omega), m_EpBagS, show inz 3 = true from rfl, Int.toNat_natCast, List.length_set, getD_set_self h, List.set_set, share]
    rw [show k + 1 + 1 = k + (2 : Nat) by omega]
    all_goals (try congr 2)
    all_goals (try simp [h])
    all_goals (try omega)
  · intro n k v
    simp only [T_laws_markEpBagS_lp0, ix_ge (Nat.le_refl v.length), cond_false]

def m_EpHoldS : Int → (Int × Int) → (Int × Int) := fun k _ => (k, k + 1)
theorem f_markEpHoldS {N : Nat} {a : List (Int × Int)} {k : Int} (h : a.length ≤ 1048576) (hN : 1048576 < N) (hk : 0 ≤ k) (hk2 : k ≤ 1073741824) :
    T_laws_markEpHoldS N a k = some ((marks m_EpHoldS 2 k a, ()), (k + (2 * a.length : Nat), ())) := by
  unfold T_laws_markEpHoldS
  refine (mark_loop0 (g := m_EpHoldS) (c := 2) (lp := fun n k i v => T_laws_markEpHoldS_lp0 N _ n k i v) (K := fun k i v => some ((v, ()), (k, ()))) ?_ ?_ a (by omega) (by omega) hk (by omega))
  · intro n k j v h hj hk hk2
    simp only [T_laws_markEpHoldS_lp0, ix_lt h, ix_inb h, ix_succ hj, cond_true, iadd_eq (show I64 (k + 1) by unfold I64; omega), iadd_eq (show I64 (k + 1 + 1) by unfold I64; omega), m_EpHoldS, show inz 3 = true from rfl, Int.toNat_natCast, List.length_set, getD_set_self h, List.set_set, share]
    rw [show k + 1 + 1 = k + (2 : Nat) by omega]
    all_goals (try congr 2)
    all_goals (try simp [h])
    all_goals (try omega)
  · intro n k v
    simp only [T_laws_markEpHoldS_lp0, ix_ge (Nat.le_refl v.length), cond_false]

theorem f_heldIntS {N : Nat} {a : List Int} {k : Int} (h : a.length ≤ 1048576) (hN : 1048576 < N) (hk : 0 ≤ k) (hk2 : k ≤ 1073741824) :
    T_laws_heldIntS N (marks m_IntS 1 k a) k = ret (k + (1 * a.length : Nat)) := by
  unfold T_laws_heldIntS
  generalize ha : marks m_IntS 1 k a = b
  refine (held_loop0 (lp := fun n k i => T_laws_heldIntS_lp0 N b _ _ n k i) (K := fun k => ret k) a ha ?_ ?_ (by omega) (by omega) hk (by omega))
  · intro n k j x h hx hj hk hk2
    have hx2 : b[j] = k := hx.trans (by simp only [m_IntS, Int.add_assoc]; try rfl)
    simp only [T_laws_heldIntS_lp0, ix_lt h, ix_inb h, ix_get h, hx2, ix_succ hj, cond_true, iadd_eq (show I64 (k + 1) by unfold I64; omega), show inz 3 = true from rfl, beq_same, same_self, Bool.not_true, bne_self_eq_false, cond_false]
    rw [show k + 1 = k + (1 : Nat) by omega]
  · intro n k
    simp only [T_laws_heldIntS_lp0, ix_ge (Nat.le_refl _), cond_false]

theorem f_heldBoolS {N : Nat} {a : List Bool} {k : Int} (h : a.length ≤ 1048576) (hN : 1048576 < N) (hk : 0 ≤ k) (hk2 : k ≤ 1073741824) :
    T_laws_heldBoolS N (marks m_BoolS 1 k a) k = ret (k + (1 * a.length : Nat)) := by
  unfold T_laws_heldBoolS
  generalize ha : marks m_BoolS 1 k a = b
  refine (held_loop0 (lp := fun n k i => T_laws_heldBoolS_lp0 N b _ _ n k i) (K := fun k => ret k) a ha ?_ ?_ (by omega) (by omega) hk (by omega))
  · intro n k j x h hx hj hk hk2
    have hx2 : b[j] = (irem k 3 == 0) := hx.trans (by simp only [m_BoolS, Int.add_assoc]; try rfl)
    simp only [T_laws_heldBoolS_lp0, ix_lt h, ix_inb h, ix_get h, hx2, ix_succ hj, cond_true, iadd_eq (show I64 (k + 1) by unfold I64; omega), show inz 3 = true from rfl, beq_same, same_self, Bool.not_true, bne_self_eq_false, cond_false]
    rw [show k + 1 = k + (1 : Nat) by omega]
  · intro n k
    simp only [T_laws_heldBoolS_lp0, ix_ge (Nat.le_refl _), cond_false]

theorem f_heldEpBagS {N : Nat} {a : List (Int × Int)} {k : Int} (h : a.length ≤ 1048576) (hN : 1048576 < N) (hk : 0 ≤ k) (hk2 : k ≤ 1073741824) :
    T_laws_heldEpBagS N (marks m_EpBagS 2 k a) k = ret (k + (2 * a.length : Nat)) := by
  unfold T_laws_heldEpBagS
  generalize ha : marks m_EpBagS 2 k a = b
  refine (held_loop0 (lp := fun n k i => T_laws_heldEpBagS_lp0 N b _ _ n k i) (K := fun k => ret k) a ha ?_ ?_ (by omega) (by omega) hk (by omega))
  · intro n k j x h hx hj hk hk2
    have hx2 : b[j] = (k, k + 1) := hx.trans (by simp only [m_EpBagS, Int.add_assoc]; try rfl)
    simp only [T_laws_heldEpBagS_lp0, ix_lt h, ix_inb h, ix_get h, hx2, ix_succ hj, cond_true, iadd_eq (show I64 (k + 1) by unfold I64; omega), iadd_eq (show I64 (k + 1 + 1) by unfold I64; omega), show inz 3 = true from rfl, beq_same, same_self, Bool.not_true, bne_self_eq_false, cond_false]
    rw [show k + 1 + 1 = k + (2 : Nat) by omega]
  · intro n k
    simp only [T_laws_heldEpBagS_lp0, ix_ge (Nat.le_refl _), cond_false]

theorem f_heldEpHoldS {N : Nat} {a : List (Int × Int)} {k : Int} (h : a.length ≤ 1048576) (hN : 1048576 < N) (hk : 0 ≤ k) (hk2 : k ≤ 1073741824) :
    T_laws_heldEpHoldS N (marks m_EpHoldS 2 k a) k = ret (k + (2 * a.length : Nat)) := by
  unfold T_laws_heldEpHoldS
  generalize ha : marks m_EpHoldS 2 k a = b
  refine (held_loop0 (lp := fun n k i => T_laws_heldEpHoldS_lp0 N b _ _ n k i) (K := fun k => ret k) a ha ?_ ?_ (by omega) (by omega) hk (by omega))
  · intro n k j x h hx hj hk hk2
    have hx2 : b[j] = (k, k + 1) := hx.trans (by simp only [m_EpHoldS, Int.add_assoc]; try rfl)
    simp only [T_laws_heldEpHoldS_lp0, ix_lt h, ix_inb h, ix_get h, hx2, ix_succ hj, cond_true, iadd_eq (show I64 (k + 1) by unfold I64; omega), iadd_eq (show I64 (k + 1 + 1) by unfold I64; omega), show inz 3 = true from rfl, beq_same, same_self, Bool.not_true, bne_self_eq_false, cond_false]
    rw [show k + 1 + 1 = k + (2 : Nat) by omega]
  · intro n k
    simp only [T_laws_heldEpHoldS_lp0, ix_ge (Nat.le_refl _), cond_false]

end Go.Sx
