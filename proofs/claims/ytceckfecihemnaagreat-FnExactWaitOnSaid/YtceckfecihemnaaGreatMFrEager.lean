/- Plain laws of the Lean functions. -/
import Derived.Test.YtceckfecihemnaaGreatMS1Wait

namespace Go.Sx
set_option linter.unusedVariables false
set_option linter.unusedSimpArgs false
set_option synthInstance.maxSize 20000
set_option synthInstance.maxHeartbeats 4000000
theorem f_eqRow {N : Nat} {a b : Int × Int} (hN : 1048576 < N) : Zg6 N a b = ret (same a b) := by
  unfold Zg6
  simp only [bne_same, beq_same, seq_same, ret, Option.bind_some]
  exact eq_pair (eq_last)
def z_RowS (l : List (Int × Int)) : Nat := l.length
theorem f_eqRowS {N : Nat} {a b : List (Int × Int)} (h : z_RowS a ≤ 1048576) (hN : 1048576 < N) : Zbz N a b = ret (same a b) := by
  have hl0 : a.length ≤ 1048576 := h
  unfold Zbz
  by_cases hl : a.length = b.length
  · have e : (ilen a != ilen b) = false := by simp [ilen, hl]
    rw [e]
    simp only [cond_false]
    have h1 := loop_ix0 (l := a) (V := Unit) (R := Unit × (Bool × Unit)) (lp := fun n j v => Zbj N a b (some ((), (false, ()))) (fun i8 t9 => some ((), (true, ()))) n j) (n := N) (by omega)
      (body := fun j x v k => bif inb j b.length then (bif !same x (b.getD j.toNat ((0 : Int), (0 : Int))) then some ((), (false, ())) else k v) else none) (K := fun _ v => some ((), (true, ())))
      (fun n i v hi => by simp only [Zbj, ix_lt hi, ix_inb hi, ix_get hi, ix_succ (show i < 4611686018427387904 by omega), cond_true, f_eqRow hN, ret, Option.bind_some])
      (fun n v => by simp only [Zbj, ix_ge (Nat.le_refl a.length), cond_false]) ()
    refine h1.trans ?_
    rw [foldK_same (E := fun _ => some ((), (false, ()))) (z := ((0 : Int), (0 : Int))) a b 0 () (by omega) (fun j x v k _ => rfl)]
    simp only [List.drop_zero]
    cases same a b <;> rfl
  · have e : (ilen a != ilen b) = true := by simp [ilen]; omega
    have e2 : a ≠ b := fun h => hl (by rw [h])
    rw [e, same_ne e2]
    rfl
def z_Eager (a : Int × List Int × List Int × List (Int × Int) × Int) : Nat := z_IntS a.2.1 + z_IntS a.2.2.1 + z_RowS a.2.2.2.1
theorem f_eqEager {N : Nat} {a b : Int × List Int × List Int × List (Int × Int) × Int} (h : z_Eager a ≤ 1048576) (hN : 1048576 < N) : Zjy N a b = ret (same a b) := by
  unfold z_Eager at h
  unfold Zjy
  simp only [bne_same, beq_same, seq_same, f_eqIntS (a := a.2.1) (show z_IntS a.2.1 ≤ 1048576 by omega) hN, f_eqIntS (a := a.2.2.1) (show z_IntS a.2.2.1 ≤ 1048576 by omega) hN, f_eqRowS (a := a.2.2.2.1) (show z_RowS a.2.2.2.1 ≤ 1048576 by omega) hN, ret, Option.bind_some]
  exact eq_pair (eq_pair (eq_pair (eq_pair (eq_last))))
def m_OpS : Int → (Int × Int × Int × Int) → (Int × Int × Int × Int) := fun k _ => (k, k + 1, k + 2, k + 3)
theorem f_markOpS {N : Nat} {a : List (Int × Int × Int × Int)} {k : Int} (h : a.length ≤ 1048576) (hN : 1048576 < N) (hk : 0 ≤ k) (hk2 : k ≤ 1073741824) :
    Zjz N a k = some ((marks m_OpS 4 k a, ()), (k + (4 * a.length : Nat), ())) := by
  unfold Zjz
  refine (mark_loop0 (g := m_OpS) (c := 4) (lp := fun n k i v => Zdi N _ n k i v) (K := fun k i v => some ((v, ()), (k, ()))) ?_ ?_ a (by omega) (by omega) hk (by omega))
  · intro n k j v h hj hk hk2
    simp only [Zdi, ix_lt h, ix_inb h, ix_succ hj, cond_true, iadd_eq (show I64 (k + 1) by unfold I64; omega), iadd_eq (show I64 (k + 1 + 1) by unfold I64; omega), iadd_eq (show I64 (k + 1 + 1 + 1) by unfold I64; omega), iadd_eq (show I64 (k + 1 + 1 + 1 + 1) by unfold I64; omega), m_OpS, show inz 3 = true from rfl, Int.toNat_natCast, List.length_set, getD_set_self h, List.set_set, share]
    rw [show k + 1 + 1 + 1 + 1 = k + (4 : Nat) by omega]
    all_goals (try congr 2)
    all_goals (try simp [h])
    all_goals (try omega)
  · intro n k v
    simp only [Zdi, ix_ge (Nat.le_refl v.length), cond_false]
def m_IntS : Int → Int → Int := fun k _ => k
theorem f_markIntS {N : Nat} {a : List Int} {k : Int} (h : a.length ≤ 1048576) (hN : 1048576 < N) (hk : 0 ≤ k) (hk2 : k ≤ 1073741824) :
    Zi5 N a k = some ((marks m_IntS 1 k a, ()), (k + (1 * a.length : Nat), ())) := by
  unfold Zi5
  refine (mark_loop0 (g := m_IntS) (c := 1) (lp := fun n k i v => Zc6 N _ n k i v) (K := fun k i v => some ((v, ()), (k, ()))) ?_ ?_ a (by omega) (by omega) hk (by omega))
  · intro n k j v h hj hk hk2
    simp only [Zc6, ix_lt h, ix_inb h, ix_succ hj, cond_true, iadd_eq (show I64 (k + 1) by unfold I64; omega), m_IntS, show inz 3 = true from rfl, Int.toNat_natCast, List.length_set, getD_set_self h, List.set_set, share]
    rw [show k + 1 = k + (1 : Nat) by omega]
    all_goals (try congr 2)
    all_goals (try simp [h])
    all_goals (try omega)
  · intro n k v
    simp only [Zc6, ix_ge (Nat.le_refl v.length), cond_false]
def m_RowS : Int → (Int × Int) → (Int × Int) := fun k _ => (k, k + 1)
theorem f_markRowS {N : Nat} {a : List (Int × Int)} {k : Int} (h : a.length ≤ 1048576) (hN : 1048576 < N) (hk : 0 ≤ k) (hk2 : k ≤ 1073741824) :
    Zi6 N a k = some ((marks m_RowS 2 k a, ()), (k + (2 * a.length : Nat), ())) := by
  unfold Zi6
  refine (mark_loop0 (g := m_RowS) (c := 2) (lp := fun n k i v => Zc7 N _ n k i v) (K := fun k i v => some ((v, ()), (k, ()))) ?_ ?_ a (by omega) (by omega) hk (by omega))
  · intro n k j v h hj hk hk2
    simp only [Zc7, ix_lt h, ix_inb h, ix_succ hj, cond_true, iadd_eq (show I64 (k + 1) by unfold I64; omega), iadd_eq (show I64 (k + 1 + 1) by unfold I64; omega), m_RowS, show inz 3 = true from rfl, Int.toNat_natCast, List.length_set, getD_set_self h, List.set_set, share]
    rw [show k + 1 + 1 = k + (2 : Nat) by omega]
    all_goals (try congr 2)
    all_goals (try simp [h])
    all_goals (try omega)
  · intro n k v
    simp only [Zc7, ix_ge (Nat.le_refl v.length), cond_false]
theorem f_heldIntS {N : Nat} {a : List Int} {k : Int} (h : a.length ≤ 1048576) (hN : 1048576 < N) (hk : 0 ≤ k) (hk2 : k ≤ 1073741824) :
    Zi7 N (marks m_IntS 1 k a) k = ret (k + (1 * a.length : Nat)) := by
  unfold Zi7
  generalize ha : marks m_IntS 1 k a = b
  refine (held_loop0 (lp := fun n k i => Zc8 N b _ _ n k i) (K := fun k => ret k) a ha ?_ ?_ (by omega) (by omega) hk (by omega))
  · intro n k j x h hx hj hk hk2
    have hx2 : b[j] = k := hx.trans (by simp only [m_IntS, Int.add_assoc]; try rfl)
    simp only [Zc8, ix_lt h, ix_inb h, ix_get h, hx2, ix_succ hj, cond_true, iadd_eq (show I64 (k + 1) by unfold I64; omega), show inz 3 = true from rfl, beq_same, same_self, Bool.not_true, bne_self_eq_false, cond_false]
    rw [show k + 1 = k + (1 : Nat) by omega]
  · intro n k
    simp only [Zc8, ix_ge (Nat.le_refl _), cond_false]
theorem f_heldRowS {N : Nat} {a : List (Int × Int)} {k : Int} (h : a.length ≤ 1048576) (hN : 1048576 < N) (hk : 0 ≤ k) (hk2 : k ≤ 1073741824) :
    Zi8 N (marks m_RowS 2 k a) k = ret (k + (2 * a.length : Nat)) := by
  unfold Zi8
  generalize ha : marks m_RowS 2 k a = b
  refine (held_loop0 (lp := fun n k i => Zc9 N b _ _ n k i) (K := fun k => ret k) a ha ?_ ?_ (by omega) (by omega) hk (by omega))
  · intro n k j x h hx hj hk hk2
    have hx2 : b[j] = (k, k + 1) := hx.trans (by simp only [m_RowS, Int.add_assoc]; try rfl)
    simp only [Zc9, ix_lt h, ix_inb h, ix_get h, hx2, ix_succ hj, cond_true, iadd_eq (show I64 (k + 1) by unfold I64; omega), iadd_eq (show I64 (k + 1 + 1) by unfold I64; omega), show inz 3 = true from rfl, beq_same, same_self, Bool.not_true, bne_self_eq_false, cond_false]
    rw [show k + 1 + 1 = k + (2 : Nat) by omega]
  · intro n k
    simp only [Zc9, ix_ge (Nat.le_refl _), cond_false]
end Go.Sx
