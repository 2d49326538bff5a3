/- Plain laws of the Lean functions. -/
import Derived.Test.YtbmealjpegdhiaaMS1Play
/- Plain laws of the helpers that copy, measure, compare and mark. -/
namespace Go.Sx
set_option linter.unusedVariables false
set_option linter.unusedSimpArgs false
set_option synthInstance.maxSize 20000
set_option synthInstance.maxHeartbeats 4000000

def z_IntS (l : List Int) : Nat := l.length
theorem f_toIntS {N : Nat} {a : List Int} (h : z_IntS a ≤ 1048576) (hN : 1048576 < N) : T_laws_toIntS N a = ret a := by
  have hl : a.length ≤ 1048576 := h
  unfold T_laws_toIntS
  rw [make_ok a (by omega), toNat_ilen]
  simp only [cond_true]
  have h1 := loop_ix0 (l := a) (V := List Int) (R := Unit × (List Int × Unit)) (lp := fun n j v => T_laws_toIntS_lp0 N a (fun i8 t9 l10 => some ((), (l10, ()))) n j v) (n := N) (by omega)
    (body := fun j x v k => bif inb j v.length then k (v.set j.toNat x) else none) (K := fun _ v => some ((), (v, ())))
    (fun n i v hi => by simp only [T_laws_toIntS_lp0, ix_lt hi, ix_inb hi, ix_get hi, ix_succ (show i < 4611686018427387904 by omega), cond_true, ret, Option.bind_some])
    (fun n v => by simp only [T_laws_toIntS_lp0, ix_ge (Nat.le_refl a.length), cond_false]) (List.replicate a.length (0 : Int))
  refine h1.trans ?_
  rw [foldK_copy (f := id) a (fun j x v k _ => rfl)]
  simp

theorem f_eqIntS {N : Nat} {a b : List Int} (h : z_IntS a ≤ 1048576) (hN : 1048576 < N) : T_laws_eqIntS N a b = ret (same a b) := by
  have hl0 : a.length ≤ 1048576 := h
  unfold T_laws_eqIntS
  by_cases hl : a.length = b.length
  · have e : (ilen a != ilen b) = false := by simp [ilen, hl]
    rw [e]
    simp only [cond_false]
    have h1 := loop_ix0 (l := a) (V := Unit) (R := Unit × (Bool × Unit)) (lp := fun n j v => T_laws_eqIntS_lp0 N a b (some ((), (false, ()))) (fun i8 t9 => some ((), (true, ()))) n j) (n := N) (by omega)
      (body := fun j x v k => bif inb j b.length then (bif !same x (b.getD j.toNat (0 : Int)) then some ((), (false, ())) else k v) else none) (K := fun _ v => some ((), (true, ())))
      (fun n i v hi => by simp only [T_laws_eqIntS_lp0, ix_lt hi, ix_inb hi, ix_get hi, ix_succ (show i < 4611686018427387904 by omega), cond_true, bne_same, beq_same, seq_same, ret, Option.bind_some])
      (fun n v => by simp only [T_laws_eqIntS_lp0, ix_ge (Nat.le_refl a.length), cond_false]) ()
    refine h1.trans ?_
    rw [foldK_same (E := fun _ => some ((), (false, ()))) (z := (0 : Int)) a b 0 () (by omega) (fun j x v k _ => rfl)]
    simp only [List.drop_zero]
    cases same a b <;> rfl
  · have e : (ilen a != ilen b) = true := by simp [ilen]; omega
    have e2 : a ≠ b := fun h => hl (by rw [h])
    rw [e, same_ne e2]
    rfl

def m_TripleS : Int → (Int × Int × Int) → (Int × Int × Int) := fun k _ => (k, k + 1, k + 2)
theorem f_markTripleS {N : Nat} {a : List (Int × Int × Int)} {k : Int} (h : a.length ≤ 1048576) (hN : 1048576 < N) (hk : 0 ≤ k) (hk2 : k ≤ 1073741824) :
    T_laws_markTripleS N a k = some ((marks m_TripleS 3 k a, ()), (k + (3 * a.length : Nat), ())) := by
  unfold T_laws_markTripleS
  refine (mark_loop0 (g := m_TripleS) (c := 3) (lp := fun n k i v => T_laws_markTripleS_lp0 N _ n k i v) (K := fun k i v => some ((v, ()), (k, ()))) ?_ ?_ a (by omega) (by omega) hk (by omega))
  · intro n k j v h hj hk hk2
    simp only [T_laws_markTripleS_lp0, ix_lt h, ix_inb h, ix_succ hj, cond_true, iadd_eq (show I64 (k + 1) by unfold I64; omega), iadd_eq (show I64 (k + 1 + 1) by unfold I64; omega), iadd_eq (show I64 (k + 1 + 1 + 1) by unfold I64; omega), m_TripleS, Int.toNat_natCast, List.length_set, getD_set_self h, List.set_set, share]
    rw [show k + 1 + 1 + 1 = k + (3 : Nat) by omega]
    all_goals (try congr 2)
    all_goals (try simp [h])
    all_goals (try omega)
  · intro n k v
    simp only [T_laws_markTripleS_lp0, ix_ge (Nat.le_refl v.length), cond_false]

def m_IntS : Int → Int → Int := fun k _ => k
theorem f_markIntS {N : Nat} {a : List Int} {k : Int} (h : a.length ≤ 1048576) (hN : 1048576 < N) (hk : 0 ≤ k) (hk2 : k ≤ 1073741824) :
    T_laws_markIntS N a k = some ((marks m_IntS 1 k a, ()), (k + (1 * a.length : Nat), ())) := by
  unfold T_laws_markIntS
  refine (mark_loop0 (g := m_IntS) (c := 1) (lp := fun n k i v => T_laws_markIntS_lp0 N _ n k i v) (K := fun k i v => some ((v, ()), (k, ()))) ?_ ?_ a (by omega) (by omega) hk (by omega))
  · intro n k j v h hj hk hk2
    simp only [T_laws_markIntS_lp0, ix_lt h, ix_inb h, ix_succ hj, cond_true, iadd_eq (show I64 (k + 1) by unfold I64; omega), m_IntS, Int.toNat_natCast, List.length_set, getD_set_self h, List.set_set, share]
    rw [show k + 1 = k + (1 : Nat) by omega]
    all_goals (try congr 2)
    all_goals (try simp [h])
    all_goals (try omega)
  · intro n k v
    simp only [T_laws_markIntS_lp0, ix_ge (Nat.le_refl v.length), cond_false]

def m_SeqReaderS : Int → (Int × Int × (Int × Int × Int) × Int) → (Int × Int × (Int × Int × Int) × Int) := fun k _ => (k, k + 1, (k + 2, k + 3, k + 4), k + 5)
theorem f_markSeqReaderS {N : Nat} {a : List (Int × Int × (Int × Int × Int) × Int)} {k : Int} (h : a.length ≤ 1048576) (hN : 1048576 < N) (hk : 0 ≤ k) (hk2 : k ≤ 1073741824) :
    T_laws_markSeqReaderS N a k = some ((marks m_SeqReaderS 6 k a, ()), (k + (6 * a.length : Nat), ())) := by
  unfold T_laws_markSeqReaderS
  refine (mark_loop0 (g := m_SeqReaderS) (c := 6) (lp := fun n k i v => T_laws_markSeqReaderS_lp0 N _ n k i v) (K := fun k i v => some ((v, ()), (k, ()))) ?_ ?_ a (by omega) (by omega) hk (by omega))
  · intro n k j v h hj hk hk2
    simp only [T_laws_markSeqReaderS_lp0, ix_lt h, ix_inb h, ix_succ hj, cond_true, iadd_eq (show I64 (k + 1) by unfold I64; omega), iadd_eq (show I64 (k + 1 + 1) by unfold I64; omega), iadd_eq (show I64 (k + 1 + 1 + 1) by unfold I64; omega), iadd_eq (show I64 (k + 1 + 1 + 1 + 1) by unfold I64; omega), iadd_eq (show I64 (k + 1 + 1 + 1 + 1 + 1) by unfold I64; omega), iadd_eq (show I64 (k + 1 + 1 + 1 + 1 + 1 + 1) by unfold I64; omega), m_SeqReaderS, Int.toNat_natCast, List.length_set, getD_set_self h, List.set_set, share]
    rw [show k + 1 + 1 + 1 + 1 + 1 + 1 = k + (6 : Nat) by omega]
    all_goals (try congr 2)
    all_goals (try simp [h])
    all_goals (try omega)
  · intro n k v
    simp only [T_laws_markSeqReaderS_lp0, ix_ge (Nat.le_refl v.length), cond_false]

def m_SeqReadS : Int → (Int × Int × Int × Int × Int) → (Int × Int × Int × Int × Int) := fun k _ => (k, k + 1, (k + 2, k + 3, k + 4))
theorem f_markSeqReadS {N : Nat} {a : List (Int × Int × Int × Int × Int)} {k : Int} (h : a.length ≤ 1048576) (hN : 1048576 < N) (hk : 0 ≤ k) (hk2 : k ≤ 1073741824) :
    T_laws_markSeqReadS N a k = some ((marks m_SeqReadS 5 k a, ()), (k + (5 * a.length : Nat), ())) := by
  unfold T_laws_markSeqReadS
  refine (mark_loop0 (g := m_SeqReadS) (c := 5) (lp := fun n k i v => T_laws_markSeqReadS_lp0 N _ n k i v) (K := fun k i v => some ((v, ()), (k, ()))) ?_ ?_ a (by omega) (by omega) hk (by omega))
  · intro n k j v h hj hk hk2
    simp only [T_laws_markSeqReadS_lp0, ix_lt h, ix_inb h, ix_succ hj, cond_true, iadd_eq (show I64 (k + 1) by unfold I64; omega), iadd_eq (show I64 (k + 1 + 1) by unfold I64; omega), iadd_eq (show I64 (k + 1 + 1 + 1) by unfold I64; omega), iadd_eq (show I64 (k + 1 + 1 + 1 + 1) by unfold I64; omega), iadd_eq (show I64 (k + 1 + 1 + 1 + 1 + 1) by unfold I64; omega), m_SeqReadS, Int.toNat_natCast, List.length_set, getD_set_self h, List.set_set, share]
    rw [show k + 1 + 1 + 1 + 1 + 1 = k + (5 : Nat) by omega]
    all_goals (try congr 2)
    all_goals (try simp [h])
    all_goals (try omega)
  · intro n k v
    simp only [T_laws_markSeqReadS_lp0, ix_ge (Nat.le_refl v.length), cond_false]

theorem f_heldSeqReaderS {N : Nat} {a : List (Int × Int × (Int × Int × Int) × Int)} {k : Int} (h : a.length ≤ 1048576) (hN : 1048576 < N) (hk : 0 ≤ k) (hk2 : k ≤ 1073741824) :
    T_laws_heldSeqReaderS N (marks m_SeqReaderS 6 k a) k = ret (k + (6 * a.length : Nat)) := by
  unfold T_laws_heldSeqReaderS
  generalize ha : marks m_SeqReaderS 6 k a = b
  refine (held_loop0 (lp := fun n k i => T_laws_heldSeqReaderS_lp0 N b _ _ n k i) (K := fun k => ret k) a ha ?_ ?_ (by omega) (by omega) hk (by omega))
  · intro n k j x h hx hj hk hk2
    have hx2 : b[j] = (k, k + 1, (k + 1 + 1, k + 1 + 1 + 1, k + 1 + 1 + 1 + 1), k + 1 + 1 + 1 + 1 + 1) := hx.trans (by simp only [m_SeqReaderS, Int.add_assoc]; rfl)
    simp only [T_laws_heldSeqReaderS_lp0, ix_lt h, ix_inb h, ix_get h, hx2, ix_succ hj, cond_true, iadd_eq (show I64 (k + 1) by unfold I64; omega), iadd_eq (show I64 (k + 1 + 1) by unfold I64; omega), iadd_eq (show I64 (k + 1 + 1 + 1) by unfold I64; omega), iadd_eq (show I64 (k + 1 + 1 + 1 + 1) by unfold I64; omega), iadd_eq (show I64 (k + 1 + 1 + 1 + 1 + 1) by unfold I64; omega), iadd_eq (show I64 (k + 1 + 1 + 1 + 1 + 1 + 1) by unfold I64; omega), bne_self_eq_false, cond_false]
    rw [show k + 1 + 1 + 1 + 1 + 1 + 1 = k + (6 : Nat) by omega]
  · intro n k
    simp only [T_laws_heldSeqReaderS_lp0, ix_ge (Nat.le_refl _), cond_false]

theorem f_heldSeqReadS {N : Nat} {a : List (Int × Int × Int × Int × Int)} {k : Int} (h : a.length ≤ 1048576) (hN : 1048576 < N) (hk : 0 ≤ k) (hk2 : k ≤ 1073741824) :
    T_laws_heldSeqReadS N (marks m_SeqReadS 5 k a) k = ret (k + (5 * a.length : Nat)) := by
  unfold T_laws_heldSeqReadS
  generalize ha : marks m_SeqReadS 5 k a = b
  refine (held_loop0 (lp := fun n k i => T_laws_heldSeqReadS_lp0 N b _ _ n k i) (K := fun k => ret k) a ha ?_ ?_ (by omega) (by omega) hk (by omega))
  · intro n k j x h hx hj hk hk2
    have hx2 : b[j] = (k, k + 1, (k + 1 + 1, k + 1 + 1 + 1, k + 1 + 1 + 1 + 1)) := hx.trans (by simp only [m_SeqReadS, Int.add_assoc]; rfl)
    simp only [T_laws_heldSeqReadS_lp0, ix_lt h, ix_inb h, ix_get h, hx2, ix_succ hj, cond_true, iadd_eq (show I64 (k + 1) by unfold I64; omega), iadd_eq (show I64 (k + 1 + 1) by unfold I64; omega), iadd_eq (show I64 (k + 1 + 1 + 1) by unfold I64; omega), iadd_eq (show I64 (k + 1 + 1 + 1 + 1) by unfold I64; omega), iadd_eq (show I64 (k + 1 + 1 + 1 + 1 + 1) by unfold I64; omega), bne_self_eq_false, cond_false]
    rw [show k + 1 + 1 + 1 + 1 + 1 = k + (5 : Nat) by omega]
  · intro n k
    simp only [T_laws_heldSeqReadS_lp0, ix_ge (Nat.le_refl _), cond_false]

end Go.Sx
