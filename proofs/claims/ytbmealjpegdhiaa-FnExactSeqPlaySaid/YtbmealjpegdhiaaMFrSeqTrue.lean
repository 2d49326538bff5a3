/- Plain laws of the Lean functions. -/
import Derived.Test.YtbmealjpegdhiaaMS1Seq
/- Plain laws of the helpers that copy, measure, compare and mark. -/
namespace Go.Sx
set_option linter.unusedVariables false
set_option linter.unusedSimpArgs false
set_option synthInstance.maxSize 20000
set_option synthInstance.maxHeartbeats 4000000

def z_TripleS (l : List (Int × Int × Int)) : Nat := l.length
theorem f_szTripleS {N : Nat} {a : List (Int × Int × Int)} {left : Int} (hN : 1048576 < N) (h0 : 0 ≤ left) (h1 : left ≤ 1048576) (hw : Wfd (.slice (.prod (.int .i64) (.prod (.int .i64) (.int .i64)))) a) :
    T_laws_szTripleS N a left = ret (if left < (z_TripleS a : Int) then -1 else left - (z_TripleS a : Int)) := by
  have hl : a.length ≤ 9223372036854775807 := Nat.le_trans hw.1 (by decide)
  unfold T_laws_szTripleS z_TripleS
  have e : isub .i64 left (ilen a) = left - (a.length : Int) := isub_eq (by unfold I64 ilen; omega)
  rw [e]
  by_cases h : left < (a.length : Int)
  · rw [if_pos h, show decide (left - (a.length : Int) < 0) = true by simp; omega]; rfl
  · rw [if_neg h, show decide (left - (a.length : Int) < 0) = false by simp; omega]; rfl

def z_SeqReaderS (l : List (Int × Int × (Int × Int × Int) × Int)) : Nat := l.length
theorem f_szSeqReaderS {N : Nat} {a : List (Int × Int × (Int × Int × Int) × Int)} {left : Int} (hN : 1048576 < N) (h0 : 0 ≤ left) (h1 : left ≤ 1048576) (hw : Wfd (.slice (.prod (.int .i64) (.prod (.int .i64) (.prod (.prod (.int .i64) (.prod (.int .i64) (.int .i64))) (.int .i64))))) a) :
    T_laws_szSeqReaderS N a left = ret (if left < (z_SeqReaderS a : Int) then -1 else left - (z_SeqReaderS a : Int)) := by
  have hl : a.length ≤ 9223372036854775807 := Nat.le_trans hw.1 (by decide)
  unfold T_laws_szSeqReaderS z_SeqReaderS
  have e : isub .i64 left (ilen a) = left - (a.length : Int) := isub_eq (by unfold I64 ilen; omega)
  rw [e]
  by_cases h : left < (a.length : Int)
  · rw [if_pos h, show decide (left - (a.length : Int) < 0) = true by simp; omega]; rfl
  · rw [if_neg h, show decide (left - (a.length : Int) < 0) = false by simp; omega]; rfl

def z_SeqReadS (l : List (Int × Int × Int × Int × Int)) : Nat := l.length
theorem f_szSeqReadS {N : Nat} {a : List (Int × Int × Int × Int × Int)} {left : Int} (hN : 1048576 < N) (h0 : 0 ≤ left) (h1 : left ≤ 1048576) (hw : Wfd (.slice (.prod (.int .i64) (.prod (.int .i64) (.prod (.int .i64) (.prod (.int .i64) (.int .i64)))))) a) :
    T_laws_szSeqReadS N a left = ret (if left < (z_SeqReadS a : Int) then -1 else left - (z_SeqReadS a : Int)) := by
  have hl : a.length ≤ 9223372036854775807 := Nat.le_trans hw.1 (by decide)
  unfold T_laws_szSeqReadS z_SeqReadS
  have e : isub .i64 left (ilen a) = left - (a.length : Int) := isub_eq (by unfold I64 ilen; omega)
  rw [e]
  by_cases h : left < (a.length : Int)
  · rw [if_pos h, show decide (left - (a.length : Int) < 0) = true by simp; omega]; rfl
  · rw [if_neg h, show decide (left - (a.length : Int) < 0) = false by simp; omega]; rfl

def z_SeqWorld (a : Int × (Int × Int × Int) × Int × Int × List (Int × Int × (Int × Int × Int) × Int) × List (Int × Int × Int × Int × Int)) : Nat := z_SeqReaderS a.2.2.2.2.1 + z_SeqReadS a.2.2.2.2.2
theorem f_szSeqWorld {N : Nat} {a : Int × (Int × Int × Int) × Int × Int × List (Int × Int × (Int × Int × Int) × Int) × List (Int × Int × Int × Int × Int)} {left : Int} (hN : 1048576 < N) (h0 : 0 ≤ left) (h1 : left ≤ 1048576) (hw : Wfd (.prod (.int .i64) (.prod (.prod (.int .i64) (.prod (.int .i64) (.int .i64))) (.prod (.int .i64) (.prod (.int .i64) (.prod (.slice (.prod (.int .i64) (.prod (.int .i64) (.prod (.prod (.int .i64) (.prod (.int .i64) (.int .i64))) (.int .i64))))) (.slice (.prod (.int .i64) (.prod (.int .i64) (.prod (.int .i64) (.prod (.int .i64) (.int .i64))))))))))) a) :
    T_laws_szSeqWorld N a left = ret (if left < (z_SeqWorld a : Int) then -1 else left - (z_SeqWorld a : Int)) := by
  unfold T_laws_szSeqWorld
  unfold z_SeqWorld
  rw [show (z_SeqReaderS a.2.2.2.2.1 + z_SeqReadS a.2.2.2.2.2) = z_SeqReaderS a.2.2.2.2.1 + (z_SeqReadS a.2.2.2.2.2 + (0)) by omega]
  rw [f_szSeqReaderS hN (by omega) (by omega) hw.2.2.2.2.1]
  refine sz_bind (z2 := z_SeqReadS a.2.2.2.2.2 + (0)) (by omega) fun h2 => ?_
  simp only []
  rw [f_szSeqReadS hN (by omega) (by omega) hw.2.2.2.2.2]
  refine sz_bind (z2 := 0) (by omega) fun h3 => ?_
  simp only []
  exact sz_done (by omega)

theorem f_toTriple {N : Nat} {a : Int × Int × Int} (hN : 1048576 < N) : T_laws_toTriple N a = ret a := by
  unfold T_laws_toTriple
  all_goals rfl

theorem f_toTripleS {N : Nat} {a : List (Int × Int × Int)} (h : z_TripleS a ≤ 1048576) (hN : 1048576 < N) : T_laws_toTripleS N a = ret a := by
  have hl : a.length ≤ 1048576 := h
  unfold T_laws_toTripleS
  rw [make_ok a (by omega), toNat_ilen]
  simp only [cond_true]
  have h1 := loop_ix0 (l := a) (V := List (Int × Int × Int)) (R := Unit × (List (Int × Int × Int) × Unit)) (lp := fun n j v => T_laws_toTripleS_lp0 N a (fun i8 t9 l10 => some ((), (l10, ()))) n j v) (n := N) (by omega)
    (body := fun j x v k => bif inb j v.length then k (v.set j.toNat x) else none) (K := fun _ v => some ((), (v, ())))
    (fun n i v hi => by simp only [T_laws_toTripleS_lp0, ix_lt hi, ix_inb hi, ix_get hi, ix_succ (show i < 4611686018427387904 by omega), cond_true, f_toTriple hN, ret, Option.bind_some])
    (fun n v => by simp only [T_laws_toTripleS_lp0, ix_ge (Nat.le_refl a.length), cond_false]) (List.replicate a.length ((0 : Int), ((0 : Int), (0 : Int))))
  refine h1.trans ?_
  rw [foldK_copy (f := id) a (fun j x v k _ => rfl)]
  simp

theorem f_toSeqReader {N : Nat} {a : Int × Int × (Int × Int × Int) × Int} (hN : 1048576 < N) : T_laws_toSeqReader N a = ret a := by
  unfold T_laws_toSeqReader
  simp only [f_toTriple (a := a.2.2.1) hN, ret, Option.bind_some]
  all_goals rfl

theorem f_toSeqReaderS {N : Nat} {a : List (Int × Int × (Int × Int × Int) × Int)} (h : z_SeqReaderS a ≤ 1048576) (hN : 1048576 < N) : T_laws_toSeqReaderS N a = ret a := by
  have hl : a.length ≤ 1048576 := h
  unfold T_laws_toSeqReaderS
  rw [make_ok a (by omega), toNat_ilen]
  simp only [cond_true]
  have h1 := loop_ix0 (l := a) (V := List (Int × Int × (Int × Int × Int) × Int)) (R := Unit × (List (Int × Int × (Int × Int × Int) × Int) × Unit)) (lp := fun n j v => T_laws_toSeqReaderS_lp0 N a (fun i8 t9 l10 => some ((), (l10, ()))) n j v) (n := N) (by omega)
    (body := fun j x v k => bif inb j v.length then k (v.set j.toNat x) else none) (K := fun _ v => some ((), (v, ())))
    (fun n i v hi => by simp only [T_laws_toSeqReaderS_lp0, ix_lt hi, ix_inb hi, ix_get hi, ix_succ (show i < 4611686018427387904 by omega), cond_true, f_toSeqReader hN, ret, Option.bind_some])
    (fun n v => by simp only [T_laws_toSeqReaderS_lp0, ix_ge (Nat.le_refl a.length), cond_false]) (List.replicate a.length ((0 : Int), ((0 : Int), (((0 : Int), ((0 : Int), (0 : Int))), (0 : Int)))))
  refine h1.trans ?_
  rw [foldK_copy (f := id) a (fun j x v k _ => rfl)]
  simp

theorem f_toSeqRead {N : Nat} {a : Int × Int × Int × Int × Int} (hN : 1048576 < N) : T_laws_toSeqRead N a = ret a := by
  unfold T_laws_toSeqRead
  simp only [f_toTriple (a := a.2.2) hN, ret, Option.bind_some]
  all_goals rfl

theorem f_toSeqReadS {N : Nat} {a : List (Int × Int × Int × Int × Int)} (h : z_SeqReadS a ≤ 1048576) (hN : 1048576 < N) : T_laws_toSeqReadS N a = ret a := by
  have hl : a.length ≤ 1048576 := h
  unfold T_laws_toSeqReadS
  rw [make_ok a (by omega), toNat_ilen]
  simp only [cond_true]
  have h1 := loop_ix0 (l := a) (V := List (Int × Int × Int × Int × Int)) (R := Unit × (List (Int × Int × Int × Int × Int) × Unit)) (lp := fun n j v => T_laws_toSeqReadS_lp0 N a (fun i8 t9 l10 => some ((), (l10, ()))) n j v) (n := N) (by omega)
    (body := fun j x v k => bif inb j v.length then k (v.set j.toNat x) else none) (K := fun _ v => some ((), (v, ())))
    (fun n i v hi => by simp only [T_laws_toSeqReadS_lp0, ix_lt hi, ix_inb hi, ix_get hi, ix_succ (show i < 4611686018427387904 by omega), cond_true, f_toSeqRead hN, ret, Option.bind_some])
    (fun n v => by simp only [T_laws_toSeqReadS_lp0, ix_ge (Nat.le_refl a.length), cond_false]) (List.replicate a.length ((0 : Int), ((0 : Int), ((0 : Int), ((0 : Int), (0 : Int))))))
  refine h1.trans ?_
  rw [foldK_copy (f := id) a (fun j x v k _ => rfl)]
  simp

theorem f_toSeqWorld {N : Nat} {a : Int × (Int × Int × Int) × Int × Int × List (Int × Int × (Int × Int × Int) × Int) × List (Int × Int × Int × Int × Int)} (h : z_SeqWorld a ≤ 1048576) (hN : 1048576 < N) : T_laws_toSeqWorld N a = ret a := by
  unfold z_SeqWorld at h
  unfold T_laws_toSeqWorld
  simp only [f_toTriple (a := a.2.1) hN, f_toSeqReaderS (a := a.2.2.2.2.1) (show z_SeqReaderS a.2.2.2.2.1 ≤ 1048576 by omega) hN, f_toSeqReadS (a := a.2.2.2.2.2) (show z_SeqReadS a.2.2.2.2.2 ≤ 1048576 by omega) hN, ret, Option.bind_some]
  all_goals rfl

theorem f_eqTriple {N : Nat} {a b : Int × Int × Int} (hN : 1048576 < N) : T_laws_eqTriple N a b = ret (same a b) := by
  unfold T_laws_eqTriple
  simp only [bne_same, beq_same, seq_same, ret, Option.bind_some]
  exact eq_pair (eq_pair (eq_last))

theorem f_eqTripleS {N : Nat} {a b : List (Int × Int × Int)} (h : z_TripleS a ≤ 1048576) (hN : 1048576 < N) : T_laws_eqTripleS N a b = ret (same a b) := by
  have hl0 : a.length ≤ 1048576 := h
  unfold T_laws_eqTripleS
  by_cases hl : a.length = b.length
  · have e : (ilen a != ilen b) = false := by simp [ilen, hl]
    rw [e]
    simp only [cond_false]
    have h1 := loop_ix0 (l := a) (V := Unit) (R := Unit × (Bool × Unit)) (lp := fun n j v => T_laws_eqTripleS_lp0 N a b (some ((), (false, ()))) (fun i8 t9 => some ((), (true, ()))) n j) (n := N) (by omega)
      (body := fun j x v k => bif inb j b.length then (bif !same x (b.getD j.toNat ((0 : Int), ((0 : Int), (0 : Int)))) then some ((), (false, ())) else k v) else none) (K := fun _ v => some ((), (true, ())))
      (fun n i v hi => by simp only [T_laws_eqTripleS_lp0, ix_lt hi, ix_inb hi, ix_get hi, ix_succ (show i < 4611686018427387904 by omega), cond_true, f_eqTriple hN, ret, Option.bind_some])
      (fun n v => by simp only [T_laws_eqTripleS_lp0, ix_ge (Nat.le_refl a.length), cond_false]) ()
    refine h1.trans ?_
    rw [foldK_same (E := fun _ => some ((), (false, ()))) (z := ((0 : Int), ((0 : Int), (0 : Int)))) a b 0 () (by omega) (fun j x v k _ => rfl)]
    simp only [List.drop_zero]
    cases same a b <;> rfl
  · have e : (ilen a != ilen b) = true := by simp [ilen]; omega
    have e2 : a ≠ b := fun h => hl (by rw [h])
    rw [e, same_ne e2]
    rfl

theorem f_eqSeqReader {N : Nat} {a b : Int × Int × (Int × Int × Int) × Int} (hN : 1048576 < N) : T_laws_eqSeqReader N a b = ret (same a b) := by
  unfold T_laws_eqSeqReader
  simp only [bne_same, beq_same, seq_same, f_eqTriple (a := a.2.2.1) hN, ret, Option.bind_some]
  exact eq_pair (eq_pair (eq_pair (eq_last)))

theorem f_eqSeqReaderS {N : Nat} {a b : List (Int × Int × (Int × Int × Int) × Int)} (h : z_SeqReaderS a ≤ 1048576) (hN : 1048576 < N) : T_laws_eqSeqReaderS N a b = ret (same a b) := by
  have hl0 : a.length ≤ 1048576 := h
  unfold T_laws_eqSeqReaderS
  by_cases hl : a.length = b.length
  · have e : (ilen a != ilen b) = false := by simp [ilen, hl]
    rw [e]
    simp only [cond_false]
    have h1 := loop_ix0 (l := a) (V := Unit) (R := Unit × (Bool × Unit)) (lp := fun n j v => T_laws_eqSeqReaderS_lp0 N a b (some ((), (false, ()))) (fun i8 t9 => some ((), (true, ()))) n j) (n := N) (by omega)
      (body := fun j x v k => bif inb j b.length then (bif !same x (b.getD j.toNat ((0 : Int), ((0 : Int), (((0 : Int), ((0 : Int), (0 : Int))), (0 : Int))))) then some ((), (false, ())) else k v) else none) (K := fun _ v => some ((), (true, ())))
      (fun n i v hi => by simp only [T_laws_eqSeqReaderS_lp0, ix_lt hi, ix_inb hi, ix_get hi, ix_succ (show i < 4611686018427387904 by omega), cond_true, f_eqSeqReader hN, ret, Option.bind_some])
      (fun n v => by simp only [T_laws_eqSeqReaderS_lp0, ix_ge (Nat.le_refl a.length), cond_false]) ()
    refine h1.trans ?_
    rw [foldK_same (E := fun _ => some ((), (false, ()))) (z := ((0 : Int), ((0 : Int), (((0 : Int), ((0 : Int), (0 : Int))), (0 : Int))))) a b 0 () (by omega) (fun j x v k _ => rfl)]
    simp only [List.drop_zero]
    cases same a b <;> rfl
  · have e : (ilen a != ilen b) = true := by simp [ilen]; omega
    have e2 : a ≠ b := fun h => hl (by rw [h])
    rw [e, same_ne e2]
    rfl

theorem f_eqSeqRead {N : Nat} {a b : Int × Int × Int × Int × Int} (hN : 1048576 < N) : T_laws_eqSeqRead N a b = ret (same a b) := by
  unfold T_laws_eqSeqRead
  simp only [bne_same, beq_same, seq_same, f_eqTriple (a := a.2.2) hN, ret, Option.bind_some]
  exact eq_pair (eq_pair (eq_last))

theorem f_eqSeqReadS {N : Nat} {a b : List (Int × Int × Int × Int × Int)} (h : z_SeqReadS a ≤ 1048576) (hN : 1048576 < N) : T_laws_eqSeqReadS N a b = ret (same a b) := by
  have hl0 : a.length ≤ 1048576 := h
  unfold T_laws_eqSeqReadS
  by_cases hl : a.length = b.length
  · have e : (ilen a != ilen b) = false := by simp [ilen, hl]
    rw [e]
    simp only [cond_false]
    have h1 := loop_ix0 (l := a) (V := Unit) (R := Unit × (Bool × Unit)) (lp := fun n j v => T_laws_eqSeqReadS_lp0 N a b (some ((), (false, ()))) (fun i8 t9 => some ((), (true, ()))) n j) (n := N) (by omega)
      (body := fun j x v k => bif inb j b.length then (bif !same x (b.getD j.toNat ((0 : Int), ((0 : Int), ((0 : Int), ((0 : Int), (0 : Int)))))) then some ((), (false, ())) else k v) else none) (K := fun _ v => some ((), (true, ())))
      (fun n i v hi => by simp only [T_laws_eqSeqReadS_lp0, ix_lt hi, ix_inb hi, ix_get hi, ix_succ (show i < 4611686018427387904 by omega), cond_true, f_eqSeqRead hN, ret, Option.bind_some])
      (fun n v => by simp only [T_laws_eqSeqReadS_lp0, ix_ge (Nat.le_refl a.length), cond_false]) ()
    refine h1.trans ?_
    rw [foldK_same (E := fun _ => some ((), (false, ()))) (z := ((0 : Int), ((0 : Int), ((0 : Int), ((0 : Int), (0 : Int)))))) a b 0 () (by omega) (fun j x v k _ => rfl)]
    simp only [List.drop_zero]
    cases same a b <;> rfl
  · have e : (ilen a != ilen b) = true := by simp [ilen]; omega
    have e2 : a ≠ b := fun h => hl (by rw [h])
    rw [e, same_ne e2]
    rfl

theorem f_eqSeqWorld {N : Nat} {a b : Int × (Int × Int × Int) × Int × Int × List (Int × Int × (Int × Int × Int) × Int) × List (Int × Int × Int × Int × Int)} (h : z_SeqWorld a ≤ 1048576) (hN : 1048576 < N) : T_laws_eqSeqWorld N a b = ret (same a b) := by
  unfold z_SeqWorld at h
  unfold T_laws_eqSeqWorld
  simp only [bne_same, beq_same, seq_same, f_eqTriple (a := a.2.1) hN, f_eqSeqReaderS (a := a.2.2.2.2.1) (show z_SeqReaderS a.2.2.2.2.1 ≤ 1048576 by omega) hN, f_eqSeqReadS (a := a.2.2.2.2.2) (show z_SeqReadS a.2.2.2.2.2 ≤ 1048576 by omega) hN, ret, Option.bind_some]
  exact eq_pair (eq_pair (eq_pair (eq_pair (eq_pair (eq_last)))))

end Go.Sx
