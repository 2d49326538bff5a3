/- Plain laws of the Lean functions. -/
import Derived.Test.YtfbomdanghhgcaaMS1Seq
/- Plain laws of the helpers that copy, measure, compare and mark. -/
namespace Go.Sx
set_option linter.unusedVariables false
set_option linter.unusedSimpArgs false
set_option synthInstance.maxSize 20000
set_option synthInstance.maxHeartbeats 4000000

def z_IntS (l : List Int) : Nat := l.length
theorem f_szIntS {N : Nat} {a : List Int} {left : Int} (hN : 1048576 < N) (h0 : 0 ≤ left) (h1 : left ≤ 1048576) (hw : Wfd (.slice (.int .i64)) a) :
    T_laws_szIntS N a left = ret (if left < (z_IntS a : Int) then -1 else left - (z_IntS a : Int)) := by
  have hl : a.length ≤ 9223372036854775807 := Nat.le_trans hw.1 (by decide)
  unfold T_laws_szIntS z_IntS
  have e : isub .i64 left (ilen a) = left - (a.length : Int) := isub_eq (by unfold I64 ilen; omega)
  rw [e]
  by_cases h : left < (a.length : Int)
  · rw [if_pos h, show decide (left - (a.length : Int) < 0) = true by simp; omega]; rfl
  · rw [if_neg h, show decide (left - (a.length : Int) < 0) = false by simp; omega]; rfl

def z_BoolS (l : List Bool) : Nat := l.length
theorem f_szBoolS {N : Nat} {a : List Bool} {left : Int} (hN : 1048576 < N) (h0 : 0 ≤ left) (h1 : left ≤ 1048576) (hw : Wfd (.slice (.bool)) a) :
    T_laws_szBoolS N a left = ret (if left < (z_BoolS a : Int) then -1 else left - (z_BoolS a : Int)) := by
  have hl : a.length ≤ 9223372036854775807 := Nat.le_trans hw.1 (by decide)
  unfold T_laws_szBoolS z_BoolS
  have e : isub .i64 left (ilen a) = left - (a.length : Int) := isub_eq (by unfold I64 ilen; omega)
  rw [e]
  by_cases h : left < (a.length : Int)
  · rw [if_pos h, show decide (left - (a.length : Int) < 0) = true by simp; omega]; rfl
  · rw [if_neg h, show decide (left - (a.length : Int) < 0) = false by simp; omega]; rfl

def z_EpBagS (l : List (Int × Int)) : Nat := l.length
theorem f_szEpBagS {N : Nat} {a : List (Int × Int)} {left : Int} (hN : 1048576 < N) (h0 : 0 ≤ left) (h1 : left ≤ 1048576) (hw : Wfd (.slice (.prod (.int .i64) (.int .i64))) a) :
    T_laws_szEpBagS N a left = ret (if left < (z_EpBagS a : Int) then -1 else left - (z_EpBagS a : Int)) := by
  have hl : a.length ≤ 9223372036854775807 := Nat.le_trans hw.1 (by decide)
  unfold T_laws_szEpBagS z_EpBagS
  have e : isub .i64 left (ilen a) = left - (a.length : Int) := isub_eq (by unfold I64 ilen; omega)
  rw [e]
  by_cases h : left < (a.length : Int)
  · rw [if_pos h, show decide (left - (a.length : Int) < 0) = true by simp; omega]; rfl
  · rw [if_neg h, show decide (left - (a.length : Int) < 0) = false by simp; omega]; rfl

def z_EpHoldS (l : List (Int × Int)) : Nat := l.length
theorem f_szEpHoldS {N : Nat} {a : List (Int × Int)} {left : Int} (hN : 1048576 < N) (h0 : 0 ≤ left) (h1 : left ≤ 1048576) (hw : Wfd (.slice (.prod (.int .i64) (.int .i64))) a) :
    T_laws_szEpHoldS N a left = ret (if left < (z_EpHoldS a : Int) then -1 else left - (z_EpHoldS a : Int)) := by
  have hl : a.length ≤ 9223372036854775807 := Nat.le_trans hw.1 (by decide)
  unfold T_laws_szEpHoldS z_EpHoldS
  have e : isub .i64 left (ilen a) = left - (a.length : Int) := isub_eq (by unfold I64 ilen; omega)
  rw [e]
  by_cases h : left < (a.length : Int)
  · rw [if_pos h, show decide (left - (a.length : Int) < 0) = true by simp; omega]; rfl
  · rw [if_neg h, show decide (left - (a.length : Int) < 0) = false by simp; omega]; rfl

def z_Epochs (a : Int × List Int × List Bool × List (Int × Int) × List (Int × Int) × List Int) : Nat := z_IntS a.2.1 + z_BoolS a.2.2.1 + z_EpBagS a.2.2.2.1 + z_EpHoldS a.2.2.2.2.1 + z_IntS a.2.2.2.2.2
theorem f_szEpochs {N : Nat} {a : Int × List Int × List Bool × List (Int × Int) × List (Int × Int) × List Int} {left : Int} (hN : 1048576 < N) (h0 : 0 ≤ left) (h1 : left ≤ 1048576) (hw : Wfd (.prod (.int .i64) (.prod (.slice (.int .i64)) (.prod (.slice (.bool)) (.prod (.slice (.prod (.int .i64) (.int .i64))) (.prod (.slice (.prod (.int .i64) (.int .i64))) (.slice (.int .i64))))))) a) :
    T_laws_szEpochs N a left = ret (if left < (z_Epochs a : Int) then -1 else left - (z_Epochs a : Int)) := by
  unfold T_laws_szEpochs
  unfold z_Epochs
  rw [show (z_IntS a.2.1 + z_BoolS a.2.2.1 + z_EpBagS a.2.2.2.1 + z_EpHoldS a.2.2.2.2.1 + z_IntS a.2.2.2.2.2) = z_IntS a.2.1 + (z_BoolS a.2.2.1 + (z_EpBagS a.2.2.2.1 + (z_EpHoldS a.2.2.2.2.1 + (z_IntS a.2.2.2.2.2 + (0))))) by omega]
  rw [f_szIntS hN (by omega) (by omega) hw.2.1]
  refine sz_bind (z2 := z_BoolS a.2.2.1 + (z_EpBagS a.2.2.2.1 + (z_EpHoldS a.2.2.2.2.1 + (z_IntS a.2.2.2.2.2 + (0))))) (by omega) fun h2 => ?_
  simp only []
  rw [f_szBoolS hN (by omega) (by omega) hw.2.2.1]
  refine sz_bind (z2 := z_EpBagS a.2.2.2.1 + (z_EpHoldS a.2.2.2.2.1 + (z_IntS a.2.2.2.2.2 + (0)))) (by omega) fun h3 => ?_
  simp only []
  rw [f_szEpBagS hN (by omega) (by omega) hw.2.2.2.1]
  refine sz_bind (z2 := z_EpHoldS a.2.2.2.2.1 + (z_IntS a.2.2.2.2.2 + (0))) (by omega) fun h4 => ?_
  simp only []
  rw [f_szEpHoldS hN (by omega) (by omega) hw.2.2.2.2.1]
  refine sz_bind (z2 := z_IntS a.2.2.2.2.2 + (0)) (by omega) fun h5 => ?_
  simp only []
  rw [f_szIntS hN (by omega) (by omega) hw.2.2.2.2.2]
  refine sz_bind (z2 := 0) (by omega) fun h6 => ?_
  simp only []
  exact sz_done (by omega)

theorem f_toIntS {N : Nat} {a : List Int} (h : z_IntS a ≤ 1048576) (hN : 1048576 < N) : T_laws_toIntS N a = ret a := by
  have hl : a.length ≤ 1048576 := h
  unfold T_laws_toIntS
  rw [make_ok a (by omega), toNat_ilen]
  simp only [cond_true]
  have h1 := loop_ix0 (l := a) (V := List Int) (R := Unit × (List Int × Unit)) (lp := fun n j v => T_laws_toIntS_lp0 N a (fun i8 t9 l10 => some ((), (l10, ()))) n j v) (n := N) (by omega)
    (body := fun j x v k => bif inb j v.length then k (v.set j.toNat x) else none) (K := fun _ v => some ((), (v, ())))
    (fun n i v hi => by simp only [T_laws_toIntS_lp0, ix_lt hi, ix_inb hi, ix_get hi, ix_succ (show i < 4611686018427387904 by omega), cond_true, ret, Option.bind_some])
    (fun n v => by simp only [T_laws_toIntS_lp0, ix_ge (Nat.le_refl a.length), cond_false]) (List.replicate a.length (0 : Int))
  refine h1.trans ?_
  rw [foldK_copy (f := id) a (fun j x v k _ => rfl)]
  simp

theorem f_toBoolS {N : Nat} {a : List Bool} (h : z_BoolS a ≤ 1048576) (hN : 1048576 < N) : T_laws_toBoolS N a = ret a := by
  have hl : a.length ≤ 1048576 := h
  unfold T_laws_toBoolS
  rw [make_ok a (by omega), toNat_ilen]
  simp only [cond_true]
  have h1 := loop_ix0 (l := a) (V := List Bool) (R := Unit × (List Bool × Unit)) (lp := fun n j v => T_laws_toBoolS_lp0 N a (fun i8 t9 l10 => some ((), (l10, ()))) n j v) (n := N) (by omega)
    (body := fun j x v k => bif inb j v.length then k (v.set j.toNat x) else none) (K := fun _ v => some ((), (v, ())))
    (fun n i v hi => by simp only [T_laws_toBoolS_lp0, ix_lt hi, ix_inb hi, ix_get hi, ix_succ (show i < 4611686018427387904 by omega), cond_true, ret, Option.bind_some])
    (fun n v => by simp only [T_laws_toBoolS_lp0, ix_ge (Nat.le_refl a.length), cond_false]) (List.replicate a.length (false))
  refine h1.trans ?_
  rw [foldK_copy (f := id) a (fun j x v k _ => rfl)]
  simp

theorem f_toEpBag {N : Nat} {a : Int × Int} (hN : 1048576 < N) : T_laws_toEpBag N a = ret a := by
  unfold T_laws_toEpBag
  all_goals rfl

theorem f_toEpBagS {N : Nat} {a : List (Int × Int)} (h : z_EpBagS a ≤ 1048576) (hN : 1048576 < N) : T_laws_toEpBagS N a = ret a := by
  have hl : a.length ≤ 1048576 := h
  unfold T_laws_toEpBagS
  rw [make_ok a (by omega), toNat_ilen]
  simp only [cond_true]
  have h1 := loop_ix0 (l := a) (V := List (Int × Int)) (R := Unit × (List (Int × Int) × Unit)) (lp := fun n j v => T_laws_toEpBagS_lp0 N a (fun i8 t9 l10 => some ((), (l10, ()))) n j v) (n := N) (by omega)
    (body := fun j x v k => bif inb j v.length then k (v.set j.toNat x) else none) (K := fun _ v => some ((), (v, ())))
    (fun n i v hi => by simp only [T_laws_toEpBagS_lp0, ix_lt hi, ix_inb hi, ix_get hi, ix_succ (show i < 4611686018427387904 by omega), cond_true, f_toEpBag hN, ret, Option.bind_some])
    (fun n v => by simp only [T_laws_toEpBagS_lp0, ix_ge (Nat.le_refl a.length), cond_false]) (List.replicate a.length ((0 : Int), (0 : Int)))
  refine h1.trans ?_
  rw [foldK_copy (f := id) a (fun j x v k _ => rfl)]
  simp

theorem f_toEpHold {N : Nat} {a : Int × Int} (hN : 1048576 < N) : T_laws_toEpHold N a = ret a := by
  unfold T_laws_toEpHold
  all_goals rfl

theorem f_toEpHoldS {N : Nat} {a : List (Int × Int)} (h : z_EpHoldS a ≤ 1048576) (hN : 1048576 < N) : T_laws_toEpHoldS N a = ret a := by
  have hl : a.length ≤ 1048576 := h
  unfold T_laws_toEpHoldS
  rw [make_ok a (by omega), toNat_ilen]
  simp only [cond_true]
  have h1 := loop_ix0 (l := a) (V := List (Int × Int)) (R := Unit × (List (Int × Int) × Unit)) (lp := fun n j v => T_laws_toEpHoldS_lp0 N a (fun i8 t9 l10 => some ((), (l10, ()))) n j v) (n := N) (by omega)
    (body := fun j x v k => bif inb j v.length then k (v.set j.toNat x) else none) (K := fun _ v => some ((), (v, ())))
    (fun n i v hi => by simp only [T_laws_toEpHoldS_lp0, ix_lt hi, ix_inb hi, ix_get hi, ix_succ (show i < 4611686018427387904 by omega), cond_true, f_toEpHold hN, ret, Option.bind_some])
    (fun n v => by simp only [T_laws_toEpHoldS_lp0, ix_ge (Nat.le_refl a.length), cond_false]) (List.replicate a.length ((0 : Int), (0 : Int)))
  refine h1.trans ?_
  rw [foldK_copy (f := id) a (fun j x v k _ => rfl)]
  simp

theorem f_toEpochs {N : Nat} {a : Int × List Int × List Bool × List (Int × Int) × List (Int × Int) × List Int} (h : z_Epochs a ≤ 1048576) (hN : 1048576 < N) : T_laws_toEpochs N a = ret a := by
  unfold z_Epochs at h
  unfold T_laws_toEpochs
  simp only [f_toIntS (a := a.2.1) (show z_IntS a.2.1 ≤ 1048576 by omega) hN, f_toBoolS (a := a.2.2.1) (show z_BoolS a.2.2.1 ≤ 1048576 by omega) hN, f_toEpBagS (a := a.2.2.2.1) (show z_EpBagS a.2.2.2.1 ≤ 1048576 by omega) hN, f_toEpHoldS (a := a.2.2.2.2.1) (show z_EpHoldS a.2.2.2.2.1 ≤ 1048576 by omega) hN, f_toIntS (a := a.2.2.2.2.2) (show z_IntS a.2.2.2.2.2 ≤ 1048576 by omega) hN, ret, Option.bind_some]
  all_goals rfl

theorem f_eqIntS {N : Nat} {a b : List Int} (h : z_IntS a ≤ 1048576) (hN : 1048576 < N) : T_laws_eqIntS N a b = ret (same a b) := by
  have hl0 : a.length ≤ 1048576 := h
  unfold T_laws_eqIntS
  by_cases hl : a.length = b.length
  · have e : (ilen a != ilen b) = false := by simp [ilen, hl]
    rw [e]
    simp only [cond_false]
    have h1 := loop_ix0 (l := a) (V := Unit) (R := Unit × (Bool × Unit)) (lp := fun n j v => T_laws_eqIntS_lp0 N a b (some ((), (false, ()))) (fun i8 t9 => some ((), (true, ()))) n j) (n := N) (by omega)
      (body := fun j x v k => bif inb j b.length then (bif !same x (b.getD j.toNat (0 : Int)) then some ((), (false, ())) else k v) else none) (K := fun _ v => some ((), (true, ())))
      (fun n i v hi => by simp only [T_laws_eqIntS_lp0, ix_lt hi, ix_inb hi, ix_get hi, ix_succ (show i < 4611686018427387904 by omega), cond_true, bne_same, beq_same, seq_same, ret, Option.bind_some])
      (fun n v => by simp only [T_laws_eqIntS_lp0, ix_ge (Nat.le_refl a.length), cond_false]) ()
    refine h1.trans ?_
    rw [foldK_same (E := fun _ => some ((), (false, ()))) (z := (0 : Int)) a b 0 () (by omega) (fun j x v k _ => rfl)]
    simp only [List.drop_zero]
    cases same a b <;> rfl
  · have e : (ilen a != ilen b) = true := by simp [ilen]; omega
    have e2 : a ≠ b := fun h => hl (by rw [h])
    rw [e, same_ne e2]
    rfl

theorem f_eqBoolS {N : Nat} {a b : List Bool} (h : z_BoolS a ≤ 1048576) (hN : 1048576 < N) : T_laws_eqBoolS N a b = ret (same a b) := by
  have hl0 : a.length ≤ 1048576 := h
  unfold T_laws_eqBoolS
  by_cases hl : a.length = b.length
  · have e : (ilen a != ilen b) = false := by simp [ilen, hl]
    rw [e]
    simp only [cond_false]
    have h1 := loop_ix0 (l := a) (V := Unit) (R := Unit × (Bool × Unit)) (lp := fun n j v => T_laws_eqBoolS_lp0 N a b (some ((), (false, ()))) (fun i8 t9 => some ((), (true, ()))) n j) (n := N) (by omega)
      (body := fun j x v k => bif inb j b.length then (bif !same x (b.getD j.toNat (false)) then some ((), (false, ())) else k v) else none) (K := fun _ v => some ((), (true, ())))
      (fun n i v hi => by simp only [T_laws_eqBoolS_lp0, ix_lt hi, ix_inb hi, ix_get hi, ix_succ (show i < 4611686018427387904 by omega), cond_true, bne_same, beq_same, seq_same, ret, Option.bind_some])
      (fun n v => by simp only [T_laws_eqBoolS_lp0, ix_ge (Nat.le_refl a.length), cond_false]) ()
    refine h1.trans ?_
    rw [foldK_same (E := fun _ => some ((), (false, ()))) (z := (false)) a b 0 () (by omega) (fun j x v k _ => rfl)]
    simp only [List.drop_zero]
    cases same a b <;> rfl
  · have e : (ilen a != ilen b) = true := by simp [ilen]; omega
    have e2 : a ≠ b := fun h => hl (by rw [h])
    rw [e, same_ne e2]
    rfl

theorem f_eqEpBag {N : Nat} {a b : Int × Int} (hN : 1048576 < N) : T_laws_eqEpBag N a b = ret (same a b) := by
  unfold T_laws_eqEpBag
  simp only [bne_same, beq_same, seq_same, ret, Option.bind_some]
  exact eq_pair (eq_last)

theorem f_eqEpBagS {N : Nat} {a b : List (Int × Int)} (h : z_EpBagS a ≤ 1048576) (hN : 1048576 < N) : T_laws_eqEpBagS N a b = ret (same a b) := by
  have hl0 : a.length ≤ 1048576 := h
  unfold T_laws_eqEpBagS
  by_cases hl : a.length = b.length
  · have e : (ilen a != ilen b) = false := by simp [ilen, hl]
    rw [e]
    simp only [cond_false]
    have h1 := loop_ix0 (l := a) (V := Unit) (R := Unit × (Bool × Unit)) (lp := fun n j v => T_laws_eqEpBagS_lp0 N a b (some ((), (false, ()))) (fun i8 t9 => some ((), (true, ()))) n j) (n := N) (by omega)
      (body := fun j x v k => bif inb j b.length then (bif !same x (b.getD j.toNat ((0 : Int), (0 : Int))) then some ((), (false, ())) else k v) else none) (K := fun _ v => some ((), (true, ())))
      (fun n i v hi => by simp only [T_laws_eqEpBagS_lp0, ix_lt hi, ix_inb hi, ix_get hi, ix_succ (show i < 4611686018427387904 by omega), cond_true, f_eqEpBag hN, ret, Option.bind_some])
      (fun n v => by simp only [T_laws_eqEpBagS_lp0, ix_ge (Nat.le_refl a.length), cond_false]) ()
    refine h1.trans ?_
    rw [foldK_same (E := fun _ => some ((), (false, ()))) (z := ((0 : Int), (0 : Int))) a b 0 () (by omega) (fun j x v k _ => rfl)]
    simp only [List.drop_zero]
    cases same a b <;> rfl
  · have e : (ilen a != ilen b) = true := by simp [ilen]; omega
    have e2 : a ≠ b := fun h => hl (by rw [h])
    rw [e, same_ne e2]
    rfl

theorem f_eqEpHold {N : Nat} {a b : Int × Int} (hN : 1048576 < N) : T_laws_eqEpHold N a b = ret (same a b) := by
  unfold T_laws_eqEpHold
  simp only [bne_same, beq_same, seq_same, ret, Option.bind_some]
  exact eq_pair (eq_last)

theorem f_eqEpHoldS {N : Nat} {a b : List (Int × Int)} (h : z_EpHoldS a ≤ 1048576) (hN : 1048576 < N) : T_laws_eqEpHoldS N a b = ret (same a b) := by
  have hl0 : a.length ≤ 1048576 := h
  unfold T_laws_eqEpHoldS
  by_cases hl : a.length = b.length
  · have e : (ilen a != ilen b) = false := by simp [ilen, hl]
    rw [e]
    simp only [cond_false]
    have h1 := loop_ix0 (l := a) (V := Unit) (R := Unit × (Bool × Unit)) (lp := fun n j v => T_laws_eqEpHoldS_lp0 N a b (some ((), (false, ()))) (fun i8 t9 => some ((), (true, ()))) n j) (n := N) (by omega)
      (body := fun j x v k => bif inb j b.length then (bif !same x (b.getD j.toNat ((0 : Int), (0 : Int))) then some ((), (false, ())) else k v) else none) (K := fun _ v => some ((), (true, ())))
      (fun n i v hi => by simp only [T_laws_eqEpHoldS_lp0, ix_lt hi, ix_inb hi, ix_get hi, ix_succ (show i < 4611686018427387904 by omega), cond_true, f_eqEpHold hN, ret, Option.bind_some])
      (fun n v => by simp only [T_laws_eqEpHoldS_lp0, ix_ge (Nat.le_refl a.length), cond_false]) ()
    refine h1.trans ?_
    rw [foldK_same (E := fun _ => some ((), (false, ()))) (z := ((0 : Int), (0 : Int))) a b 0 () (by omega) (fun j x v k _ => rfl)]
    simp only [List.drop_zero]
    cases same a b <;> rfl
  · have e : (ilen a != ilen b) = true := by simp [ilen]; omega
    have e2 : a ≠ b := fun h => hl (by rw [h])
    rw [e, same_ne e2]
    rfl

theorem f_eqEpochs {N : Nat} {a b : Int × List Int × List Bool × List (Int × Int) × List (Int × Int) × List Int} (h : z_Epochs a ≤ 1048576) (hN : 1048576 < N) : T_laws_eqEpochs N a b = ret (same a b) := by
  unfold z_Epochs at h
  unfold T_laws_eqEpochs
  simp only [bne_same, beq_same, seq_same, f_eqIntS (a := a.2.1) (show z_IntS a.2.1 ≤ 1048576 by omega) hN, f_eqBoolS (a := a.2.2.1) (show z_BoolS a.2.2.1 ≤ 1048576 by omega) hN, f_eqEpBagS (a := a.2.2.2.1) (show z_EpBagS a.2.2.2.1 ≤ 1048576 by omega) hN, f_eqEpHoldS (a := a.2.2.2.2.1) (show z_EpHoldS a.2.2.2.2.1 ≤ 1048576 by omega) hN, f_eqIntS (a := a.2.2.2.2.2) (show z_IntS a.2.2.2.2.2 ≤ 1048576 by omega) hN, ret, Option.bind_some]
  exact eq_pair (eq_pair (eq_pair (eq_pair (eq_pair (eq_last)))))

end Go.Sx
