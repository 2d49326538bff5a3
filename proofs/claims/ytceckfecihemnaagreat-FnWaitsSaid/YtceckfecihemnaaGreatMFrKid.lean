/- Plain laws of the Lean functions. -/
import Derived.Test.YtceckfecihemnaaGreatMS1RdA

namespace Go.Sx
set_option linter.unusedVariables false
set_option linter.unusedSimpArgs false
set_option synthInstance.maxSize 20000
set_option synthInstance.maxHeartbeats 4000000
def z_OpS (l : List (Int × Int × Int × Int)) : Nat := l.length
theorem f_szOpS {N : Nat} {a : List (Int × Int × Int × Int)} {left : Int} (hN : 1048576 < N) (h0 : 0 ≤ left) (h1 : left ≤ 1048576) (hw : Wfd (.slice (.prod (.int .i64) (.prod (.int .i64) (.prod (.int .i64) (.int .i64))))) a) :
    Zjj N a left = ret (if left < (z_OpS a : Int) then -1 else left - (z_OpS a : Int)) := by
  have hl : a.length ≤ 9223372036854775807 := Nat.le_trans hw.1 (by decide)
  unfold Zjj z_OpS
  have e : isub .i64 left (ilen a) = left - (a.length : Int) := isub_eq (by unfold I64 ilen; omega)
  rw [e]
  by_cases h : left < (a.length : Int)
  · rw [if_pos h, show decide (left - (a.length : Int) < 0) = true by simp; omega]; rfl
  · rw [if_neg h, show decide (left - (a.length : Int) < 0) = false by simp; omega]; rfl
def z_Kid (a : List (Int × Int × Int × Int)) : Nat := z_OpS a
theorem f_szKid {N : Nat} {a : List (Int × Int × Int × Int)} {left : Int} (hN : 1048576 < N) (h0 : 0 ≤ left) (h1 : left ≤ 1048576) (hw : Wfd (.slice (.prod (.int .i64) (.prod (.int .i64) (.prod (.int .i64) (.int .i64))))) a) :
    Zjk N a left = ret (if left < (z_Kid a : Int) then -1 else left - (z_Kid a : Int)) := by
  unfold Zjk
  unfold z_Kid
  rw [show (z_OpS a) = z_OpS a + (0) by omega]
  rw [f_szOpS hN (by omega) (by omega) hw]
  refine sz_bind (z2 := 0) (by omega) fun h2 => ?_
  simp only []
  exact sz_done (by omega)
def z_KidS (l : List (List (Int × Int × Int × Int))) : Nat := l.length + (l.map z_Kid).sum
theorem z_KidS_mem {l : List (List (Int × Int × Int × Int))} {x : List (Int × Int × Int × Int)} (h : x ∈ l) : z_Kid x ≤ z_KidS l := by
  have := le_sum_map z_Kid h
  unfold z_KidS; omega
theorem z_KidS_len {l : List (List (Int × Int × Int × Int))} : l.length ≤ z_KidS l := by unfold z_KidS; omega
theorem f_szKidS {N : Nat} {a : List (List (Int × Int × Int × Int))} {left : Int} (hN : 1048576 < N) (h0 : 0 ≤ left) (h1 : left ≤ 1048576) (hw : Wfd (.slice (.slice (.prod (.int .i64) (.prod (.int .i64) (.prod (.int .i64) (.int .i64)))))) a) :
    Zm8 N a left = ret (if left < (z_KidS a : Int) then -1 else left - (z_KidS a : Int)) := by
  have hl : a.length ≤ 9223372036854775807 := Nat.le_trans hw.1 (by decide)
  unfold Zm8 z_KidS
  have e : isub .i64 left (ilen a) = left - (a.length : Int) := isub_eq (by unfold I64 ilen; omega)
  rw [e]
  by_cases h : left < (a.length : Int)
  · rw [if_pos (by omega), show decide (left - (a.length : Int) < 0) = true by simp; omega]; rfl
  · rw [show decide (left - (a.length : Int) < 0) = false by simp; omega]
    simp only [cond_false]
    refine sz_loop0 (z := z_Kid) (lp := fun n left i => Zd9 N a _ _ n left i) ?_ ?_ (by omega) (by omega) h1
    · intro n left j hj h0 h1
      simp only [Zd9, ix_lt hj, ix_inb hj, ix_get hj, ix_succ (show j < 4611686018427387904 by omega), cond_true, f_szKid hN h0 h1 (hw.2 _ (List.getElem_mem hj)), ret, Option.bind_some]
      by_cases h2 : left < (z_Kid a[j] : Int)
      · rw [if_pos h2, if_pos h2]; rfl
      · rw [if_neg h2, if_neg h2, show decide (left - (z_Kid a[j] : Int) < 0) = false by simp; omega]; rfl
    · intro n left
      simp only [Zd9, ix_ge (Nat.le_refl a.length), cond_false]
theorem f_toOp {N : Nat} {a : Int × Int × Int × Int} (hN : 1048576 < N) : Zkw N a = ret a := by
  unfold Zkw
  all_goals rfl
theorem f_toOpS {N : Nat} {a : List (Int × Int × Int × Int)} (h : z_OpS a ≤ 1048576) (hN : 1048576 < N) : Zjl N a = ret a := by
  have hl : a.length ≤ 1048576 := h
  unfold Zjl
  rw [make_ok a (by omega), toNat_ilen]
  simp only [cond_true]
  have h1 := loop_ix0 (l := a) (V := List (Int × Int × Int × Int)) (R := Unit × (List (Int × Int × Int × Int) × Unit)) (lp := fun n j v => Zef N a (fun i8 t9 l10 => some ((), (l10, ()))) n j v) (n := N) (by omega)
    (body := fun j x v k => bif inb j v.length then k (v.set j.toNat x) else none) (K := fun _ v => some ((), (v, ())))
    (fun n i v hi => by simp only [Zef, ix_lt hi, ix_inb hi, ix_get hi, ix_succ (show i < 4611686018427387904 by omega), cond_true, f_toOp hN, ret, Option.bind_some])
    (fun n v => by simp only [Zef, ix_ge (Nat.le_refl a.length), cond_false]) (List.replicate a.length ((0 : Int), ((0 : Int), ((0 : Int), (0 : Int)))))
  refine h1.trans ?_
  rw [foldK_copy (f := id) a (fun j x v k _ => rfl)]
  simp
theorem f_toKid {N : Nat} {a : List (Int × Int × Int × Int)} (h : z_Kid a ≤ 1048576) (hN : 1048576 < N) : Zjm N a = ret a := by
  unfold z_Kid at h
  unfold Zjm
  simp only [f_toOpS (a := a) (show z_OpS a ≤ 1048576 by omega) hN, ret, Option.bind_some]
  all_goals rfl
theorem f_toKidS {N : Nat} {a : List (List (Int × Int × Int × Int))} (h : z_KidS a ≤ 1048576) (hN : 1048576 < N) : Zm9 N a = ret a := by
  have hl : a.length ≤ 1048576 := Nat.le_trans z_KidS_len h
  unfold Zm9
  rw [make_ok a (by omega), toNat_ilen]
  simp only [cond_true]
  have h1 := loop_ix0 (l := a) (V := List (List (Int × Int × Int × Int))) (R := Unit × (List (List (Int × Int × Int × Int)) × Unit)) (lp := fun n j v => Zea N a (fun i8 t9 l10 => some ((), (l10, ()))) n j v) (n := N) (by omega)
    (body := fun j x v k => bif inb j v.length then k (v.set j.toNat x) else none) (K := fun _ v => some ((), (v, ())))
    (fun n i v hi => by simp only [Zea, ix_lt hi, ix_inb hi, ix_get hi, ix_succ (show i < 4611686018427387904 by omega), cond_true, f_toKid (Nat.le_trans (z_KidS_mem (List.getElem_mem hi)) h) hN, ret, Option.bind_some])
    (fun n v => by simp only [Zea, ix_ge (Nat.le_refl a.length), cond_false]) (List.replicate a.length ([] : List (Int × Int × Int × Int)))
  refine h1.trans ?_
  rw [foldK_copy (f := id) a (fun j x v k _ => rfl)]
  simp
theorem f_eqOp {N : Nat} {a b : Int × Int × Int × Int} (hN : 1048576 < N) : Zkx N a b = ret (same a b) := by
  unfold Zkx
  simp only [bne_same, beq_same, seq_same, ret, Option.bind_some]
  exact eq_pair (eq_pair (eq_pair (eq_last)))
theorem f_eqOpS {N : Nat} {a b : List (Int × Int × Int × Int)} (h : z_OpS a ≤ 1048576) (hN : 1048576 < N) : Zjn N a b = ret (same a b) := by
  have hl0 : a.length ≤ 1048576 := h
  unfold Zjn
  by_cases hl : a.length = b.length
  · have e : (ilen a != ilen b) = false := by simp [ilen, hl]
    rw [e]
    simp only [cond_false]
    have h1 := loop_ix0 (l := a) (V := Unit) (R := Unit × (Bool × Unit)) (lp := fun n j v => Zeg N a b (some ((), (false, ()))) (fun i8 t9 => some ((), (true, ()))) n j) (n := N) (by omega)
      (body := fun j x v k => bif inb j b.length then (bif !same x (b.getD j.toNat ((0 : Int), ((0 : Int), ((0 : Int), (0 : Int))))) then some ((), (false, ())) else k v) else none) (K := fun _ v => some ((), (true, ())))
      (fun n i v hi => by simp only [Zeg, ix_lt hi, ix_inb hi, ix_get hi, ix_succ (show i < 4611686018427387904 by omega), cond_true, f_eqOp hN, ret, Option.bind_some])
      (fun n v => by simp only [Zeg, ix_ge (Nat.le_refl a.length), cond_false]) ()
    refine h1.trans ?_
    rw [foldK_same (E := fun _ => some ((), (false, ()))) (z := ((0 : Int), ((0 : Int), ((0 : Int), (0 : Int))))) a b 0 () (by omega) (fun j x v k _ => rfl)]
    simp only [List.drop_zero]
    cases same a b <;> rfl
  · have e : (ilen a != ilen b) = true := by simp [ilen]; omega
    have e2 : a ≠ b := fun h => hl (by rw [h])
    rw [e, same_ne e2]
    rfl
theorem f_eqKid {N : Nat} {a b : List (Int × Int × Int × Int)} (h : z_Kid a ≤ 1048576) (hN : 1048576 < N) : Zjo N a b = ret (same a b) := by
  unfold z_Kid at h
  unfold Zjo
  simp only [bne_same, beq_same, seq_same, f_eqOpS (a := a) (show z_OpS a ≤ 1048576 by omega) hN, ret, Option.bind_some]
  exact eq_last
theorem f_eqKidS {N : Nat} {a b : List (List (Int × Int × Int × Int))} (h : z_KidS a ≤ 1048576) (hN : 1048576 < N) : Zna N a b = ret (same a b) := by
  have hl0 : a.length ≤ 1048576 := Nat.le_trans z_KidS_len h
  unfold Zna
  by_cases hl : a.length = b.length
  · have e : (ilen a != ilen b) = false := by simp [ilen, hl]
    rw [e]
    simp only [cond_false]
    have h1 := loop_ix0 (l := a) (V := Unit) (R := Unit × (Bool × Unit)) (lp := fun n j v => Zeb N a b (some ((), (false, ()))) (fun i8 t9 => some ((), (true, ()))) n j) (n := N) (by omega)
      (body := fun j x v k => bif inb j b.length then (bif !same x (b.getD j.toNat ([] : List (Int × Int × Int × Int))) then some ((), (false, ())) else k v) else none) (K := fun _ v => some ((), (true, ())))
      (fun n i v hi => by simp only [Zeb, ix_lt hi, ix_inb hi, ix_get hi, ix_succ (show i < 4611686018427387904 by omega), cond_true, f_eqKid (Nat.le_trans (z_KidS_mem (List.getElem_mem hi)) h) hN, ret, Option.bind_some])
      (fun n v => by simp only [Zeb, ix_ge (Nat.le_refl a.length), cond_false]) ()
    refine h1.trans ?_
    rw [foldK_same (E := fun _ => some ((), (false, ()))) (z := ([] : List (Int × Int × Int × Int))) a b 0 () (by omega) (fun j x v k _ => rfl)]
    simp only [List.drop_zero]
    cases same a b <;> rfl
  · have e : (ilen a != ilen b) = true := by simp [ilen]; omega
    have e2 : a ≠ b := fun h => hl (by rw [h])
    rw [e, same_ne e2]
    rfl
def z_IntS (l : List Int) : Nat := l.length
theorem f_toIntS {N : Nat} {a : List Int} (h : z_IntS a ≤ 1048576) (hN : 1048576 < N) : Zm6 N a = ret a := by
  have hl : a.length ≤ 1048576 := h
  unfold Zm6
  rw [make_ok a (by omega), toNat_ilen]
  simp only [cond_true]
  have h1 := loop_ix0 (l := a) (V := List Int) (R := Unit × (List Int × Unit)) (lp := fun n j v => Zd7 N a (fun i8 t9 l10 => some ((), (l10, ()))) n j v) (n := N) (by omega)
    (body := fun j x v k => bif inb j v.length then k (v.set j.toNat x) else none) (K := fun _ v => some ((), (v, ())))
    (fun n i v hi => by simp only [Zd7, ix_lt hi, ix_inb hi, ix_get hi, ix_succ (show i < 4611686018427387904 by omega), cond_true, ret, Option.bind_some])
    (fun n v => by simp only [Zd7, ix_ge (Nat.le_refl a.length), cond_false]) (List.replicate a.length (0 : Int))
  refine h1.trans ?_
  rw [foldK_copy (f := id) a (fun j x v k _ => rfl)]
  simp
theorem f_eqIntS {N : Nat} {a b : List Int} (h : z_IntS a ≤ 1048576) (hN : 1048576 < N) : Zm7 N a b = ret (same a b) := by
  have hl0 : a.length ≤ 1048576 := h
  unfold Zm7
  by_cases hl : a.length = b.length
  · have e : (ilen a != ilen b) = false := by simp [ilen, hl]
    rw [e]
    simp only [cond_false]
    have h1 := loop_ix0 (l := a) (V := Unit) (R := Unit × (Bool × Unit)) (lp := fun n j v => Zd8 N a b (some ((), (false, ()))) (fun i8 t9 => some ((), (true, ()))) n j) (n := N) (by omega)
      (body := fun j x v k => bif inb j b.length then (bif !same x (b.getD j.toNat (0 : Int)) then some ((), (false, ())) else k v) else none) (K := fun _ v => some ((), (true, ())))
      (fun n i v hi => by simp only [Zd8, ix_lt hi, ix_inb hi, ix_get hi, ix_succ (show i < 4611686018427387904 by omega), cond_true, bne_same, beq_same, seq_same, ret, Option.bind_some])
      (fun n v => by simp only [Zd8, ix_ge (Nat.le_refl a.length), cond_false]) ()
    refine h1.trans ?_
    rw [foldK_same (E := fun _ => some ((), (false, ()))) (z := (0 : Int)) a b 0 () (by omega) (fun j x v k _ => rfl)]
    simp only [List.drop_zero]
    cases same a b <;> rfl
  · have e : (ilen a != ilen b) = true := by simp [ilen]; omega
    have e2 : a ≠ b := fun h => hl (by rw [h])
    rw [e, same_ne e2]
    rfl
end Go.Sx
