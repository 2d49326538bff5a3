/- Plain laws of the Lean functions. -/
import Derived.Test.YtekialefckipaaaMS1Seq
/- Plain laws of the helpers that copy, measure, compare and mark. -/
namespace Go.Sx
set_option linter.unusedVariables false
set_option linter.unusedSimpArgs false
set_option synthInstance.maxSize 20000
set_option synthInstance.maxHeartbeats 4000000

def z_WordS (l : List (Int × Int × Int)) : Nat := l.length
theorem f_szWordS {N : Nat} {a : List (Int × Int × Int)} {left : Int} (hN : 1048576 < N) (h0 : 0 ≤ left) (h1 : left ≤ 1048576) (hw : Wfd (.slice (.prod (.int .i64) (.prod (.int .i64) (.int .i64)))) a) :
    T_laws_szWordS N a left = ret (if left < (z_WordS a : Int) then -1 else left - (z_WordS a : Int)) := by
  have hl : a.length ≤ 9223372036854775807 := Nat.le_trans hw.1 (by decide)
  unfold T_laws_szWordS z_WordS
  have e : isub .i64 left (ilen a) = left - (a.length : Int) := isub_eq (by unfold I64 ilen; omega)
  rw [e]
  by_cases h : left < (a.length : Int)
  · rw [if_pos h, show decide (left - (a.length : Int) < 0) = true by simp; omega]; rfl
  · rw [if_neg h, show decide (left - (a.length : Int) < 0) = false by simp; omega]; rfl

def z_Mem (a : Int × List (Int × Int × Int)) : Nat := z_WordS a.2
theorem f_szMem {N : Nat} {a : Int × List (Int × Int × Int)} {left : Int} (hN : 1048576 < N) (h0 : 0 ≤ left) (h1 : left ≤ 1048576) (hw : Wfd (.prod (.int .i64) (.slice (.prod (.int .i64) (.prod (.int .i64) (.int .i64))))) a) :
    T_laws_szMem N a left = ret (if left < (z_Mem a : Int) then -1 else left - (z_Mem a : Int)) := by
  unfold T_laws_szMem
  unfold z_Mem
  rw [show (z_WordS a.2) = z_WordS a.2 + (0) by omega]
  rw [f_szWordS hN (by omega) (by omega) hw.2]
  refine sz_bind (z2 := 0) (by omega) fun h2 => ?_
  simp only []
  exact sz_done (by omega)

def z_IntS (l : List Int) : Nat := l.length
theorem f_szIntS {N : Nat} {a : List Int} {left : Int} (hN : 1048576 < N) (h0 : 0 ≤ left) (h1 : left ≤ 1048576) (hw : Wfd (.slice (.int .i64)) a) :
    T_laws_szIntS N a left = ret (if left < (z_IntS a : Int) then -1 else left - (z_IntS a : Int)) := by
  have hl : a.length ≤ 9223372036854775807 := Nat.le_trans hw.1 (by decide)
  unfold T_laws_szIntS z_IntS
  have e : isub .i64 left (ilen a) = left - (a.length : Int) := isub_eq (by unfold I64 ilen; omega)
  rw [e]
  by_cases h : left < (a.length : Int)
  · rw [if_pos h, show decide (left - (a.length : Int) < 0) = true by simp; omega]; rfl
  · rw [if_neg h, show decide (left - (a.length : Int) < 0) = false by simp; omega]; rfl

def z_Shelf (a : List Int × Int) : Nat := z_IntS a.1
theorem f_szShelf {N : Nat} {a : List Int × Int} {left : Int} (hN : 1048576 < N) (h0 : 0 ≤ left) (h1 : left ≤ 1048576) (hw : Wfd (.prod (.slice (.int .i64)) (.int .i64)) a) :
    T_laws_szShelf N a left = ret (if left < (z_Shelf a : Int) then -1 else left - (z_Shelf a : Int)) := by
  unfold T_laws_szShelf
  unfold z_Shelf
  rw [show (z_IntS a.1) = z_IntS a.1 + (0) by omega]
  rw [f_szIntS hN (by omega) (by omega) hw.1]
  refine sz_bind (z2 := 0) (by omega) fun h2 => ?_
  simp only []
  exact sz_done (by omega)

def z_HoldS (l : List (Int × Int × Int)) : Nat := l.length
theorem f_szHoldS {N : Nat} {a : List (Int × Int × Int)} {left : Int} (hN : 1048576 < N) (h0 : 0 ≤ left) (h1 : left ≤ 1048576) (hw : Wfd (.slice (.prod (.int .i64) (.prod (.int .i64) (.int .i64)))) a) :
    T_laws_szHoldS N a left = ret (if left < (z_HoldS a : Int) then -1 else left - (z_HoldS a : Int)) := by
  have hl : a.length ≤ 9223372036854775807 := Nat.le_trans hw.1 (by decide)
  unfold T_laws_szHoldS z_HoldS
  have e : isub .i64 left (ilen a) = left - (a.length : Int) := isub_eq (by unfold I64 ilen; omega)
  rw [e]
  by_cases h : left < (a.length : Int)
  · rw [if_pos h, show decide (left - (a.length : Int) < 0) = true by simp; omega]; rfl
  · rw [if_neg h, show decide (left - (a.length : Int) < 0) = false by simp; omega]; rfl

def z_RowS (l : List (Int × Int)) : Nat := l.length
theorem f_szRowS {N : Nat} {a : List (Int × Int)} {left : Int} (hN : 1048576 < N) (h0 : 0 ≤ left) (h1 : left ≤ 1048576) (hw : Wfd (.slice (.prod (.int .i64) (.int .i64))) a) :
    T_laws_szRowS N a left = ret (if left < (z_RowS a : Int) then -1 else left - (z_RowS a : Int)) := by
  have hl : a.length ≤ 9223372036854775807 := Nat.le_trans hw.1 (by decide)
  unfold T_laws_szRowS z_RowS
  have e : isub .i64 left (ilen a) = left - (a.length : Int) := isub_eq (by unfold I64 ilen; omega)
  rw [e]
  by_cases h : left < (a.length : Int)
  · rw [if_pos h, show decide (left - (a.length : Int) < 0) = true by simp; omega]; rfl
  · rw [if_neg h, show decide (left - (a.length : Int) < 0) = false by simp; omega]; rfl

def z_Mark (a : Int × Int × Int × Int × List Int) : Nat := z_IntS a.2.2.2.2
theorem f_szMark {N : Nat} {a : Int × Int × Int × Int × List Int} {left : Int} (hN : 1048576 < N) (h0 : 0 ≤ left) (h1 : left ≤ 1048576) (hw : Wfd (.prod (.int .i64) (.prod (.int .i64) (.prod (.int .i64) (.prod (.int .i64) (.slice (.int .i64)))))) a) :
    T_laws_szMark N a left = ret (if left < (z_Mark a : Int) then -1 else left - (z_Mark a : Int)) := by
  unfold T_laws_szMark
  unfold z_Mark
  rw [show (z_IntS a.2.2.2.2) = z_IntS a.2.2.2.2 + (0) by omega]
  rw [f_szIntS hN (by omega) (by omega) hw.2.2.2.2]
  refine sz_bind (z2 := 0) (by omega) fun h2 => ?_
  simp only []
  exact sz_done (by omega)

def z_MarkS (l : List (Int × Int × Int × Int × List Int)) : Nat := l.length + (l.map z_Mark).sum
theorem z_MarkS_mem {l : List (Int × Int × Int × Int × List Int)} {x : Int × Int × Int × Int × List Int} (h : x ∈ l) : z_Mark x ≤ z_MarkS l := by
  have := le_sum_map z_Mark h
  unfold z_MarkS; omega
theorem z_MarkS_len {l : List (Int × Int × Int × Int × List Int)} : l.length ≤ z_MarkS l := by unfold z_MarkS; omega
theorem f_szMarkS {N : Nat} {a : List (Int × Int × Int × Int × List Int)} {left : Int} (hN : 1048576 < N) (h0 : 0 ≤ left) (h1 : left ≤ 1048576) (hw : Wfd (.slice (.prod (.int .i64) (.prod (.int .i64) (.prod (.int .i64) (.prod (.int .i64) (.slice (.int .i64))))))) a) :
    T_laws_szMarkS N a left = ret (if left < (z_MarkS a : Int) then -1 else left - (z_MarkS a : Int)) := by
  have hl : a.length ≤ 9223372036854775807 := Nat.le_trans hw.1 (by decide)
  unfold T_laws_szMarkS z_MarkS
  have e : isub .i64 left (ilen a) = left - (a.length : Int) := isub_eq (by unfold I64 ilen; omega)
  rw [e]
  by_cases h : left < (a.length : Int)
  · rw [if_pos (by omega), show decide (left - (a.length : Int) < 0) = true by simp; omega]; rfl
  · rw [show decide (left - (a.length : Int) < 0) = false by simp; omega]
    simp only [cond_false]
    refine sz_loop0 (z := z_Mark) (lp := fun n left i => T_laws_szMarkS_lp0 N a _ _ n left i) ?_ ?_ (by omega) (by omega) h1
    · intro n left j hj h0 h1
      simp only [T_laws_szMarkS_lp0, ix_lt hj, ix_inb hj, ix_get hj, ix_succ (show j < 4611686018427387904 by omega), cond_true, f_szMark hN h0 h1 (hw.2 _ (List.getElem_mem hj)), ret, Option.bind_some]
      by_cases h2 : left < (z_Mark a[j] : Int)
      · rw [if_pos h2, if_pos h2]; rfl
      · rw [if_neg h2, if_neg h2, show decide (left - (z_Mark a[j] : Int) < 0) = false by simp; omega]; rfl
    · intro n left
      simp only [T_laws_szMarkS_lp0, ix_ge (Nat.le_refl a.length), cond_false]

def z_UndoS (l : List (Int × Int × Int)) : Nat := l.length
theorem f_szUndoS {N : Nat} {a : List (Int × Int × Int)} {left : Int} (hN : 1048576 < N) (h0 : 0 ≤ left) (h1 : left ≤ 1048576) (hw : Wfd (.slice (.prod (.int .i64) (.prod (.int .i64) (.int .i64)))) a) :
    T_laws_szUndoS N a left = ret (if left < (z_UndoS a : Int) then -1 else left - (z_UndoS a : Int)) := by
  have hl : a.length ≤ 9223372036854775807 := Nat.le_trans hw.1 (by decide)
  unfold T_laws_szUndoS z_UndoS
  have e : isub .i64 left (ilen a) = left - (a.length : Int) := isub_eq (by unfold I64 ilen; omega)
  rw [e]
  by_cases h : left < (a.length : Int)
  · rw [if_pos h, show decide (left - (a.length : Int) < 0) = true by simp; omega]; rfl
  · rw [if_neg h, show decide (left - (a.length : Int) < 0) = false by simp; omega]; rfl

def z_Commit (a : Int × Int × Int × Int × Int × List (Int × Int) × List Int) : Nat := z_RowS a.2.2.2.2.2.1 + z_IntS a.2.2.2.2.2.2
theorem f_szCommit {N : Nat} {a : Int × Int × Int × Int × Int × List (Int × Int) × List Int} {left : Int} (hN : 1048576 < N) (h0 : 0 ≤ left) (h1 : left ≤ 1048576) (hw : Wfd (.prod (.int .i64) (.prod (.int .i64) (.prod (.int .i64) (.prod (.int .i64) (.prod (.int .i64) (.prod (.slice (.prod (.int .i64) (.int .i64))) (.slice (.int .i64)))))))) a) :
    T_laws_szCommit N a left = ret (if left < (z_Commit a : Int) then -1 else left - (z_Commit a : Int)) := by
  unfold T_laws_szCommit
  unfold z_Commit
  rw [show (z_RowS a.2.2.2.2.2.1 + z_IntS a.2.2.2.2.2.2) = z_RowS a.2.2.2.2.2.1 + (z_IntS a.2.2.2.2.2.2 + (0)) by omega]
  rw [f_szRowS hN (by omega) (by omega) hw.2.2.2.2.2.1]
  refine sz_bind (z2 := z_IntS a.2.2.2.2.2.2 + (0)) (by omega) fun h2 => ?_
  simp only []
  rw [f_szIntS hN (by omega) (by omega) hw.2.2.2.2.2.2]
  refine sz_bind (z2 := 0) (by omega) fun h3 => ?_
  simp only []
  exact sz_done (by omega)

def z_EntryS (l : List (Int × Int × Int)) : Nat := l.length
theorem f_szEntryS {N : Nat} {a : List (Int × Int × Int)} {left : Int} (hN : 1048576 < N) (h0 : 0 ≤ left) (h1 : left ≤ 1048576) (hw : Wfd (.slice (.prod (.int .i64) (.prod (.int .i64) (.int .i64)))) a) :
    T_laws_szEntryS N a left = ret (if left < (z_EntryS a : Int) then -1 else left - (z_EntryS a : Int)) := by
  have hl : a.length ≤ 9223372036854775807 := Nat.le_trans hw.1 (by decide)
  unfold T_laws_szEntryS z_EntryS
  have e : isub .i64 left (ilen a) = left - (a.length : Int) := isub_eq (by unfold I64 ilen; omega)
  rw [e]
  by_cases h : left < (a.length : Int)
  · rw [if_pos h, show decide (left - (a.length : Int) < 0) = true by simp; omega]; rfl
  · rw [if_neg h, show decide (left - (a.length : Int) < 0) = false by simp; omega]; rfl

def z_KidMark (a : Int × Int × List Int) : Nat := z_IntS a.2.2
theorem f_szKidMark {N : Nat} {a : Int × Int × List Int} {left : Int} (hN : 1048576 < N) (h0 : 0 ≤ left) (h1 : left ≤ 1048576) (hw : Wfd (.prod (.int .i64) (.prod (.int .i64) (.slice (.int .i64)))) a) :
    T_laws_szKidMark N a left = ret (if left < (z_KidMark a : Int) then -1 else left - (z_KidMark a : Int)) := by
  unfold T_laws_szKidMark
  unfold z_KidMark
  rw [show (z_IntS a.2.2) = z_IntS a.2.2 + (0) by omega]
  rw [f_szIntS hN (by omega) (by omega) hw.2.2]
  refine sz_bind (z2 := 0) (by omega) fun h2 => ?_
  simp only []
  exact sz_done (by omega)

def z_KidMarkS (l : List (Int × Int × List Int)) : Nat := l.length + (l.map z_KidMark).sum
theorem z_KidMarkS_mem {l : List (Int × Int × List Int)} {x : Int × Int × List Int} (h : x ∈ l) : z_KidMark x ≤ z_KidMarkS l := by
  have := le_sum_map z_KidMark h
  unfold z_KidMarkS; omega
theorem z_KidMarkS_len {l : List (Int × Int × List Int)} : l.length ≤ z_KidMarkS l := by unfold z_KidMarkS; omega
theorem f_szKidMarkS {N : Nat} {a : List (Int × Int × List Int)} {left : Int} (hN : 1048576 < N) (h0 : 0 ≤ left) (h1 : left ≤ 1048576) (hw : Wfd (.slice (.prod (.int .i64) (.prod (.int .i64) (.slice (.int .i64))))) a) :
    T_laws_szKidMarkS N a left = ret (if left < (z_KidMarkS a : Int) then -1 else left - (z_KidMarkS a : Int)) := by
  have hl : a.length ≤ 9223372036854775807 := Nat.le_trans hw.1 (by decide)
  unfold T_laws_szKidMarkS z_KidMarkS
  have e : isub .i64 left (ilen a) = left - (a.length : Int) := isub_eq (by unfold I64 ilen; omega)
  rw [e]
  by_cases h : left < (a.length : Int)
  · rw [if_pos (by omega), show decide (left - (a.length : Int) < 0) = true by simp; omega]; rfl
  · rw [show decide (left - (a.length : Int) < 0) = false by simp; omega]
    simp only [cond_false]
    refine sz_loop0 (z := z_KidMark) (lp := fun n left i => T_laws_szKidMarkS_lp0 N a _ _ n left i) ?_ ?_ (by omega) (by omega) h1
    · intro n left j hj h0 h1
      simp only [T_laws_szKidMarkS_lp0, ix_lt hj, ix_inb hj, ix_get hj, ix_succ (show j < 4611686018427387904 by omega), cond_true, f_szKidMark hN h0 h1 (hw.2 _ (List.getElem_mem hj)), ret, Option.bind_some]
      by_cases h2 : left < (z_KidMark a[j] : Int)
      · rw [if_pos h2, if_pos h2]; rfl
      · rw [if_neg h2, if_neg h2, show decide (left - (z_KidMark a[j] : Int) < 0) = false by simp; omega]; rfl
    · intro n left
      simp only [T_laws_szKidMarkS_lp0, ix_ge (Nat.le_refl a.length), cond_false]

def z_KidRun (a : Y_KidRun) : Nat := z_IntS a.2.2.2.2.2.2.1 + z_EntryS a.2.2.2.2.2.2.2.1 + z_RowS a.2.2.2.2.2.2.2.2.1 + z_KidMarkS a.2.2.2.2.2.2.2.2.2.1
theorem f_szKidRun {N : Nat} {a : Y_KidRun} {left : Int} (hN : 1048576 < N) (h0 : 0 ≤ left) (h1 : left ≤ 1048576) (hw : Wfd (TY_KidRun) a) :
    T_laws_szKidRun N a left = ret (if left < (z_KidRun a : Int) then -1 else left - (z_KidRun a : Int)) := by
  unfold T_laws_szKidRun
  unfold z_KidRun
  rw [show (z_IntS a.2.2.2.2.2.2.1 + z_EntryS a.2.2.2.2.2.2.2.1 + z_RowS a.2.2.2.2.2.2.2.2.1 + z_KidMarkS a.2.2.2.2.2.2.2.2.2.1) = z_IntS a.2.2.2.2.2.2.1 + (z_EntryS a.2.2.2.2.2.2.2.1 + (z_RowS a.2.2.2.2.2.2.2.2.1 + (z_KidMarkS a.2.2.2.2.2.2.2.2.2.1 + (0)))) by omega]
  rw [f_szIntS hN (by omega) (by omega) hw.2.2.2.2.2.2.1]
  refine sz_bind (z2 := z_EntryS a.2.2.2.2.2.2.2.1 + (z_RowS a.2.2.2.2.2.2.2.2.1 + (z_KidMarkS a.2.2.2.2.2.2.2.2.2.1 + (0)))) (by omega) fun h2 => ?_
  simp only []
  rw [f_szEntryS hN (by omega) (by omega) hw.2.2.2.2.2.2.2.1]
  refine sz_bind (z2 := z_RowS a.2.2.2.2.2.2.2.2.1 + (z_KidMarkS a.2.2.2.2.2.2.2.2.2.1 + (0))) (by omega) fun h3 => ?_
  simp only []
  rw [f_szRowS hN (by omega) (by omega) hw.2.2.2.2.2.2.2.2.1]
  refine sz_bind (z2 := z_KidMarkS a.2.2.2.2.2.2.2.2.2.1 + (0)) (by omega) fun h4 => ?_
  simp only []
  rw [f_szKidMarkS hN (by omega) (by omega) hw.2.2.2.2.2.2.2.2.2.1]
  refine sz_bind (z2 := 0) (by omega) fun h5 => ?_
  simp only []
  exact sz_done (by omega)

def z_KidRunS (l : List Y_KidRun) : Nat := l.length + (l.map z_KidRun).sum
theorem z_KidRunS_mem {l : List Y_KidRun} {x : Y_KidRun} (h : x ∈ l) : z_KidRun x ≤ z_KidRunS l := by
  have := le_sum_map z_KidRun h
  unfold z_KidRunS; omega
theorem z_KidRunS_len {l : List Y_KidRun} : l.length ≤ z_KidRunS l := by unfold z_KidRunS; omega
theorem f_szKidRunS {N : Nat} {a : List Y_KidRun} {left : Int} (hN : 1048576 < N) (h0 : 0 ≤ left) (h1 : left ≤ 1048576) (hw : Wfd (.slice (TY_KidRun)) a) :
    T_laws_szKidRunS N a left = ret (if left < (z_KidRunS a : Int) then -1 else left - (z_KidRunS a : Int)) := by
  have hl : a.length ≤ 9223372036854775807 := Nat.le_trans hw.1 (by decide)
  unfold T_laws_szKidRunS z_KidRunS
  have e : isub .i64 left (ilen a) = left - (a.length : Int) := isub_eq (by unfold I64 ilen; omega)
  rw [e]
  by_cases h : left < (a.length : Int)
  · rw [if_pos (by omega), show decide (left - (a.length : Int) < 0) = true by simp; omega]; rfl
  · rw [show decide (left - (a.length : Int) < 0) = false by simp; omega]
    simp only [cond_false]
    refine sz_loop0 (z := z_KidRun) (lp := fun n left i => T_laws_szKidRunS_lp0 N a _ _ n left i) ?_ ?_ (by omega) (by omega) h1
    · intro n left j hj h0 h1
      simp only [T_laws_szKidRunS_lp0, ix_lt hj, ix_inb hj, ix_get hj, ix_succ (show j < 4611686018427387904 by omega), cond_true, f_szKidRun hN h0 h1 (hw.2 _ (List.getElem_mem hj)), ret, Option.bind_some]
      by_cases h2 : left < (z_KidRun a[j] : Int)
      · rw [if_pos h2, if_pos h2]; rfl
      · rw [if_neg h2, if_neg h2, show decide (left - (z_KidRun a[j] : Int) < 0) = false by simp; omega]; rfl
    · intro n left
      simp only [T_laws_szKidRunS_lp0, ix_ge (Nat.le_refl a.length), cond_false]

def z_Family (a : Y_Family) : Nat := z_IntS a.2.2.2.2.1 + z_RowS a.2.2.2.2.2.1 + z_EntryS a.2.2.2.2.2.2.1 + z_IntS a.2.2.2.2.2.2.2.1 + z_RowS a.2.2.2.2.2.2.2.2.1 + z_KidRunS a.2.2.2.2.2.2.2.2.2
theorem f_szFamily {N : Nat} {a : Y_Family} {left : Int} (hN : 1048576 < N) (h0 : 0 ≤ left) (h1 : left ≤ 1048576) (hw : Wfd (TY_Family) a) :
    T_laws_szFamily N a left = ret (if left < (z_Family a : Int) then -1 else left - (z_Family a : Int)) := by
  unfold T_laws_szFamily
  unfold z_Family
  rw [show (z_IntS a.2.2.2.2.1 + z_RowS a.2.2.2.2.2.1 + z_EntryS a.2.2.2.2.2.2.1 + z_IntS a.2.2.2.2.2.2.2.1 + z_RowS a.2.2.2.2.2.2.2.2.1 + z_KidRunS a.2.2.2.2.2.2.2.2.2) = z_IntS a.2.2.2.2.1 + (z_RowS a.2.2.2.2.2.1 + (z_EntryS a.2.2.2.2.2.2.1 + (z_IntS a.2.2.2.2.2.2.2.1 + (z_RowS a.2.2.2.2.2.2.2.2.1 + (z_KidRunS a.2.2.2.2.2.2.2.2.2 + (0)))))) by omega]
  rw [f_szIntS hN (by omega) (by omega) hw.2.2.2.2.1]
  refine sz_bind (z2 := z_RowS a.2.2.2.2.2.1 + (z_EntryS a.2.2.2.2.2.2.1 + (z_IntS a.2.2.2.2.2.2.2.1 + (z_RowS a.2.2.2.2.2.2.2.2.1 + (z_KidRunS a.2.2.2.2.2.2.2.2.2 + (0)))))) (by omega) fun h2 => ?_
  simp only []
  rw [f_szRowS hN (by omega) (by omega) hw.2.2.2.2.2.1]
  refine sz_bind (z2 := z_EntryS a.2.2.2.2.2.2.1 + (z_IntS a.2.2.2.2.2.2.2.1 + (z_RowS a.2.2.2.2.2.2.2.2.1 + (z_KidRunS a.2.2.2.2.2.2.2.2.2 + (0))))) (by omega) fun h3 => ?_
  simp only []
  rw [f_szEntryS hN (by omega) (by omega) hw.2.2.2.2.2.2.1]
  refine sz_bind (z2 := z_IntS a.2.2.2.2.2.2.2.1 + (z_RowS a.2.2.2.2.2.2.2.2.1 + (z_KidRunS a.2.2.2.2.2.2.2.2.2 + (0)))) (by omega) fun h4 => ?_
  simp only []
  rw [f_szIntS hN (by omega) (by omega) hw.2.2.2.2.2.2.2.1]
  refine sz_bind (z2 := z_RowS a.2.2.2.2.2.2.2.2.1 + (z_KidRunS a.2.2.2.2.2.2.2.2.2 + (0))) (by omega) fun h5 => ?_
  simp only []
  rw [f_szRowS hN (by omega) (by omega) hw.2.2.2.2.2.2.2.2.1]
  refine sz_bind (z2 := z_KidRunS a.2.2.2.2.2.2.2.2.2 + (0)) (by omega) fun h6 => ?_
  simp only []
  rw [f_szKidRunS hN (by omega) (by omega) hw.2.2.2.2.2.2.2.2.2]
  refine sz_bind (z2 := 0) (by omega) fun h7 => ?_
  simp only []
  exact sz_done (by omega)

def z_Root (a : Y_Root) : Nat := z_IntS a.2.2.2.2.2.2.2.2.2.2.2.2.1 + z_RowS a.2.2.2.2.2.2.2.2.2.2.2.2.2.1 + z_RowS a.2.2.2.2.2.2.2.2.2.2.2.2.2.2.1 + z_MarkS a.2.2.2.2.2.2.2.2.2.2.2.2.2.2.2.1 + z_UndoS a.2.2.2.2.2.2.2.2.2.2.2.2.2.2.2.2.1 + z_IntS a.2.2.2.2.2.2.2.2.2.2.2.2.2.2.2.2.2.1 + z_Commit a.2.2.2.2.2.2.2.2.2.2.2.2.2.2.2.2.2.2.2.2.1 + z_Family a.2.2.2.2.2.2.2.2.2.2.2.2.2.2.2.2.2.2.2.2.2
theorem f_szRoot {N : Nat} {a : Y_Root} {left : Int} (hN : 1048576 < N) (h0 : 0 ≤ left) (h1 : left ≤ 1048576) (hw : Wfd (TY_Root) a) :
    T_laws_szRoot N a left = ret (if left < (z_Root a : Int) then -1 else left - (z_Root a : Int)) := by
  unfold T_laws_szRoot
  unfold z_Root
  rw [show (z_IntS a.2.2.2.2.2.2.2.2.2.2.2.2.1 + z_RowS a.2.2.2.2.2.2.2.2.2.2.2.2.2.1 + z_RowS a.2.2.2.2.2.2.2.2.2.2.2.2.2.2.1 + z_MarkS a.2.2.2.2.2.2.2.2.2.2.2.2.2.2.2.1 + z_UndoS a.2.2.2.2.2.2.2.2.2.2.2.2.2.2.2.2.1 + z_IntS a.2.2.2.2.2.2.2.2.2.2.2.2.2.2.2.2.2.1 + z_Commit a.2.2.2.2.2.2.2.2.2.2.2.2.2.2.2.2.2.2.2.2.1 + z_Family a.2.2.2.2.2.2.2.2.2.2.2.2.2.2.2.2.2.2.2.2.2) = z_IntS a.2.2.2.2.2.2.2.2.2.2.2.2.1 + (z_RowS a.2.2.2.2.2.2.2.2.2.2.2.2.2.1 + (z_RowS a.2.2.2.2.2.2.2.2.2.2.2.2.2.2.1 + (z_MarkS a.2.2.2.2.2.2.2.2.2.2.2.2.2.2.2.1 + (z_UndoS a.2.2.2.2.2.2.2.2.2.2.2.2.2.2.2.2.1 + (z_IntS a.2.2.2.2.2.2.2.2.2.2.2.2.2.2.2.2.2.1 + (z_Commit a.2.2.2.2.2.2.2.2.2.2.2.2.2.2.2.2.2.2.2.2.1 + (z_Family a.2.2.2.2.2.2.2.2.2.2.2.2.2.2.2.2.2.2.2.2.2 + (0)))))))) by omega]
  rw [f_szIntS hN (by omega) (by omega) hw.2.2.2.2.2.2.2.2.2.2.2.2.1]
  refine sz_bind (z2 := z_RowS a.2.2.2.2.2.2.2.2.2.2.2.2.2.1 + (z_RowS a.2.2.2.2.2.2.2.2.2.2.2.2.2.2.1 + (z_MarkS a.2.2.2.2.2.2.2.2.2.2.2.2.2.2.2.1 + (z_UndoS a.2.2.2.2.2.2.2.2.2.2.2.2.2.2.2.2.1 + (z_IntS a.2.2.2.2.2.2.2.2.2.2.2.2.2.2.2.2.2.1 + (z_Commit a.2.2.2.2.2.2.2.2.2.2.2.2.2.2.2.2.2.2.2.2.1 + (z_Family a.2.2.2.2.2.2.2.2.2.2.2.2.2.2.2.2.2.2.2.2.2 + (0)))))))) (by omega) fun h2 => ?_
  simp only []
  rw [f_szRowS hN (by omega) (by omega) hw.2.2.2.2.2.2.2.2.2.2.2.2.2.1]
  refine sz_bind (z2 := z_RowS a.2.2.2.2.2.2.2.2.2.2.2.2.2.2.1 + (z_MarkS a.2.2.2.2.2.2.2.2.2.2.2.2.2.2.2.1 + (z_UndoS a.2.2.2.2.2.2.2.2.2.2.2.2.2.2.2.2.1 + (z_IntS a.2.2.2.2.2.2.2.2.2.2.2.2.2.2.2.2.2.1 + (z_Commit a.2.2.2.2.2.2.2.2.2.2.2.2.2.2.2.2.2.2.2.2.1 + (z_Family a.2.2.2.2.2.2.2.2.2.2.2.2.2.2.2.2.2.2.2.2.2 + (0))))))) (by omega) fun h3 => ?_
  simp only []
  rw [f_szRowS hN (by omega) (by omega) hw.2.2.2.2.2.2.2.2.2.2.2.2.2.2.1]
  refine sz_bind (z2 := z_MarkS a.2.2.2.2.2.2.2.2.2.2.2.2.2.2.2.1 + (z_UndoS a.2.2.2.2.2.2.2.2.2.2.2.2.2.2.2.2.1 + (z_IntS a.2.2.2.2.2.2.2.2.2.2.2.2.2.2.2.2.2.1 + (z_Commit a.2.2.2.2.2.2.2.2.2.2.2.2.2.2.2.2.2.2.2.2.1 + (z_Family a.2.2.2.2.2.2.2.2.2.2.2.2.2.2.2.2.2.2.2.2.2 + (0)))))) (by omega) fun h4 => ?_
  simp only []
  rw [f_szMarkS hN (by omega) (by omega) hw.2.2.2.2.2.2.2.2.2.2.2.2.2.2.2.1]
  refine sz_bind (z2 := z_UndoS a.2.2.2.2.2.2.2.2.2.2.2.2.2.2.2.2.1 + (z_IntS a.2.2.2.2.2.2.2.2.2.2.2.2.2.2.2.2.2.1 + (z_Commit a.2.2.2.2.2.2.2.2.2.2.2.2.2.2.2.2.2.2.2.2.1 + (z_Family a.2.2.2.2.2.2.2.2.2.2.2.2.2.2.2.2.2.2.2.2.2 + (0))))) (by omega) fun h5 => ?_
  simp only []
  rw [f_szUndoS hN (by omega) (by omega) hw.2.2.2.2.2.2.2.2.2.2.2.2.2.2.2.2.1]
  refine sz_bind (z2 := z_IntS a.2.2.2.2.2.2.2.2.2.2.2.2.2.2.2.2.2.1 + (z_Commit a.2.2.2.2.2.2.2.2.2.2.2.2.2.2.2.2.2.2.2.2.1 + (z_Family a.2.2.2.2.2.2.2.2.2.2.2.2.2.2.2.2.2.2.2.2.2 + (0)))) (by omega) fun h6 => ?_
  simp only []
  rw [f_szIntS hN (by omega) (by omega) hw.2.2.2.2.2.2.2.2.2.2.2.2.2.2.2.2.2.1]
  refine sz_bind (z2 := z_Commit a.2.2.2.2.2.2.2.2.2.2.2.2.2.2.2.2.2.2.2.2.1 + (z_Family a.2.2.2.2.2.2.2.2.2.2.2.2.2.2.2.2.2.2.2.2.2 + (0))) (by omega) fun h7 => ?_
  simp only []
  rw [f_szCommit hN (by omega) (by omega) hw.2.2.2.2.2.2.2.2.2.2.2.2.2.2.2.2.2.2.2.2.1]
  refine sz_bind (z2 := z_Family a.2.2.2.2.2.2.2.2.2.2.2.2.2.2.2.2.2.2.2.2.2 + (0)) (by omega) fun h8 => ?_
  simp only []
  rw [f_szFamily hN (by omega) (by omega) hw.2.2.2.2.2.2.2.2.2.2.2.2.2.2.2.2.2.2.2.2.2]
  refine sz_bind (z2 := 0) (by omega) fun h9 => ?_
  simp only []
  exact sz_done (by omega)

def z_RootS (l : List Y_Root) : Nat := l.length + (l.map z_Root).sum
theorem z_RootS_mem {l : List Y_Root} {x : Y_Root} (h : x ∈ l) : z_Root x ≤ z_RootS l := by
  have := le_sum_map z_Root h
  unfold z_RootS; omega
theorem z_RootS_len {l : List Y_Root} : l.length ≤ z_RootS l := by unfold z_RootS; omega
theorem f_szRootS {N : Nat} {a : List Y_Root} {left : Int} (hN : 1048576 < N) (h0 : 0 ≤ left) (h1 : left ≤ 1048576) (hw : Wfd (.slice (TY_Root)) a) :
    T_laws_szRootS N a left = ret (if left < (z_RootS a : Int) then -1 else left - (z_RootS a : Int)) := by
  have hl : a.length ≤ 9223372036854775807 := Nat.le_trans hw.1 (by decide)
  unfold T_laws_szRootS z_RootS
  have e : isub .i64 left (ilen a) = left - (a.length : Int) := isub_eq (by unfold I64 ilen; omega)
  rw [e]
  by_cases h : left < (a.length : Int)
  · rw [if_pos (by omega), show decide (left - (a.length : Int) < 0) = true by simp; omega]; rfl
  · rw [show decide (left - (a.length : Int) < 0) = false by simp; omega]
    simp only [cond_false]
    refine sz_loop0 (z := z_Root) (lp := fun n left i => T_laws_szRootS_lp0 N a _ _ n left i) ?_ ?_ (by omega) (by omega) h1
    · intro n left j hj h0 h1
      simp only [T_laws_szRootS_lp0, ix_lt hj, ix_inb hj, ix_get hj, ix_succ (show j < 4611686018427387904 by omega), cond_true, f_szRoot hN h0 h1 (hw.2 _ (List.getElem_mem hj)), ret, Option.bind_some]
      by_cases h2 : left < (z_Root a[j] : Int)
      · rw [if_pos h2, if_pos h2]; rfl
      · rw [if_neg h2, if_neg h2, show decide (left - (z_Root a[j] : Int) < 0) = false by simp; omega]; rfl
    · intro n left
      simp only [T_laws_szRootS_lp0, ix_ge (Nat.le_refl a.length), cond_false]

def z_Wrote (a : Int × Int × List (Int × Int)) : Nat := z_RowS a.2.2
theorem f_szWrote {N : Nat} {a : Int × Int × List (Int × Int)} {left : Int} (hN : 1048576 < N) (h0 : 0 ≤ left) (h1 : left ≤ 1048576) (hw : Wfd (.prod (.int .i64) (.prod (.int .i64) (.slice (.prod (.int .i64) (.int .i64))))) a) :
    T_laws_szWrote N a left = ret (if left < (z_Wrote a : Int) then -1 else left - (z_Wrote a : Int)) := by
  unfold T_laws_szWrote
  unfold z_Wrote
  rw [show (z_RowS a.2.2) = z_RowS a.2.2 + (0) by omega]
  rw [f_szRowS hN (by omega) (by omega) hw.2.2]
  refine sz_bind (z2 := 0) (by omega) fun h2 => ?_
  simp only []
  exact sz_done (by omega)

def z_WroteS (l : List (Int × Int × List (Int × Int))) : Nat := l.length + (l.map z_Wrote).sum
theorem z_WroteS_mem {l : List (Int × Int × List (Int × Int))} {x : Int × Int × List (Int × Int)} (h : x ∈ l) : z_Wrote x ≤ z_WroteS l := by
  have := le_sum_map z_Wrote h
  unfold z_WroteS; omega
theorem z_WroteS_len {l : List (Int × Int × List (Int × Int))} : l.length ≤ z_WroteS l := by unfold z_WroteS; omega
theorem f_szWroteS {N : Nat} {a : List (Int × Int × List (Int × Int))} {left : Int} (hN : 1048576 < N) (h0 : 0 ≤ left) (h1 : left ≤ 1048576) (hw : Wfd (.slice (.prod (.int .i64) (.prod (.int .i64) (.slice (.prod (.int .i64) (.int .i64)))))) a) :
    T_laws_szWroteS N a left = ret (if left < (z_WroteS a : Int) then -1 else left - (z_WroteS a : Int)) := by
  have hl : a.length ≤ 9223372036854775807 := Nat.le_trans hw.1 (by decide)
  unfold T_laws_szWroteS z_WroteS
  have e : isub .i64 left (ilen a) = left - (a.length : Int) := isub_eq (by unfold I64 ilen; omega)
  rw [e]
  by_cases h : left < (a.length : Int)
  · rw [if_pos (by omega), show decide (left - (a.length : Int) < 0) = true by simp; omega]; rfl
  · rw [show decide (left - (a.length : Int) < 0) = false by simp; omega]
    simp only [cond_false]
    refine sz_loop0 (z := z_Wrote) (lp := fun n left i => T_laws_szWroteS_lp0 N a _ _ n left i) ?_ ?_ (by omega) (by omega) h1
    · intro n left j hj h0 h1
      simp only [T_laws_szWroteS_lp0, ix_lt hj, ix_inb hj, ix_get hj, ix_succ (show j < 4611686018427387904 by omega), cond_true, f_szWrote hN h0 h1 (hw.2 _ (List.getElem_mem hj)), ret, Option.bind_some]
      by_cases h2 : left < (z_Wrote a[j] : Int)
      · rw [if_pos h2, if_pos h2]; rfl
      · rw [if_neg h2, if_neg h2, show decide (left - (z_Wrote a[j] : Int) < 0) = false by simp; omega]; rfl
    · intro n left
      simp only [T_laws_szWroteS_lp0, ix_ge (Nat.le_refl a.length), cond_false]

def z_World (a : Y_World) : Nat := z_Mem a.2.2.1 + z_Shelf a.2.2.2.1 + z_HoldS a.2.2.2.2.1 + z_RootS a.2.2.2.2.2.1 + z_WroteS a.2.2.2.2.2.2
theorem f_szWorld {N : Nat} {a : Y_World} {left : Int} (hN : 1048576 < N) (h0 : 0 ≤ left) (h1 : left ≤ 1048576) (hw : Wfd (TY_World) a) :
    T_laws_szWorld N a left = ret (if left < (z_World a : Int) then -1 else left - (z_World a : Int)) := by
  unfold T_laws_szWorld
  unfold z_World
  rw [show (z_Mem a.2.2.1 + z_Shelf a.2.2.2.1 + z_HoldS a.2.2.2.2.1 + z_RootS a.2.2.2.2.2.1 + z_WroteS a.2.2.2.2.2.2) = z_Mem a.2.2.1 + (z_Shelf a.2.2.2.1 + (z_HoldS a.2.2.2.2.1 + (z_RootS a.2.2.2.2.2.1 + (z_WroteS a.2.2.2.2.2.2 + (0))))) by omega]
  rw [f_szMem hN (by omega) (by omega) hw.2.2.1]
  refine sz_bind (z2 := z_Shelf a.2.2.2.1 + (z_HoldS a.2.2.2.2.1 + (z_RootS a.2.2.2.2.2.1 + (z_WroteS a.2.2.2.2.2.2 + (0))))) (by omega) fun h2 => ?_
  simp only []
  rw [f_szShelf hN (by omega) (by omega) hw.2.2.2.1]
  refine sz_bind (z2 := z_HoldS a.2.2.2.2.1 + (z_RootS a.2.2.2.2.2.1 + (z_WroteS a.2.2.2.2.2.2 + (0)))) (by omega) fun h3 => ?_
  simp only []
  rw [f_szHoldS hN (by omega) (by omega) hw.2.2.2.2.1]
  refine sz_bind (z2 := z_RootS a.2.2.2.2.2.1 + (z_WroteS a.2.2.2.2.2.2 + (0))) (by omega) fun h4 => ?_
  simp only []
  rw [f_szRootS hN (by omega) (by omega) hw.2.2.2.2.2.1]
  refine sz_bind (z2 := z_WroteS a.2.2.2.2.2.2 + (0)) (by omega) fun h5 => ?_
  simp only []
  rw [f_szWroteS hN (by omega) (by omega) hw.2.2.2.2.2.2]
  refine sz_bind (z2 := 0) (by omega) fun h6 => ?_
  simp only []
  exact sz_done (by omega)

theorem f_toWord {N : Nat} {a : Int × Int × Int} (hN : 1048576 < N) : T_laws_toWord N a = ret a := by
  unfold T_laws_toWord
  all_goals rfl

theorem f_toWordS {N : Nat} {a : List (Int × Int × Int)} (h : z_WordS a ≤ 1048576) (hN : 1048576 < N) : T_laws_toWordS N a = ret a := by
  have hl : a.length ≤ 1048576 := h
  unfold T_laws_toWordS
  rw [make_ok a (by omega), toNat_ilen]
  simp only [cond_true]
  have h1 := loop_ix0 (l := a) (V := List (Int × Int × Int)) (R := Unit × (List (Int × Int × Int) × Unit)) (lp := fun n j v => T_laws_toWordS_lp0 N a (fun i8 t9 l10 => some ((), (l10, ()))) n j v) (n := N) (by omega)
    (body := fun j x v k => bif inb j v.length then k (v.set j.toNat x) else none) (K := fun _ v => some ((), (v, ())))
    (fun n i v hi => by simp only [T_laws_toWordS_lp0, ix_lt hi, ix_inb hi, ix_get hi, ix_succ (show i < 4611686018427387904 by omega), cond_true, f_toWord hN, ret, Option.bind_some])
    (fun n v => by simp only [T_laws_toWordS_lp0, ix_ge (Nat.le_refl a.length), cond_false]) (List.replicate a.length ((0 : Int), ((0 : Int), (0 : Int))))
  refine h1.trans ?_
  rw [foldK_copy (f := id) a (fun j x v k _ => rfl)]
  simp

theorem f_toMem {N : Nat} {a : Int × List (Int × Int × Int)} (h : z_Mem a ≤ 1048576) (hN : 1048576 < N) : T_laws_toMem N a = ret a := by
  unfold z_Mem at h
  unfold T_laws_toMem
  simp only [f_toWordS (a := a.2) (show z_WordS a.2 ≤ 1048576 by omega) hN, ret, Option.bind_some]
  all_goals rfl

theorem f_toIntS {N : Nat} {a : List Int} (h : z_IntS a ≤ 1048576) (hN : 1048576 < N) : T_laws_toIntS N a = ret a := by
  have hl : a.length ≤ 1048576 := h
  unfold T_laws_toIntS
  rw [make_ok a (by omega), toNat_ilen]
  simp only [cond_true]
  have h1 := loop_ix0 (l := a) (V := List Int) (R := Unit × (List Int × Unit)) (lp := fun n j v => T_laws_toIntS_lp0 N a (fun i8 t9 l10 => some ((), (l10, ()))) n j v) (n := N) (by omega)
    (body := fun j x v k => bif inb j v.length then k (v.set j.toNat x) else none) (K := fun _ v => some ((), (v, ())))
    (fun n i v hi => by simp only [T_laws_toIntS_lp0, ix_lt hi, ix_inb hi, ix_get hi, ix_succ (show i < 4611686018427387904 by omega), cond_true, ret, Option.bind_some])
    (fun n v => by simp only [T_laws_toIntS_lp0, ix_ge (Nat.le_refl a.length), cond_false]) (List.replicate a.length (0 : Int))
  refine h1.trans ?_
  rw [foldK_copy (f := id) a (fun j x v k _ => rfl)]
  simp

theorem f_toShelf {N : Nat} {a : List Int × Int} (h : z_Shelf a ≤ 1048576) (hN : 1048576 < N) : T_laws_toShelf N a = ret a := by
  unfold z_Shelf at h
  unfold T_laws_toShelf
  simp only [f_toIntS (a := a.1) (show z_IntS a.1 ≤ 1048576 by omega) hN, ret, Option.bind_some]
  all_goals rfl

theorem f_toHold {N : Nat} {a : Int × Int × Int} (hN : 1048576 < N) : T_laws_toHold N a = ret a := by
  unfold T_laws_toHold
  all_goals rfl

theorem f_toHoldS {N : Nat} {a : List (Int × Int × Int)} (h : z_HoldS a ≤ 1048576) (hN : 1048576 < N) : T_laws_toHoldS N a = ret a := by
  have hl : a.length ≤ 1048576 := h
  unfold T_laws_toHoldS
  rw [make_ok a (by omega), toNat_ilen]
  simp only [cond_true]
  have h1 := loop_ix0 (l := a) (V := List (Int × Int × Int)) (R := Unit × (List (Int × Int × Int) × Unit)) (lp := fun n j v => T_laws_toHoldS_lp0 N a (fun i8 t9 l10 => some ((), (l10, ()))) n j v) (n := N) (by omega)
    (body := fun j x v k => bif inb j v.length then k (v.set j.toNat x) else none) (K := fun _ v => some ((), (v, ())))
    (fun n i v hi => by simp only [T_laws_toHoldS_lp0, ix_lt hi, ix_inb hi, ix_get hi, ix_succ (show i < 4611686018427387904 by omega), cond_true, f_toHold hN, ret, Option.bind_some])
    (fun n v => by simp only [T_laws_toHoldS_lp0, ix_ge (Nat.le_refl a.length), cond_false]) (List.replicate a.length ((0 : Int), ((0 : Int), (0 : Int))))
  refine h1.trans ?_
  rw [foldK_copy (f := id) a (fun j x v k _ => rfl)]
  simp

theorem f_toRow {N : Nat} {a : Int × Int} (hN : 1048576 < N) : T_laws_toRow N a = ret a := by
  unfold T_laws_toRow
  all_goals rfl

theorem f_toRowS {N : Nat} {a : List (Int × Int)} (h : z_RowS a ≤ 1048576) (hN : 1048576 < N) : T_laws_toRowS N a = ret a := by
  have hl : a.length ≤ 1048576 := h
  unfold T_laws_toRowS
  rw [make_ok a (by omega), toNat_ilen]
  simp only [cond_true]
  have h1 := loop_ix0 (l := a) (V := List (Int × Int)) (R := Unit × (List (Int × Int) × Unit)) (lp := fun n j v => T_laws_toRowS_lp0 N a (fun i8 t9 l10 => some ((), (l10, ()))) n j v) (n := N) (by omega)
    (body := fun j x v k => bif inb j v.length then k (v.set j.toNat x) else none) (K := fun _ v => some ((), (v, ())))
    (fun n i v hi => by simp only [T_laws_toRowS_lp0, ix_lt hi, ix_inb hi, ix_get hi, ix_succ (show i < 4611686018427387904 by omega), cond_true, f_toRow hN, ret, Option.bind_some])
    (fun n v => by simp only [T_laws_toRowS_lp0, ix_ge (Nat.le_refl a.length), cond_false]) (List.replicate a.length ((0 : Int), (0 : Int)))
  refine h1.trans ?_
  rw [foldK_copy (f := id) a (fun j x v k _ => rfl)]
  simp

theorem f_toMark {N : Nat} {a : Int × Int × Int × Int × List Int} (h : z_Mark a ≤ 1048576) (hN : 1048576 < N) : T_laws_toMark N a = ret a := by
  unfold z_Mark at h
  unfold T_laws_toMark
  simp only [f_toIntS (a := a.2.2.2.2) (show z_IntS a.2.2.2.2 ≤ 1048576 by omega) hN, ret, Option.bind_some]
  all_goals rfl

theorem f_toMarkS {N : Nat} {a : List (Int × Int × Int × Int × List Int)} (h : z_MarkS a ≤ 1048576) (hN : 1048576 < N) : T_laws_toMarkS N a = ret a := by
  have hl : a.length ≤ 1048576 := Nat.le_trans z_MarkS_len h
  unfold T_laws_toMarkS
  rw [make_ok a (by omega), toNat_ilen]
  simp only [cond_true]
  have h1 := loop_ix0 (l := a) (V := List (Int × Int × Int × Int × List Int)) (R := Unit × (List (Int × Int × Int × Int × List Int) × Unit)) (lp := fun n j v => T_laws_toMarkS_lp0 N a (fun i8 t9 l10 => some ((), (l10, ()))) n j v) (n := N) (by omega)
    (body := fun j x v k => bif inb j v.length then k (v.set j.toNat x) else none) (K := fun _ v => some ((), (v, ())))
    (fun n i v hi => by simp only [T_laws_toMarkS_lp0, ix_lt hi, ix_inb hi, ix_get hi, ix_succ (show i < 4611686018427387904 by omega), cond_true, f_toMark (Nat.le_trans (z_MarkS_mem (List.getElem_mem hi)) h) hN, ret, Option.bind_some])
    (fun n v => by simp only [T_laws_toMarkS_lp0, ix_ge (Nat.le_refl a.length), cond_false]) (List.replicate a.length ((0 : Int), ((0 : Int), ((0 : Int), ((0 : Int), ([] : List Int))))))
  refine h1.trans ?_
  rw [foldK_copy (f := id) a (fun j x v k _ => rfl)]
  simp

theorem f_toUndo {N : Nat} {a : Int × Int × Int} (hN : 1048576 < N) : T_laws_toUndo N a = ret a := by
  unfold T_laws_toUndo
  all_goals rfl

theorem f_toUndoS {N : Nat} {a : List (Int × Int × Int)} (h : z_UndoS a ≤ 1048576) (hN : 1048576 < N) : T_laws_toUndoS N a = ret a := by
  have hl : a.length ≤ 1048576 := h
  unfold T_laws_toUndoS
  rw [make_ok a (by omega), toNat_ilen]
  simp only [cond_true]
  have h1 := loop_ix0 (l := a) (V := List (Int × Int × Int)) (R := Unit × (List (Int × Int × Int) × Unit)) (lp := fun n j v => T_laws_toUndoS_lp0 N a (fun i8 t9 l10 => some ((), (l10, ()))) n j v) (n := N) (by omega)
    (body := fun j x v k => bif inb j v.length then k (v.set j.toNat x) else none) (K := fun _ v => some ((), (v, ())))
    (fun n i v hi => by simp only [T_laws_toUndoS_lp0, ix_lt hi, ix_inb hi, ix_get hi, ix_succ (show i < 4611686018427387904 by omega), cond_true, f_toUndo hN, ret, Option.bind_some])
    (fun n v => by simp only [T_laws_toUndoS_lp0, ix_ge (Nat.le_refl a.length), cond_false]) (List.replicate a.length ((0 : Int), ((0 : Int), (0 : Int))))
  refine h1.trans ?_
  rw [foldK_copy (f := id) a (fun j x v k _ => rfl)]
  simp

theorem f_toProbe {N : Nat} {a : Int × Int × Int × Int} (hN : 1048576 < N) : T_laws_toProbe N a = ret a := by
  unfold T_laws_toProbe
  all_goals rfl

theorem f_toCommit {N : Nat} {a : Int × Int × Int × Int × Int × List (Int × Int) × List Int} (h : z_Commit a ≤ 1048576) (hN : 1048576 < N) : T_laws_toCommit N a = ret a := by
  unfold z_Commit at h
  unfold T_laws_toCommit
  simp only [f_toRowS (a := a.2.2.2.2.2.1) (show z_RowS a.2.2.2.2.2.1 ≤ 1048576 by omega) hN, f_toIntS (a := a.2.2.2.2.2.2) (show z_IntS a.2.2.2.2.2.2 ≤ 1048576 by omega) hN, ret, Option.bind_some]
  all_goals rfl

theorem f_toEntry {N : Nat} {a : Int × Int × Int} (hN : 1048576 < N) : T_laws_toEntry N a = ret a := by
  unfold T_laws_toEntry
  all_goals rfl

theorem f_toEntryS {N : Nat} {a : List (Int × Int × Int)} (h : z_EntryS a ≤ 1048576) (hN : 1048576 < N) : T_laws_toEntryS N a = ret a := by
  have hl : a.length ≤ 1048576 := h
  unfold T_laws_toEntryS
  rw [make_ok a (by omega), toNat_ilen]
  simp only [cond_true]
  have h1 := loop_ix0 (l := a) (V := List (Int × Int × Int)) (R := Unit × (List (Int × Int × Int) × Unit)) (lp := fun n j v => T_laws_toEntryS_lp0 N a (fun i8 t9 l10 => some ((), (l10, ()))) n j v) (n := N) (by omega)
    (body := fun j x v k => bif inb j v.length then k (v.set j.toNat x) else none) (K := fun _ v => some ((), (v, ())))
    (fun n i v hi => by simp only [T_laws_toEntryS_lp0, ix_lt hi, ix_inb hi, ix_get hi, ix_succ (show i < 4611686018427387904 by omega), cond_true, f_toEntry hN, ret, Option.bind_some])
    (fun n v => by simp only [T_laws_toEntryS_lp0, ix_ge (Nat.le_refl a.length), cond_false]) (List.replicate a.length ((0 : Int), ((0 : Int), (0 : Int))))
  refine h1.trans ?_
  rw [foldK_copy (f := id) a (fun j x v k _ => rfl)]
  simp

theorem f_toKidMark {N : Nat} {a : Int × Int × List Int} (h : z_KidMark a ≤ 1048576) (hN : 1048576 < N) : T_laws_toKidMark N a = ret a := by
  unfold z_KidMark at h
  unfold T_laws_toKidMark
  simp only [f_toIntS (a := a.2.2) (show z_IntS a.2.2 ≤ 1048576 by omega) hN, ret, Option.bind_some]
  all_goals rfl

theorem f_toKidMarkS {N : Nat} {a : List (Int × Int × List Int)} (h : z_KidMarkS a ≤ 1048576) (hN : 1048576 < N) : T_laws_toKidMarkS N a = ret a := by
  have hl : a.length ≤ 1048576 := Nat.le_trans z_KidMarkS_len h
  unfold T_laws_toKidMarkS
  rw [make_ok a (by omega), toNat_ilen]
  simp only [cond_true]
  have h1 := loop_ix0 (l := a) (V := List (Int × Int × List Int)) (R := Unit × (List (Int × Int × List Int) × Unit)) (lp := fun n j v => T_laws_toKidMarkS_lp0 N a (fun i8 t9 l10 => some ((), (l10, ()))) n j v) (n := N) (by omega)
    (body := fun j x v k => bif inb j v.length then k (v.set j.toNat x) else none) (K := fun _ v => some ((), (v, ())))
    (fun n i v hi => by simp only [T_laws_toKidMarkS_lp0, ix_lt hi, ix_inb hi, ix_get hi, ix_succ (show i < 4611686018427387904 by omega), cond_true, f_toKidMark (Nat.le_trans (z_KidMarkS_mem (List.getElem_mem hi)) h) hN, ret, Option.bind_some])
    (fun n v => by simp only [T_laws_toKidMarkS_lp0, ix_ge (Nat.le_refl a.length), cond_false]) (List.replicate a.length ((0 : Int), ((0 : Int), ([] : List Int))))
  refine h1.trans ?_
  rw [foldK_copy (f := id) a (fun j x v k _ => rfl)]
  simp

theorem f_toKidRun {N : Nat} {a : Y_KidRun} (h : z_KidRun a ≤ 1048576) (hN : 1048576 < N) : T_laws_toKidRun N a = ret a := by
  unfold z_KidRun at h
  unfold T_laws_toKidRun
  simp only [f_toIntS (a := a.2.2.2.2.2.2.1) (show z_IntS a.2.2.2.2.2.2.1 ≤ 1048576 by omega) hN, f_toEntryS (a := a.2.2.2.2.2.2.2.1) (show z_EntryS a.2.2.2.2.2.2.2.1 ≤ 1048576 by omega) hN, f_toRowS (a := a.2.2.2.2.2.2.2.2.1) (show z_RowS a.2.2.2.2.2.2.2.2.1 ≤ 1048576 by omega) hN, f_toKidMarkS (a := a.2.2.2.2.2.2.2.2.2.1) (show z_KidMarkS a.2.2.2.2.2.2.2.2.2.1 ≤ 1048576 by omega) hN, f_toProbe (a := a.2.2.2.2.2.2.2.2.2.2.2) hN, ret, Option.bind_some]
  all_goals rfl

theorem f_toKidRunS {N : Nat} {a : List Y_KidRun} (h : z_KidRunS a ≤ 1048576) (hN : 1048576 < N) : T_laws_toKidRunS N a = ret a := by
  have hl : a.length ≤ 1048576 := Nat.le_trans z_KidRunS_len h
  unfold T_laws_toKidRunS
  rw [make_ok a (by omega), toNat_ilen]
  simp only [cond_true]
  have h1 := loop_ix0 (l := a) (V := List Y_KidRun) (R := Unit × (List Y_KidRun × Unit)) (lp := fun n j v => T_laws_toKidRunS_lp0 N a (fun i8 t9 l10 => some ((), (l10, ()))) n j v) (n := N) (by omega)
    (body := fun j x v k => bif inb j v.length then k (v.set j.toNat x) else none) (K := fun _ v => some ((), (v, ())))
    (fun n i v hi => by simp only [T_laws_toKidRunS_lp0, ix_lt hi, ix_inb hi, ix_get hi, ix_succ (show i < 4611686018427387904 by omega), cond_true, f_toKidRun (Nat.le_trans (z_KidRunS_mem (List.getElem_mem hi)) h) hN, ret, Option.bind_some])
    (fun n v => by simp only [T_laws_toKidRunS_lp0, ix_ge (Nat.le_refl a.length), cond_false]) (List.replicate a.length (d_KidRun))
  refine h1.trans ?_
  rw [foldK_copy (f := id) a (fun j x v k _ => rfl)]
  simp

theorem f_toFamily {N : Nat} {a : Y_Family} (h : z_Family a ≤ 1048576) (hN : 1048576 < N) : T_laws_toFamily N a = ret a := by
  unfold z_Family at h
  unfold T_laws_toFamily
  simp only [f_toIntS (a := a.2.2.2.2.1) (show z_IntS a.2.2.2.2.1 ≤ 1048576 by omega) hN, f_toRowS (a := a.2.2.2.2.2.1) (show z_RowS a.2.2.2.2.2.1 ≤ 1048576 by omega) hN, f_toEntryS (a := a.2.2.2.2.2.2.1) (show z_EntryS a.2.2.2.2.2.2.1 ≤ 1048576 by omega) hN, f_toIntS (a := a.2.2.2.2.2.2.2.1) (show z_IntS a.2.2.2.2.2.2.2.1 ≤ 1048576 by omega) hN, f_toRowS (a := a.2.2.2.2.2.2.2.2.1) (show z_RowS a.2.2.2.2.2.2.2.2.1 ≤ 1048576 by omega) hN, f_toKidRunS (a := a.2.2.2.2.2.2.2.2.2) (show z_KidRunS a.2.2.2.2.2.2.2.2.2 ≤ 1048576 by omega) hN, ret, Option.bind_some]
  all_goals rfl

theorem f_toRoot {N : Nat} {a : Y_Root} (h : z_Root a ≤ 1048576) (hN : 1048576 < N) : T_laws_toRoot N a = ret a := by
  unfold z_Root at h
  unfold T_laws_toRoot
  simp only [f_toIntS (a := a.2.2.2.2.2.2.2.2.2.2.2.2.1) (show z_IntS a.2.2.2.2.2.2.2.2.2.2.2.2.1 ≤ 1048576 by omega) hN, f_toRowS (a := a.2.2.2.2.2.2.2.2.2.2.2.2.2.1) (show z_RowS a.2.2.2.2.2.2.2.2.2.2.2.2.2.1 ≤ 1048576 by omega) hN, f_toRowS (a := a.2.2.2.2.2.2.2.2.2.2.2.2.2.2.1) (show z_RowS a.2.2.2.2.2.2.2.2.2.2.2.2.2.2.1 ≤ 1048576 by omega) hN, f_toMarkS (a := a.2.2.2.2.2.2.2.2.2.2.2.2.2.2.2.1) (show z_MarkS a.2.2.2.2.2.2.2.2.2.2.2.2.2.2.2.1 ≤ 1048576 by omega) hN, f_toUndoS (a := a.2.2.2.2.2.2.2.2.2.2.2.2.2.2.2.2.1) (show z_UndoS a.2.2.2.2.2.2.2.2.2.2.2.2.2.2.2.2.1 ≤ 1048576 by omega) hN, f_toIntS (a := a.2.2.2.2.2.2.2.2.2.2.2.2.2.2.2.2.2.1) (show z_IntS a.2.2.2.2.2.2.2.2.2.2.2.2.2.2.2.2.2.1 ≤ 1048576 by omega) hN, f_toProbe (a := a.2.2.2.2.2.2.2.2.2.2.2.2.2.2.2.2.2.2.2.1) hN, f_toCommit (a := a.2.2.2.2.2.2.2.2.2.2.2.2.2.2.2.2.2.2.2.2.1) (show z_Commit a.2.2.2.2.2.2.2.2.2.2.2.2.2.2.2.2.2.2.2.2.1 ≤ 1048576 by omega) hN, f_toFamily (a := a.2.2.2.2.2.2.2.2.2.2.2.2.2.2.2.2.2.2.2.2.2) (show z_Family a.2.2.2.2.2.2.2.2.2.2.2.2.2.2.2.2.2.2.2.2.2 ≤ 1048576 by omega) hN, ret, Option.bind_some]
  all_goals rfl

theorem f_toRootS {N : Nat} {a : List Y_Root} (h : z_RootS a ≤ 1048576) (hN : 1048576 < N) : T_laws_toRootS N a = ret a := by
  have hl : a.length ≤ 1048576 := Nat.le_trans z_RootS_len h
  unfold T_laws_toRootS
  rw [make_ok a (by omega), toNat_ilen]
  simp only [cond_true]
  have h1 := loop_ix0 (l := a) (V := List Y_Root) (R := Unit × (List Y_Root × Unit)) (lp := fun n j v => T_laws_toRootS_lp0 N a (fun i8 t9 l10 => some ((), (l10, ()))) n j v) (n := N) (by omega)
    (body := fun j x v k => bif inb j v.length then k (v.set j.toNat x) else none) (K := fun _ v => some ((), (v, ())))
    (fun n i v hi => by simp only [T_laws_toRootS_lp0, ix_lt hi, ix_inb hi, ix_get hi, ix_succ (show i < 4611686018427387904 by omega), cond_true, f_toRoot (Nat.le_trans (z_RootS_mem (List.getElem_mem hi)) h) hN, ret, Option.bind_some])
    (fun n v => by simp only [T_laws_toRootS_lp0, ix_ge (Nat.le_refl a.length), cond_false]) (List.replicate a.length (d_Root))
  refine h1.trans ?_
  rw [foldK_copy (f := id) a (fun j x v k _ => rfl)]
  simp

theorem f_toWrote {N : Nat} {a : Int × Int × List (Int × Int)} (h : z_Wrote a ≤ 1048576) (hN : 1048576 < N) : T_laws_toWrote N a = ret a := by
  unfold z_Wrote at h
  unfold T_laws_toWrote
  simp only [f_toRowS (a := a.2.2) (show z_RowS a.2.2 ≤ 1048576 by omega) hN, ret, Option.bind_some]
  all_goals rfl

theorem f_toWroteS {N : Nat} {a : List (Int × Int × List (Int × Int))} (h : z_WroteS a ≤ 1048576) (hN : 1048576 < N) : T_laws_toWroteS N a = ret a := by
  have hl : a.length ≤ 1048576 := Nat.le_trans z_WroteS_len h
  unfold T_laws_toWroteS
  rw [make_ok a (by omega), toNat_ilen]
  simp only [cond_true]
  have h1 := loop_ix0 (l := a) (V := List (Int × Int × List (Int × Int))) (R := Unit × (List (Int × Int × List (Int × Int)) × Unit)) (lp := fun n j v => T_laws_toWroteS_lp0 N a (fun i8 t9 l10 => some ((), (l10, ()))) n j v) (n := N) (by omega)
    (body := fun j x v k => bif inb j v.length then k (v.set j.toNat x) else none) (K := fun _ v => some ((), (v, ())))
    (fun n i v hi => by simp only [T_laws_toWroteS_lp0, ix_lt hi, ix_inb hi, ix_get hi, ix_succ (show i < 4611686018427387904 by omega), cond_true, f_toWrote (Nat.le_trans (z_WroteS_mem (List.getElem_mem hi)) h) hN, ret, Option.bind_some])
    (fun n v => by simp only [T_laws_toWroteS_lp0, ix_ge (Nat.le_refl a.length), cond_false]) (List.replicate a.length ((0 : Int), ((0 : Int), ([] : List (Int × Int)))))
  refine h1.trans ?_
  rw [foldK_copy (f := id) a (fun j x v k _ => rfl)]
  simp

theorem f_toWorld {N : Nat} {a : Y_World} (h : z_World a ≤ 1048576) (hN : 1048576 < N) : T_laws_toWorld N a = ret a := by
  unfold z_World at h
  unfold T_laws_toWorld
  simp only [f_toMem (a := a.2.2.1) (show z_Mem a.2.2.1 ≤ 1048576 by omega) hN, f_toShelf (a := a.2.2.2.1) (show z_Shelf a.2.2.2.1 ≤ 1048576 by omega) hN, f_toHoldS (a := a.2.2.2.2.1) (show z_HoldS a.2.2.2.2.1 ≤ 1048576 by omega) hN, f_toRootS (a := a.2.2.2.2.2.1) (show z_RootS a.2.2.2.2.2.1 ≤ 1048576 by omega) hN, f_toWroteS (a := a.2.2.2.2.2.2) (show z_WroteS a.2.2.2.2.2.2 ≤ 1048576 by omega) hN, ret, Option.bind_some]
  all_goals rfl

theorem f_eqWord {N : Nat} {a b : Int × Int × Int} (hN : 1048576 < N) : T_laws_eqWord N a b = ret (same a b) := by
  unfold T_laws_eqWord
  simp only [bne_same, beq_same, seq_same, ret, Option.bind_some]
  exact eq_pair (eq_pair (eq_last))

theorem f_eqWordS {N : Nat} {a b : List (Int × Int × Int)} (h : z_WordS a ≤ 1048576) (hN : 1048576 < N) : T_laws_eqWordS N a b = ret (same a b) := by
  have hl0 : a.length ≤ 1048576 := h
  unfold T_laws_eqWordS
  by_cases hl : a.length = b.length
  · have e : (ilen a != ilen b) = false := by simp [ilen, hl]
    rw [e]
    simp only [cond_false]
    have h1 := loop_ix0 (l := a) (V := Unit) (R := Unit × (Bool × Unit)) (lp := fun n j v => T_laws_eqWordS_lp0 N a b (some ((), (false, ()))) (fun i8 t9 => some ((), (true, ()))) n j) (n := N) (by omega)
      (body := fun j x v k => bif inb j b.length then (bif !same x (b.getD j.toNat ((0 : Int), ((0 : Int), (0 : Int)))) then some ((), (false, ())) else k v) else none) (K := fun _ v => some ((), (true, ())))
      (fun n i v hi => by simp only [T_laws_eqWordS_lp0, ix_lt hi, ix_inb hi, ix_get hi, ix_succ (show i < 4611686018427387904 by omega), cond_true, f_eqWord hN, ret, Option.bind_some])
      (fun n v => by simp only [T_laws_eqWordS_lp0, ix_ge (Nat.le_refl a.length), cond_false]) ()
    refine h1.trans ?_
    rw [foldK_same (E := fun _ => some ((), (false, ()))) (z := ((0 : Int), ((0 : Int), (0 : Int)))) a b 0 () (by omega) (fun j x v k _ => rfl)]
    simp only [List.drop_zero]
    cases same a b <;> rfl
  · have e : (ilen a != ilen b) = true := by simp [ilen]; omega
    have e2 : a ≠ b := fun h => hl (by rw [h])
    rw [e, same_ne e2]
    rfl

theorem f_eqMem {N : Nat} {a b : Int × List (Int × Int × Int)} (h : z_Mem a ≤ 1048576) (hN : 1048576 < N) : T_laws_eqMem N a b = ret (same a b) := by
  unfold z_Mem at h
  unfold T_laws_eqMem
  simp only [bne_same, beq_same, seq_same, f_eqWordS (a := a.2) (show z_WordS a.2 ≤ 1048576 by omega) hN, ret, Option.bind_some]
  exact eq_pair (eq_last)

theorem f_eqIntS {N : Nat} {a b : List Int} (h : z_IntS a ≤ 1048576) (hN : 1048576 < N) : T_laws_eqIntS N a b = ret (same a b) := by
  have hl0 : a.length ≤ 1048576 := h
  unfold T_laws_eqIntS
  by_cases hl : a.length = b.length
  · have e : (ilen a != ilen b) = false := by simp [ilen, hl]
    rw [e]
    simp only [cond_false]
    have h1 := loop_ix0 (l := a) (V := Unit) (R := Unit × (Bool × Unit)) (lp := fun n j v => T_laws_eqIntS_lp0 N a b (some ((), (false, ()))) (fun i8 t9 => some ((), (true, ()))) n j) (n := N) (by omega)
      (body := fun j x v k => bif inb j b.length then (bif !same x (b.getD j.toNat (0 : Int)) then some ((), (false, ())) else k v) else none) (K := fun _ v => some ((), (true, ())))
      (fun n i v hi => by simp only [T_laws_eqIntS_lp0, ix_lt hi, ix_inb hi, ix_get hi, ix_succ (show i < 4611686018427387904 by omega), cond_true, bne_same, beq_same, seq_same, ret, Option.bind_some])
      (fun n v => by simp only [T_laws_eqIntS_lp0, ix_ge (Nat.le_refl a.length), cond_false]) ()
    refine h1.trans ?_
    rw [foldK_same (E := fun _ => some ((), (false, ()))) (z := (0 : Int)) a b 0 () (by omega) (fun j x v k _ => rfl)]
    simp only [List.drop_zero]
    cases same a b <;> rfl
  · have e : (ilen a != ilen b) = true := by simp [ilen]; omega
    have e2 : a ≠ b := fun h => hl (by rw [h])
    rw [e, same_ne e2]
    rfl

theorem f_eqShelf {N : Nat} {a b : List Int × Int} (h : z_Shelf a ≤ 1048576) (hN : 1048576 < N) : T_laws_eqShelf N a b = ret (same a b) := by
  unfold z_Shelf at h
  unfold T_laws_eqShelf
  simp only [bne_same, beq_same, seq_same, f_eqIntS (a := a.1) (show z_IntS a.1 ≤ 1048576 by omega) hN, ret, Option.bind_some]
  exact eq_pair (eq_last)

theorem f_eqHold {N : Nat} {a b : Int × Int × Int} (hN : 1048576 < N) : T_laws_eqHold N a b = ret (same a b) := by
  unfold T_laws_eqHold
  simp only [bne_same, beq_same, seq_same, ret, Option.bind_some]
  exact eq_pair (eq_pair (eq_last))

theorem f_eqHoldS {N : Nat} {a b : List (Int × Int × Int)} (h : z_HoldS a ≤ 1048576) (hN : 1048576 < N) : T_laws_eqHoldS N a b = ret (same a b) := by
  have hl0 : a.length ≤ 1048576 := h
  unfold T_laws_eqHoldS
  by_cases hl : a.length = b.length
  · have e : (ilen a != ilen b) = false := by simp [ilen, hl]
    rw [e]
    simp only [cond_false]
    have h1 := loop_ix0 (l := a) (V := Unit) (R := Unit × (Bool × Unit)) (lp := fun n j v => T_laws_eqHoldS_lp0 N a b (some ((), (false, ()))) (fun i8 t9 => some ((), (true, ()))) n j) (n := N) (by omega)
      (body := fun j x v k => bif inb j b.length then (bif !same x (b.getD j.toNat ((0 : Int), ((0 : Int), (0 : Int)))) then some ((), (false, ())) else k v) else none) (K := fun _ v => some ((), (true, ())))
      (fun n i v hi => by simp only [T_laws_eqHoldS_lp0, ix_lt hi, ix_inb hi, ix_get hi, ix_succ (show i < 4611686018427387904 by omega), cond_true, f_eqHold hN, ret, Option.bind_some])
      (fun n v => by simp only [T_laws_eqHoldS_lp0, ix_ge (Nat.le_refl a.length), cond_false]) ()
    refine h1.trans ?_
    rw [foldK_same (E := fun _ => some ((), (false, ()))) (z := ((0 : Int), ((0 : Int), (0 : Int)))) a b 0 () (by omega) (fun j x v k _ => rfl)]
    simp only [List.drop_zero]
    cases same a b <;> rfl
  · have e : (ilen a != ilen b) = true := by simp [ilen]; omega
    have e2 : a ≠ b := fun h => hl (by rw [h])
    rw [e, same_ne e2]
    rfl

theorem f_eqRow {N : Nat} {a b : Int × Int} (hN : 1048576 < N) : T_laws_eqRow N a b = ret (same a b) := by
  unfold T_laws_eqRow
  simp only [bne_same, beq_same, seq_same, ret, Option.bind_some]
  exact eq_pair (eq_last)

theorem f_eqRowS {N : Nat} {a b : List (Int × Int)} (h : z_RowS a ≤ 1048576) (hN : 1048576 < N) : T_laws_eqRowS N a b = ret (same a b) := by
  have hl0 : a.length ≤ 1048576 := h
  unfold T_laws_eqRowS
  by_cases hl : a.length = b.length
  · have e : (ilen a != ilen b) = false := by simp [ilen, hl]
    rw [e]
    simp only [cond_false]
    have h1 := loop_ix0 (l := a) (V := Unit) (R := Unit × (Bool × Unit)) (lp := fun n j v => T_laws_eqRowS_lp0 N a b (some ((), (false, ()))) (fun i8 t9 => some ((), (true, ()))) n j) (n := N) (by omega)
      (body := fun j x v k => bif inb j b.length then (bif !same x (b.getD j.toNat ((0 : Int), (0 : Int))) then some ((), (false, ())) else k v) else none) (K := fun _ v => some ((), (true, ())))
      (fun n i v hi => by simp only [T_laws_eqRowS_lp0, ix_lt hi, ix_inb hi, ix_get hi, ix_succ (show i < 4611686018427387904 by omega), cond_true, f_eqRow hN, ret, Option.bind_some])
      (fun n v => by simp only [T_laws_eqRowS_lp0, ix_ge (Nat.le_refl a.length), cond_false]) ()
    refine h1.trans ?_
    rw [foldK_same (E := fun _ => some ((), (false, ()))) (z := ((0 : Int), (0 : Int))) a b 0 () (by omega) (fun j x v k _ => rfl)]
    simp only [List.drop_zero]
    cases same a b <;> rfl
  · have e : (ilen a != ilen b) = true := by simp [ilen]; omega
    have e2 : a ≠ b := fun h => hl (by rw [h])
    rw [e, same_ne e2]
    rfl

theorem f_eqEntry {N : Nat} {a b : Int × Int × Int} (hN : 1048576 < N) : T_laws_eqEntry N a b = ret (same a b) := by
  unfold T_laws_eqEntry
  simp only [bne_same, beq_same, seq_same, ret, Option.bind_some]
  exact eq_pair (eq_pair (eq_last))

theorem f_eqEntryS {N : Nat} {a b : List (Int × Int × Int)} (h : z_EntryS a ≤ 1048576) (hN : 1048576 < N) : T_laws_eqEntryS N a b = ret (same a b) := by
  have hl0 : a.length ≤ 1048576 := h
  unfold T_laws_eqEntryS
  by_cases hl : a.length = b.length
  · have e : (ilen a != ilen b) = false := by simp [ilen, hl]
    rw [e]
    simp only [cond_false]
    have h1 := loop_ix0 (l := a) (V := Unit) (R := Unit × (Bool × Unit)) (lp := fun n j v => T_laws_eqEntryS_lp0 N a b (some ((), (false, ()))) (fun i8 t9 => some ((), (true, ()))) n j) (n := N) (by omega)
      (body := fun j x v k => bif inb j b.length then (bif !same x (b.getD j.toNat ((0 : Int), ((0 : Int), (0 : Int)))) then some ((), (false, ())) else k v) else none) (K := fun _ v => some ((), (true, ())))
      (fun n i v hi => by simp only [T_laws_eqEntryS_lp0, ix_lt hi, ix_inb hi, ix_get hi, ix_succ (show i < 4611686018427387904 by omega), cond_true, f_eqEntry hN, ret, Option.bind_some])
      (fun n v => by simp only [T_laws_eqEntryS_lp0, ix_ge (Nat.le_refl a.length), cond_false]) ()
    refine h1.trans ?_
    rw [foldK_same (E := fun _ => some ((), (false, ()))) (z := ((0 : Int), ((0 : Int), (0 : Int)))) a b 0 () (by omega) (fun j x v k _ => rfl)]
    simp only [List.drop_zero]
    cases same a b <;> rfl
  · have e : (ilen a != ilen b) = true := by simp [ilen]; omega
    have e2 : a ≠ b := fun h => hl (by rw [h])
    rw [e, same_ne e2]
    rfl

theorem f_eqProbe {N : Nat} {a b : Int × Int × Int × Int} (hN : 1048576 < N) : T_laws_eqProbe N a b = ret (same a b) := by
  unfold T_laws_eqProbe
  simp only [bne_same, beq_same, seq_same, ret, Option.bind_some]
  exact eq_pair (eq_pair (eq_pair (eq_last)))

theorem f_eqKidMark {N : Nat} {a b : Int × Int × List Int} (h : z_KidMark a ≤ 1048576) (hN : 1048576 < N) : T_laws_eqKidMark N a b = ret (same a b) := by
  unfold z_KidMark at h
  unfold T_laws_eqKidMark
  simp only [bne_same, beq_same, seq_same, f_eqIntS (a := a.2.2) (show z_IntS a.2.2 ≤ 1048576 by omega) hN, ret, Option.bind_some]
  exact eq_pair (eq_pair (eq_last))

theorem f_eqKidMarkS {N : Nat} {a b : List (Int × Int × List Int)} (h : z_KidMarkS a ≤ 1048576) (hN : 1048576 < N) : T_laws_eqKidMarkS N a b = ret (same a b) := by
  have hl0 : a.length ≤ 1048576 := Nat.le_trans z_KidMarkS_len h
  unfold T_laws_eqKidMarkS
  by_cases hl : a.length = b.length
  · have e : (ilen a != ilen b) = false := by simp [ilen, hl]
    rw [e]
    simp only [cond_false]
    have h1 := loop_ix0 (l := a) (V := Unit) (R := Unit × (Bool × Unit)) (lp := fun n j v => T_laws_eqKidMarkS_lp0 N a b (some ((), (false, ()))) (fun i8 t9 => some ((), (true, ()))) n j) (n := N) (by omega)
      (body := fun j x v k => bif inb j b.length then (bif !same x (b.getD j.toNat ((0 : Int), ((0 : Int), ([] : List Int)))) then some ((), (false, ())) else k v) else none) (K := fun _ v => some ((), (true, ())))
      (fun n i v hi => by simp only [T_laws_eqKidMarkS_lp0, ix_lt hi, ix_inb hi, ix_get hi, ix_succ (show i < 4611686018427387904 by omega), cond_true, f_eqKidMark (Nat.le_trans (z_KidMarkS_mem (List.getElem_mem hi)) h) hN, ret, Option.bind_some])
      (fun n v => by simp only [T_laws_eqKidMarkS_lp0, ix_ge (Nat.le_refl a.length), cond_false]) ()
    refine h1.trans ?_
    rw [foldK_same (E := fun _ => some ((), (false, ()))) (z := ((0 : Int), ((0 : Int), ([] : List Int)))) a b 0 () (by omega) (fun j x v k _ => rfl)]
    simp only [List.drop_zero]
    cases same a b <;> rfl
  · have e : (ilen a != ilen b) = true := by simp [ilen]; omega
    have e2 : a ≠ b := fun h => hl (by rw [h])
    rw [e, same_ne e2]
    rfl

theorem f_eqKidRun {N : Nat} {a b : Y_KidRun} (h : z_KidRun a ≤ 1048576) (hN : 1048576 < N) : T_laws_eqKidRun N a b = ret (same a b) := by
  unfold z_KidRun at h
  unfold T_laws_eqKidRun
  simp only [bne_same, beq_same, seq_same, f_eqIntS (a := a.2.2.2.2.2.2.1) (show z_IntS a.2.2.2.2.2.2.1 ≤ 1048576 by omega) hN, f_eqEntryS (a := a.2.2.2.2.2.2.2.1) (show z_EntryS a.2.2.2.2.2.2.2.1 ≤ 1048576 by omega) hN, f_eqRowS (a := a.2.2.2.2.2.2.2.2.1) (show z_RowS a.2.2.2.2.2.2.2.2.1 ≤ 1048576 by omega) hN, f_eqKidMarkS (a := a.2.2.2.2.2.2.2.2.2.1) (show z_KidMarkS a.2.2.2.2.2.2.2.2.2.1 ≤ 1048576 by omega) hN, f_eqProbe (a := a.2.2.2.2.2.2.2.2.2.2.2) hN, ret, Option.bind_some]
  exact eq_pair (eq_pair (eq_pair (eq_pair (eq_pair (eq_pair (eq_pair (eq_pair (eq_pair (eq_pair (eq_pair (eq_last)))))))))))

theorem f_eqKidRunS {N : Nat} {a b : List Y_KidRun} (h : z_KidRunS a ≤ 1048576) (hN : 1048576 < N) : T_laws_eqKidRunS N a b = ret (same a b) := by
  have hl0 : a.length ≤ 1048576 := Nat.le_trans z_KidRunS_len h
  unfold T_laws_eqKidRunS
  by_cases hl : a.length = b.length
  · have e : (ilen a != ilen b) = false := by simp [ilen, hl]
    rw [e]
    simp only [cond_false]
    have h1 := loop_ix0 (l := a) (V := Unit) (R := Unit × (Bool × Unit)) (lp := fun n j v => T_laws_eqKidRunS_lp0 N a b (some ((), (false, ()))) (fun i8 t9 => some ((), (true, ()))) n j) (n := N) (by omega)
      (body := fun j x v k => bif inb j b.length then (bif !same x (b.getD j.toNat (d_KidRun)) then some ((), (false, ())) else k v) else none) (K := fun _ v => some ((), (true, ())))
      (fun n i v hi => by simp only [T_laws_eqKidRunS_lp0, ix_lt hi, ix_inb hi, ix_get hi, ix_succ (show i < 4611686018427387904 by omega), cond_true, f_eqKidRun (Nat.le_trans (z_KidRunS_mem (List.getElem_mem hi)) h) hN, ret, Option.bind_some])
      (fun n v => by simp only [T_laws_eqKidRunS_lp0, ix_ge (Nat.le_refl a.length), cond_false]) ()
    refine h1.trans ?_
    rw [foldK_same (E := fun _ => some ((), (false, ()))) (z := (d_KidRun)) a b 0 () (by omega) (fun j x v k _ => rfl)]
    simp only [List.drop_zero]
    cases same a b <;> rfl
  · have e : (ilen a != ilen b) = true := by simp [ilen]; omega
    have e2 : a ≠ b := fun h => hl (by rw [h])
    rw [e, same_ne e2]
    rfl

theorem f_eqFamily {N : Nat} {a b : Y_Family} (h : z_Family a ≤ 1048576) (hN : 1048576 < N) : T_laws_eqFamily N a b = ret (same a b) := by
  unfold z_Family at h
  unfold T_laws_eqFamily
  simp only [bne_same, beq_same, seq_same, f_eqIntS (a := a.2.2.2.2.1) (show z_IntS a.2.2.2.2.1 ≤ 1048576 by omega) hN, f_eqRowS (a := a.2.2.2.2.2.1) (show z_RowS a.2.2.2.2.2.1 ≤ 1048576 by omega) hN, f_eqEntryS (a := a.2.2.2.2.2.2.1) (show z_EntryS a.2.2.2.2.2.2.1 ≤ 1048576 by omega) hN, f_eqIntS (a := a.2.2.2.2.2.2.2.1) (show z_IntS a.2.2.2.2.2.2.2.1 ≤ 1048576 by omega) hN, f_eqRowS (a := a.2.2.2.2.2.2.2.2.1) (show z_RowS a.2.2.2.2.2.2.2.2.1 ≤ 1048576 by omega) hN, f_eqKidRunS (a := a.2.2.2.2.2.2.2.2.2) (show z_KidRunS a.2.2.2.2.2.2.2.2.2 ≤ 1048576 by omega) hN, ret, Option.bind_some]
  exact eq_pair (eq_pair (eq_pair (eq_pair (eq_pair (eq_pair (eq_pair (eq_pair (eq_pair (eq_last)))))))))

theorem f_eqMark {N : Nat} {a b : Int × Int × Int × Int × List Int} (h : z_Mark a ≤ 1048576) (hN : 1048576 < N) : T_laws_eqMark N a b = ret (same a b) := by
  unfold z_Mark at h
  unfold T_laws_eqMark
  simp only [bne_same, beq_same, seq_same, f_eqIntS (a := a.2.2.2.2) (show z_IntS a.2.2.2.2 ≤ 1048576 by omega) hN, ret, Option.bind_some]
  exact eq_pair (eq_pair (eq_pair (eq_pair (eq_last))))

theorem f_eqMarkS {N : Nat} {a b : List (Int × Int × Int × Int × List Int)} (h : z_MarkS a ≤ 1048576) (hN : 1048576 < N) : T_laws_eqMarkS N a b = ret (same a b) := by
  have hl0 : a.length ≤ 1048576 := Nat.le_trans z_MarkS_len h
  unfold T_laws_eqMarkS
  by_cases hl : a.length = b.length
  · have e : (ilen a != ilen b) = false := by simp [ilen, hl]
    rw [e]
    simp only [cond_false]
    have h1 := loop_ix0 (l := a) (V := Unit) (R := Unit × (Bool × Unit)) (lp := fun n j v => T_laws_eqMarkS_lp0 N a b (some ((), (false, ()))) (fun i8 t9 => some ((), (true, ()))) n j) (n := N) (by omega)
      (body := fun j x v k => bif inb j b.length then (bif !same x (b.getD j.toNat ((0 : Int), ((0 : Int), ((0 : Int), ((0 : Int), ([] : List Int)))))) then some ((), (false, ())) else k v) else none) (K := fun _ v => some ((), (true, ())))
      (fun n i v hi => by simp only [T_laws_eqMarkS_lp0, ix_lt hi, ix_inb hi, ix_get hi, ix_succ (show i < 4611686018427387904 by omega), cond_true, f_eqMark (Nat.le_trans (z_MarkS_mem (List.getElem_mem hi)) h) hN, ret, Option.bind_some])
      (fun n v => by simp only [T_laws_eqMarkS_lp0, ix_ge (Nat.le_refl a.length), cond_false]) ()
    refine h1.trans ?_
    rw [foldK_same (E := fun _ => some ((), (false, ()))) (z := ((0 : Int), ((0 : Int), ((0 : Int), ((0 : Int), ([] : List Int)))))) a b 0 () (by omega) (fun j x v k _ => rfl)]
    simp only [List.drop_zero]
    cases same a b <;> rfl
  · have e : (ilen a != ilen b) = true := by simp [ilen]; omega
    have e2 : a ≠ b := fun h => hl (by rw [h])
    rw [e, same_ne e2]
    rfl

theorem f_eqUndo {N : Nat} {a b : Int × Int × Int} (hN : 1048576 < N) : T_laws_eqUndo N a b = ret (same a b) := by
  unfold T_laws_eqUndo
  simp only [bne_same, beq_same, seq_same, ret, Option.bind_some]
  exact eq_pair (eq_pair (eq_last))

theorem f_eqUndoS {N : Nat} {a b : List (Int × Int × Int)} (h : z_UndoS a ≤ 1048576) (hN : 1048576 < N) : T_laws_eqUndoS N a b = ret (same a b) := by
  have hl0 : a.length ≤ 1048576 := h
  unfold T_laws_eqUndoS
  by_cases hl : a.length = b.length
  · have e : (ilen a != ilen b) = false := by simp [ilen, hl]
    rw [e]
    simp only [cond_false]
    have h1 := loop_ix0 (l := a) (V := Unit) (R := Unit × (Bool × Unit)) (lp := fun n j v => T_laws_eqUndoS_lp0 N a b (some ((), (false, ()))) (fun i8 t9 => some ((), (true, ()))) n j) (n := N) (by omega)
      (body := fun j x v k => bif inb j b.length then (bif !same x (b.getD j.toNat ((0 : Int), ((0 : Int), (0 : Int)))) then some ((), (false, ())) else k v) else none) (K := fun _ v => some ((), (true, ())))
      (fun n i v hi => by simp only [T_laws_eqUndoS_lp0, ix_lt hi, ix_inb hi, ix_get hi, ix_succ (show i < 4611686018427387904 by omega), cond_true, f_eqUndo hN, ret, Option.bind_some])
      (fun n v => by simp only [T_laws_eqUndoS_lp0, ix_ge (Nat.le_refl a.length), cond_false]) ()
    refine h1.trans ?_
    rw [foldK_same (E := fun _ => some ((), (false, ()))) (z := ((0 : Int), ((0 : Int), (0 : Int)))) a b 0 () (by omega) (fun j x v k _ => rfl)]
    simp only [List.drop_zero]
    cases same a b <;> rfl
  · have e : (ilen a != ilen b) = true := by simp [ilen]; omega
    have e2 : a ≠ b := fun h => hl (by rw [h])
    rw [e, same_ne e2]
    rfl

theorem f_eqCommit {N : Nat} {a b : Int × Int × Int × Int × Int × List (Int × Int) × List Int} (h : z_Commit a ≤ 1048576) (hN : 1048576 < N) : T_laws_eqCommit N a b = ret (same a b) := by
  unfold z_Commit at h
  unfold T_laws_eqCommit
  simp only [bne_same, beq_same, seq_same, f_eqRowS (a := a.2.2.2.2.2.1) (show z_RowS a.2.2.2.2.2.1 ≤ 1048576 by omega) hN, f_eqIntS (a := a.2.2.2.2.2.2) (show z_IntS a.2.2.2.2.2.2 ≤ 1048576 by omega) hN, ret, Option.bind_some]
  exact eq_pair (eq_pair (eq_pair (eq_pair (eq_pair (eq_pair (eq_last))))))

theorem f_eqRoot {N : Nat} {a b : Y_Root} (h : z_Root a ≤ 1048576) (hN : 1048576 < N) : T_laws_eqRoot N a b = ret (same a b) := by
  unfold z_Root at h
  unfold T_laws_eqRoot
  simp only [bne_same, beq_same, seq_same, f_eqIntS (a := a.2.2.2.2.2.2.2.2.2.2.2.2.1) (show z_IntS a.2.2.2.2.2.2.2.2.2.2.2.2.1 ≤ 1048576 by omega) hN, f_eqRowS (a := a.2.2.2.2.2.2.2.2.2.2.2.2.2.1) (show z_RowS a.2.2.2.2.2.2.2.2.2.2.2.2.2.1 ≤ 1048576 by omega) hN, f_eqRowS (a := a.2.2.2.2.2.2.2.2.2.2.2.2.2.2.1) (show z_RowS a.2.2.2.2.2.2.2.2.2.2.2.2.2.2.1 ≤ 1048576 by omega) hN, f_eqMarkS (a := a.2.2.2.2.2.2.2.2.2.2.2.2.2.2.2.1) (show z_MarkS a.2.2.2.2.2.2.2.2.2.2.2.2.2.2.2.1 ≤ 1048576 by omega) hN, f_eqUndoS (a := a.2.2.2.2.2.2.2.2.2.2.2.2.2.2.2.2.1) (show z_UndoS a.2.2.2.2.2.2.2.2.2.2.2.2.2.2.2.2.1 ≤ 1048576 by omega) hN, f_eqIntS (a := a.2.2.2.2.2.2.2.2.2.2.2.2.2.2.2.2.2.1) (show z_IntS a.2.2.2.2.2.2.2.2.2.2.2.2.2.2.2.2.2.1 ≤ 1048576 by omega) hN, f_eqProbe (a := a.2.2.2.2.2.2.2.2.2.2.2.2.2.2.2.2.2.2.2.1) hN, f_eqCommit (a := a.2.2.2.2.2.2.2.2.2.2.2.2.2.2.2.2.2.2.2.2.1) (show z_Commit a.2.2.2.2.2.2.2.2.2.2.2.2.2.2.2.2.2.2.2.2.1 ≤ 1048576 by omega) hN, f_eqFamily (a := a.2.2.2.2.2.2.2.2.2.2.2.2.2.2.2.2.2.2.2.2.2) (show z_Family a.2.2.2.2.2.2.2.2.2.2.2.2.2.2.2.2.2.2.2.2.2 ≤ 1048576 by omega) hN, ret, Option.bind_some]
  exact eq_pair (eq_pair (eq_pair (eq_pair (eq_pair (eq_pair (eq_pair (eq_pair (eq_pair (eq_pair (eq_pair (eq_pair (eq_pair (eq_pair (eq_pair (eq_pair (eq_pair (eq_pair (eq_pair (eq_pair (eq_pair (eq_last)))))))))))))))))))))

theorem f_eqRootS {N : Nat} {a b : List Y_Root} (h : z_RootS a ≤ 1048576) (hN : 1048576 < N) : T_laws_eqRootS N a b = ret (same a b) := by
  have hl0 : a.length ≤ 1048576 := Nat.le_trans z_RootS_len h
  unfold T_laws_eqRootS
  by_cases hl : a.length = b.length
  · have e : (ilen a != ilen b) = false := by simp [ilen, hl]
    rw [e]
    simp only [cond_false]
    have h1 := loop_ix0 (l := a) (V := Unit) (R := Unit × (Bool × Unit)) (lp := fun n j v => T_laws_eqRootS_lp0 N a b (some ((), (false, ()))) (fun i8 t9 => some ((), (true, ()))) n j) (n := N) (by omega)
      (body := fun j x v k => bif inb j b.length then (bif !same x (b.getD j.toNat (d_Root)) then some ((), (false, ())) else k v) else none) (K := fun _ v => some ((), (true, ())))
      (fun n i v hi => by simp only [T_laws_eqRootS_lp0, ix_lt hi, ix_inb hi, ix_get hi, ix_succ (show i < 4611686018427387904 by omega), cond_true, f_eqRoot (Nat.le_trans (z_RootS_mem (List.getElem_mem hi)) h) hN, ret, Option.bind_some])
      (fun n v => by simp only [T_laws_eqRootS_lp0, ix_ge (Nat.le_refl a.length), cond_false]) ()
    refine h1.trans ?_
    rw [foldK_same (E := fun _ => some ((), (false, ()))) (z := (d_Root)) a b 0 () (by omega) (fun j x v k _ => rfl)]
    simp only [List.drop_zero]
    cases same a b <;> rfl
  · have e : (ilen a != ilen b) = true := by simp [ilen]; omega
    have e2 : a ≠ b := fun h => hl (by rw [h])
    rw [e, same_ne e2]
    rfl

theorem f_eqWrote {N : Nat} {a b : Int × Int × List (Int × Int)} (h : z_Wrote a ≤ 1048576) (hN : 1048576 < N) : T_laws_eqWrote N a b = ret (same a b) := by
  unfold z_Wrote at h
  unfold T_laws_eqWrote
  simp only [bne_same, beq_same, seq_same, f_eqRowS (a := a.2.2) (show z_RowS a.2.2 ≤ 1048576 by omega) hN, ret, Option.bind_some]
  exact eq_pair (eq_pair (eq_last))

theorem f_eqWroteS {N : Nat} {a b : List (Int × Int × List (Int × Int))} (h : z_WroteS a ≤ 1048576) (hN : 1048576 < N) : T_laws_eqWroteS N a b = ret (same a b) := by
  have hl0 : a.length ≤ 1048576 := Nat.le_trans z_WroteS_len h
  unfold T_laws_eqWroteS
  by_cases hl : a.length = b.length
  · have e : (ilen a != ilen b) = false := by simp [ilen, hl]
    rw [e]
    simp only [cond_false]
    have h1 := loop_ix0 (l := a) (V := Unit) (R := Unit × (Bool × Unit)) (lp := fun n j v => T_laws_eqWroteS_lp0 N a b (some ((), (false, ()))) (fun i8 t9 => some ((), (true, ()))) n j) (n := N) (by omega)
      (body := fun j x v k => bif inb j b.length then (bif !same x (b.getD j.toNat ((0 : Int), ((0 : Int), ([] : List (Int × Int))))) then some ((), (false, ())) else k v) else none) (K := fun _ v => some ((), (true, ())))
      (fun n i v hi => by simp only [T_laws_eqWroteS_lp0, ix_lt hi, ix_inb hi, ix_get hi, ix_succ (show i < 4611686018427387904 by omega), cond_true, f_eqWrote (Nat.le_trans (z_WroteS_mem (List.getElem_mem hi)) h) hN, ret, Option.bind_some])
      (fun n v => by simp only [T_laws_eqWroteS_lp0, ix_ge (Nat.le_refl a.length), cond_false]) ()
    refine h1.trans ?_
    rw [foldK_same (E := fun _ => some ((), (false, ()))) (z := ((0 : Int), ((0 : Int), ([] : List (Int × Int))))) a b 0 () (by omega) (fun j x v k _ => rfl)]
    simp only [List.drop_zero]
    cases same a b <;> rfl
  · have e : (ilen a != ilen b) = true := by simp [ilen]; omega
    have e2 : a ≠ b := fun h => hl (by rw [h])
    rw [e, same_ne e2]
    rfl

theorem f_eqWorld {N : Nat} {a b : Y_World} (h : z_World a ≤ 1048576) (hN : 1048576 < N) : T_laws_eqWorld N a b = ret (same a b) := by
  unfold z_World at h
  unfold T_laws_eqWorld
  simp only [bne_same, beq_same, seq_same, f_eqMem (a := a.2.2.1) (show z_Mem a.2.2.1 ≤ 1048576 by omega) hN, f_eqShelf (a := a.2.2.2.1) (show z_Shelf a.2.2.2.1 ≤ 1048576 by omega) hN, f_eqHoldS (a := a.2.2.2.2.1) (show z_HoldS a.2.2.2.2.1 ≤ 1048576 by omega) hN, f_eqRootS (a := a.2.2.2.2.2.1) (show z_RootS a.2.2.2.2.2.1 ≤ 1048576 by omega) hN, f_eqWroteS (a := a.2.2.2.2.2.2) (show z_WroteS a.2.2.2.2.2.2 ≤ 1048576 by omega) hN, ret, Option.bind_some]
  exact eq_pair (eq_pair (eq_pair (eq_pair (eq_pair (eq_pair (eq_last))))))

theorem f_eqTally {N : Nat} {a b : Int × Int × Int × Int × Int × Int × Int} (hN : 1048576 < N) : T_laws_eqTally N a b = ret (same a b) := by
  unfold T_laws_eqTally
  simp only [bne_same, beq_same, seq_same, ret, Option.bind_some]
  exact eq_pair (eq_pair (eq_pair (eq_pair (eq_pair (eq_pair (eq_last))))))

end Go.Sx
