/- For every input the Go function laws.FnTop returns true, and each argument reads afterwards as it read before. Conditions: none beyond those of the given row. -/
import Derived.Test.YtiagkodiffhaoaaGreatD2
import Derived.Test.YtiagkodiffhaoaaGreatMW8
import Derived.Test.YtiagkodiffhaoaaGreatRows
namespace Go.Proofs.YtiagkodiffhaoaaGreat.fnTop
open Go.Sx Go.ChangeShapes Go.WideShapes Go.ChangeAt Go.RowKit
set_option linter.unusedVariables false
theorem own : ownKnob Tryz.prog.godebug = none := by kernel_rfl
theorem laid : laidOutB Tryz.prog = true := by kernel_rfl
def bulk1 {H : Type} : DataW H → Nat
  | .lit (.string s) => s.length + 1
  | .lit _ => 1
  | .nil => 1
  | .ptr d => bulk1 d + 1
  | .slice es sp => (es.attach.map fun ⟨x, _⟩ => bulk1 x).sum + 1
  | .agg ps => (ps.attach.map fun ⟨x, _⟩ => bulk1 x).sum
  | .iface _ d => bulk1 d + 1
  | .map _ => 1
  | .held _ => 1
theorem bulk1_ok {H : Type} : Bulk (bulk1 (H := H)) where
  lit := fun l => by cases l <;> simp [bulk1]
  nil := by simp [bulk1]
  slice := fun es sp => by simp [bulk1]
  agg := fun ps => by simp [bulk1]
set_option maxRecDepth 100000 in
theorem lifted (os : Os) (started : os.Started) (H : Type) (enc : TypeId × Value → H) :
    ReturnsInHanded {} Tryz.checked os 3 .any (Rows.fnTopSpec.pre6 enc Tryz.prog Tryz.f3 Rows.fnTopRow.domain false) (Rows.fnTopSpec.post enc Tryz.prog Tryz.f3 false true false false) := by
  refine returnsInHanded_of_change (C := Tryz.checked) own started (by kernel_rfl) Tryz.func3
    (ChangeSpec.witness6 (enc := enc) (C := Tryz.checked) false ⟨#[], #[.slice none 0 0], []⟩ 12 (by kernel_rfl) (by kernel_rfl) (by kernel_rfl) (by kernel_rfl)) ?_
  intro W base args ds gs before gE hW El _
  exact law_row (T := tab) (ps := [.v (.slice (.int .u8)) false]) (tb := 4) tabOk laid rfl (fun ds h => match ds, h with | [_], _ => rfl) (by kernel_rfl) rfl Tryz.underlying4 (run := fun N d => Zmq N d.1)
    (fun N => (Z48.h N).2) bulk1_ok (ok := fun _ => True) (M := fun _ => True) (fun _ _ _ _ => trivial) (fun d hw _ => Go.Sx.law_FnTop d hw) W base args ds gs before gE hW trivial
set_option maxHeartbeats 8000000 in
theorem facts : joinedFacts Tryz.pinned.checked.prog 3 Tryz.f3 Rows.fnTopSpec Rows.fnTopRow = true := by
  unfold joinedFacts
  simp only [Bool.and_eq_true]
  (repeat' apply And.intro)
  all_goals as_aux_lemma => kernel_rfl
set_option maxHeartbeats 8000000 in
theorem over : Rows.fnTopRow.holds Tryz.pinned (OpenSpec.ofChange Rows.fnTopSpec) :=
  OpenClaim.holds_of_wide 3 Tryz.f3 rfl rfl rfl rfl rfl rfl rfl ⟨rfl, rfl, rfl, rfl, rfl⟩ rfl rfl rfl rfl rfl (by as_aux_lemma => kernel_rfl) Tryz.func3 facts
    (Wx (by as_aux_lemma => kernel_rfl)) (by unfold Func.isWrapper; first | (rw [Wb (by as_aux_lemma => decide +kernel)]; kernel_rfl) | (rw [Wa (by as_aux_lemma => decide +kernel)]; exact ⟨rfl, rfl⟩))
    (fun os started H enc _ => lifted os started H enc)
theorem proved : Rows.FnTopSaid :=
  over
#print axioms proved
end Go.Proofs.YtiagkodiffhaoaaGreat.fnTop
