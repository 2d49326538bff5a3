/-
  No cell of these rows narrows 'for every input' (looked for: loops, veiled, ifaces, maps, wideKeys, modest, calm, conditions, laid).
  DERIVED. THE GIVEN ROWS OF THIS SEAT. 6 by the template 'for every input the law returns true; each argument reads behind the call as it read before'; 0 by the template 'total and deterministic' (their statements: YtmfipnendomkiaaTotals.lean).
  GIVEN WITH THE SEED: the statements are not yours to turn. If you find one false, say at which input.
  Laid BY PROGRAM, IN A SANDBOX (cutbox-rows.mjs): the forced cells as the released guide's own fill.sh prints them over the translation 588e2a2bdaba40b7… (all of the seat's roots in one cut). By AI agents, Wed Nov 11 2026. No macro, syntax, notation, axiom, sorry.
-/
import Derived.Test.YtmfipnendomkiaaChecked
import GoSem.Claim
import GoSem.ClaimJoined
import GoSem.ClaimMapViews
import Derived.JoinedTies
import Derived.KernelRfl
namespace Go.Proofs.Ytmfipnendomkiaa
/- THE CELL 'sum', in the pinned program and in every row, IS THE sha256 OF THE DUMP (.gsa) THAT YtmfipnendomkiaaProg.lean LOADS. Nothing in Lean hashes anything: it is a label: what it is worth is what the hold of that sum in a sandbox is worth. -/
noncomputable def Try.pinned : Pinned := { name := "ytmfipnendomkiaa", sum := "588e2a2bdaba40b74799c04b203d80a370d8caa5ef75de2cfcaefcfb6d83033f", checked := Try.checked }
namespace Rows
def none {H : Type} : Left H := { results := [], args := [] }

/-- 'laws.FnExactSigOne': WHATEVER THE INPUT: true; the input reads as it did. -/
def fnExactSigOneSpec : ChangeSpec := { name := "fnExactSigOne", fn := fun _ => fun
  | [d] => { results := [.lit (.bool true)], args := [d] }
  | _ => none }
def fnExactSigOneRow : OpenClaim := { program := "ytmfipnendomkiaa", sum := "588e2a2bdaba40b74799c04b203d80a370d8caa5ef75de2cfcaefcfb6d83033f", func := "loop.example/g01277/laws.FnExactSigOne", spec := "fnExactSigOne", apart := false }
def FnExactSigOneSaid : Prop := fnExactSigOneRow.holds Try.pinned (OpenSpec.ofChange fnExactSigOneSpec)

/-- ITS FALSE NEIGHBOUR: 'it returns false'. Refute it at one input. -/
def fnExactSigOneWrong : ChangeSpec := { name := "fnExactSigOne", fn := fun _ => fun
  | [d] => { results := [.lit (.bool false)], args := [d] }
  | _ => none }
def FnExactSigOneWrongFalsely : Prop := fnExactSigOneRow.holds Try.pinned (OpenSpec.ofChange fnExactSigOneWrong)

/-- 'laws.FnExactSigSets': WHATEVER THE INPUT: true; the input reads as it did. -/
def fnExactSigSetsSpec : ChangeSpec := { name := "fnExactSigSets", fn := fun _ => fun
  | [d1, d2] => { results := [.lit (.bool true)], args := [d1, d2] }
  | _ => none }
def fnExactSigSetsRow : OpenClaim := { program := "ytmfipnendomkiaa", sum := "588e2a2bdaba40b74799c04b203d80a370d8caa5ef75de2cfcaefcfb6d83033f", func := "loop.example/g01277/laws.FnExactSigSets", spec := "fnExactSigSets", apart := false }
def FnExactSigSetsSaid : Prop := fnExactSigSetsRow.holds Try.pinned (OpenSpec.ofChange fnExactSigSetsSpec)

/-- ITS FALSE NEIGHBOUR: 'it returns false'. Refute it at one input. -/
def fnExactSigSetsWrong : ChangeSpec := { name := "fnExactSigSets", fn := fun _ => fun
  | [d1, d2] => { results := [.lit (.bool false)], args := [d1, d2] }
  | _ => none }
def FnExactSigSetsWrongFalsely : Prop := fnExactSigSetsRow.holds Try.pinned (OpenSpec.ofChange fnExactSigSetsWrong)

/-- 'laws.FnExactSigCount': WHATEVER THE INPUT: true; the input reads as it did. -/
def fnExactSigCountSpec : ChangeSpec := { name := "fnExactSigCount", fn := fun _ => fun
  | [d] => { results := [.lit (.bool true)], args := [d] }
  | _ => none }
def fnExactSigCountRow : OpenClaim := { program := "ytmfipnendomkiaa", sum := "588e2a2bdaba40b74799c04b203d80a370d8caa5ef75de2cfcaefcfb6d83033f", func := "loop.example/g01277/laws.FnExactSigCount", spec := "fnExactSigCount", apart := false }
def FnExactSigCountSaid : Prop := fnExactSigCountRow.holds Try.pinned (OpenSpec.ofChange fnExactSigCountSpec)

/-- ITS FALSE NEIGHBOUR: 'it returns false'. Refute it at one input. -/
def fnExactSigCountWrong : ChangeSpec := { name := "fnExactSigCount", fn := fun _ => fun
  | [d] => { results := [.lit (.bool false)], args := [d] }
  | _ => none }
def FnExactSigCountWrongFalsely : Prop := fnExactSigCountRow.holds Try.pinned (OpenSpec.ofChange fnExactSigCountWrong)

/-- 'laws.FnExactPhaseWord': WHATEVER THE INPUT: true; the input reads as it did. -/
def fnExactPhaseWordSpec : ChangeSpec := { name := "fnExactPhaseWord", fn := fun _ => fun
  | [d] => { results := [.lit (.bool true)], args := [d] }
  | _ => none }
def fnExactPhaseWordRow : OpenClaim := { program := "ytmfipnendomkiaa", sum := "588e2a2bdaba40b74799c04b203d80a370d8caa5ef75de2cfcaefcfb6d83033f", func := "loop.example/g01277/laws.FnExactPhaseWord", spec := "fnExactPhaseWord", apart := false }
def FnExactPhaseWordSaid : Prop := fnExactPhaseWordRow.holds Try.pinned (OpenSpec.ofChange fnExactPhaseWordSpec)

/-- ITS FALSE NEIGHBOUR: 'it returns false'. Refute it at one input. -/
def fnExactPhaseWordWrong : ChangeSpec := { name := "fnExactPhaseWord", fn := fun _ => fun
  | [d] => { results := [.lit (.bool false)], args := [d] }
  | _ => none }
def FnExactPhaseWordWrongFalsely : Prop := fnExactPhaseWordRow.holds Try.pinned (OpenSpec.ofChange fnExactPhaseWordWrong)

/-- 'laws.FnExactSigHas': WHATEVER THE INPUT: true; the input reads as it did. -/
def fnExactSigHasSpec : ChangeSpec := { name := "fnExactSigHas", fn := fun _ => fun
  | [d1, d2] => { results := [.lit (.bool true)], args := [d1, d2] }
  | _ => none }
def fnExactSigHasRow : OpenClaim := { program := "ytmfipnendomkiaa", sum := "588e2a2bdaba40b74799c04b203d80a370d8caa5ef75de2cfcaefcfb6d83033f", func := "loop.example/g01277/laws.FnExactSigHas", spec := "fnExactSigHas", apart := false }
def FnExactSigHasSaid : Prop := fnExactSigHasRow.holds Try.pinned (OpenSpec.ofChange fnExactSigHasSpec)

/-- ITS FALSE NEIGHBOUR: 'it returns false'. Refute it at one input. -/
def fnExactSigHasWrong : ChangeSpec := { name := "fnExactSigHas", fn := fun _ => fun
  | [d1, d2] => { results := [.lit (.bool false)], args := [d1, d2] }
  | _ => none }
def FnExactSigHasWrongFalsely : Prop := fnExactSigHasRow.holds Try.pinned (OpenSpec.ofChange fnExactSigHasWrong)

/-- 'laws.FnExactSigMay': WHATEVER THE INPUT: true; the input reads as it did. -/
def fnExactSigMaySpec : ChangeSpec := { name := "fnExactSigMay", fn := fun _ => fun
  | [d1, d2] => { results := [.lit (.bool true)], args := [d1, d2] }
  | _ => none }
def fnExactSigMayRow : OpenClaim := { program := "ytmfipnendomkiaa", sum := "588e2a2bdaba40b74799c04b203d80a370d8caa5ef75de2cfcaefcfb6d83033f", func := "loop.example/g01277/laws.FnExactSigMay", spec := "fnExactSigMay", apart := false }
def FnExactSigMaySaid : Prop := fnExactSigMayRow.holds Try.pinned (OpenSpec.ofChange fnExactSigMaySpec)

/-- ITS FALSE NEIGHBOUR: 'it returns false'. Refute it at one input. -/
def fnExactSigMayWrong : ChangeSpec := { name := "fnExactSigMay", fn := fun _ => fun
  | [d1, d2] => { results := [.lit (.bool false)], args := [d1, d2] }
  | _ => none }
def FnExactSigMayWrongFalsely : Prop := fnExactSigMayRow.holds Try.pinned (OpenSpec.ofChange fnExactSigMayWrong)

/- THE SECOND FORM. 'bulk': how many values and letters a reading holds, each counted each time it is reached (what is shared counts as often as it is met; a slice's spare places count too). A statement '..UptoSaid' is the law's where the arguments, and the package variables that the reading takes, are together of bulk at most 1048576: NARROWER than '..Said'. Prove '..Said' where nothing that the law and all that it calls make is longer than what came in: it says more and counts as full. Else prove '..UptoSaid'. A law counts once. -/
mutual
def uptoBulk {H : Type} : DataW H → Nat
  | .lit (.string bytes) => bytes.length + 1
  | .lit _ => 1
  | .nil => 1
  | .ptr d => uptoBulk d + 1
  | .slice elems spare => uptoBulkAll elems + uptoBulkAll spare + 1
  | .agg parts => uptoBulkAll parts + 1
  | .iface _ d => uptoBulk d + 1
  | .map entries => uptoBulkEntries entries + 1
  | .held _ => 1
def uptoBulkAll {H : Type} : List (DataW H) → Nat
  | [] => 0
  | d :: r => uptoBulk d + uptoBulkAll r
def uptoBulkEntries {H : Type} : List (Lit × DataW H) → Nat
  | [] => 0
  | x :: r => uptoBulkEntry x + uptoBulkEntries r
def uptoBulkEntry {H : Type} : Lit × DataW H → Nat
  | (.string bytes, d) => bytes.length + uptoBulk d + 1
  | (_, d) => uptoBulk d + 1
 end
def uptoSmall : (H : Type) → List (DataW H) → Bool := fun _ ds => decide (uptoBulkAll ds ≤ 1048576)
def OpenSpec.upto (s : _root_.Go.ChangeSpec) : _root_.Go.OpenSpec := { _root_.Go.OpenSpec.ofChange s with cond := some uptoSmall }

/-- 'laws.FnExactSigOne', WHERE WHAT IT READS IS OF BULK AT MOST 1048576: true; the input reads as it did. -/
def fnExactSigOneUptoRow : OpenClaim := { program := "ytmfipnendomkiaa", sum := "588e2a2bdaba40b74799c04b203d80a370d8caa5ef75de2cfcaefcfb6d83033f", func := "loop.example/g01277/laws.FnExactSigOne", spec := "fnExactSigOne", apart := false, narrowed := true }
def FnExactSigOneUptoSaid : Prop := fnExactSigOneUptoRow.holds Try.pinned (OpenSpec.upto fnExactSigOneSpec)

/-- 'laws.FnExactSigSets', WHERE WHAT IT READS IS OF BULK AT MOST 1048576: true; the input reads as it did. -/
def fnExactSigSetsUptoRow : OpenClaim := { program := "ytmfipnendomkiaa", sum := "588e2a2bdaba40b74799c04b203d80a370d8caa5ef75de2cfcaefcfb6d83033f", func := "loop.example/g01277/laws.FnExactSigSets", spec := "fnExactSigSets", apart := false, narrowed := true }
def FnExactSigSetsUptoSaid : Prop := fnExactSigSetsUptoRow.holds Try.pinned (OpenSpec.upto fnExactSigSetsSpec)

/-- 'laws.FnExactSigCount', WHERE WHAT IT READS IS OF BULK AT MOST 1048576: true; the input reads as it did. -/
def fnExactSigCountUptoRow : OpenClaim := { program := "ytmfipnendomkiaa", sum := "588e2a2bdaba40b74799c04b203d80a370d8caa5ef75de2cfcaefcfb6d83033f", func := "loop.example/g01277/laws.FnExactSigCount", spec := "fnExactSigCount", apart := false, narrowed := true }
def FnExactSigCountUptoSaid : Prop := fnExactSigCountUptoRow.holds Try.pinned (OpenSpec.upto fnExactSigCountSpec)

/-- 'laws.FnExactPhaseWord', WHERE WHAT IT READS IS OF BULK AT MOST 1048576: true; the input reads as it did. -/
def fnExactPhaseWordUptoRow : OpenClaim := { program := "ytmfipnendomkiaa", sum := "588e2a2bdaba40b74799c04b203d80a370d8caa5ef75de2cfcaefcfb6d83033f", func := "loop.example/g01277/laws.FnExactPhaseWord", spec := "fnExactPhaseWord", apart := false, narrowed := true }
def FnExactPhaseWordUptoSaid : Prop := fnExactPhaseWordUptoRow.holds Try.pinned (OpenSpec.upto fnExactPhaseWordSpec)

/-- 'laws.FnExactSigHas', WHERE WHAT IT READS IS OF BULK AT MOST 1048576: true; the input reads as it did. -/
def fnExactSigHasUptoRow : OpenClaim := { program := "ytmfipnendomkiaa", sum := "588e2a2bdaba40b74799c04b203d80a370d8caa5ef75de2cfcaefcfb6d83033f", func := "loop.example/g01277/laws.FnExactSigHas", spec := "fnExactSigHas", apart := false, narrowed := true }
def FnExactSigHasUptoSaid : Prop := fnExactSigHasUptoRow.holds Try.pinned (OpenSpec.upto fnExactSigHasSpec)

/-- 'laws.FnExactSigMay', WHERE WHAT IT READS IS OF BULK AT MOST 1048576: true; the input reads as it did. -/
def fnExactSigMayUptoRow : OpenClaim := { program := "ytmfipnendomkiaa", sum := "588e2a2bdaba40b74799c04b203d80a370d8caa5ef75de2cfcaefcfb6d83033f", func := "loop.example/g01277/laws.FnExactSigMay", spec := "fnExactSigMay", apart := false, narrowed := true }
def FnExactSigMayUptoSaid : Prop := fnExactSigMayUptoRow.holds Try.pinned (OpenSpec.upto fnExactSigMaySpec)

end Rows
end Go.Proofs.Ytmfipnendomkiaa
