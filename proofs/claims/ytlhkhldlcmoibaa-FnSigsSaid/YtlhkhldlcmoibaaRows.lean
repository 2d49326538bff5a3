/-
  No cell of these rows narrows 'for every input' (looked for: loops, veiled, ifaces, maps, wideKeys, modest, calm, conditions, laid).
  DERIVED. THE GIVEN ROWS OF THIS SEAT. 6 by the template 'for every input the law returns true; each argument reads behind the call as it read before'; 0 by the template 'total and deterministic' (their statements: YtlhkhldlcmoibaaTotals.lean).
  GIVEN WITH THE SEED: the statements are not yours to turn. If you find one false, say at which input.
  Laid BY PROGRAM, IN A SANDBOX (cutbox-rows.mjs): the forced cells as the released guide's own fill.sh prints them over the translation fa3e02521fc9c3cf… (all of the seat's roots in one cut). By AI agents, Wed Nov 11 2026. No macro, syntax, notation, axiom, sorry.
-/
import Derived.Test.YtlhkhldlcmoibaaChecked
import GoSem.Claim
import GoSem.ClaimJoined
import GoSem.ClaimMapViews
import Derived.JoinedTies
import Derived.KernelRfl
namespace Go.Proofs.Ytlhkhldlcmoibaa
/- THE CELL 'sum', in the pinned program and in every row, IS THE sha256 OF THE DUMP (.gsa) THAT YtlhkhldlcmoibaaProg.lean LOADS. Nothing in Lean hashes anything: it is a label: what it is worth is what the hold of that sum in a sandbox is worth. -/
noncomputable def Try.pinned : Pinned := { name := "ytlhkhldlcmoibaa", sum := "fa3e02521fc9c3cffc89ab74d7d7b670df89a45ce3d6146c40d764ca7c6c4925", checked := Try.checked }
namespace Rows
def none {H : Type} : Left H := { results := [], args := [] }

/-- 'laws.FnExactSigOf': WHATEVER THE INPUT: true; the input reads as it did. -/
def fnExactSigOfSpec : ChangeSpec := { name := "fnExactSigOf", fn := fun _ => fun
  | [d] => { results := [.lit (.bool true)], args := [d] }
  | _ => none }
def fnExactSigOfRow : OpenClaim := { program := "ytlhkhldlcmoibaa", sum := "fa3e02521fc9c3cffc89ab74d7d7b670df89a45ce3d6146c40d764ca7c6c4925", func := "loop.example/g01277/laws.FnExactSigOf", spec := "fnExactSigOf", apart := false }
def FnExactSigOfSaid : Prop := fnExactSigOfRow.holds Try.pinned (OpenSpec.ofChange fnExactSigOfSpec)

/-- ITS FALSE NEIGHBOUR: 'it returns false'. Refute it at one input. -/
def fnExactSigOfWrong : ChangeSpec := { name := "fnExactSigOf", fn := fun _ => fun
  | [d] => { results := [.lit (.bool false)], args := [d] }
  | _ => none }
def FnExactSigOfWrongFalsely : Prop := fnExactSigOfRow.holds Try.pinned (OpenSpec.ofChange fnExactSigOfWrong)

/-- 'laws.FnExactShowTally': WHATEVER THE INPUT: true; the input reads as it did. -/
def fnExactShowTallySpec : ChangeSpec := { name := "fnExactShowTally", fn := fun _ => fun
  | [d] => { results := [.lit (.bool true)], args := [d] }
  | _ => none }
def fnExactShowTallyRow : OpenClaim := { program := "ytlhkhldlcmoibaa", sum := "fa3e02521fc9c3cffc89ab74d7d7b670df89a45ce3d6146c40d764ca7c6c4925", func := "loop.example/g01277/laws.FnExactShowTally", spec := "fnExactShowTally", apart := false }
def FnExactShowTallySaid : Prop := fnExactShowTallyRow.holds Try.pinned (OpenSpec.ofChange fnExactShowTallySpec)

/-- ITS FALSE NEIGHBOUR: 'it returns false'. Refute it at one input. -/
def fnExactShowTallyWrong : ChangeSpec := { name := "fnExactShowTally", fn := fun _ => fun
  | [d] => { results := [.lit (.bool false)], args := [d] }
  | _ => none }
def FnExactShowTallyWrongFalsely : Prop := fnExactShowTallyRow.holds Try.pinned (OpenSpec.ofChange fnExactShowTallyWrong)

/-- 'laws.FnExactTriplesOk': WHATEVER THE INPUT: true; the input reads as it did. -/
def fnExactTriplesOkSpec : ChangeSpec := { name := "fnExactTriplesOk", fn := fun _ => fun
  | [d] => { results := [.lit (.bool true)], args := [d] }
  | _ => none }
def fnExactTriplesOkRow : OpenClaim := { program := "ytlhkhldlcmoibaa", sum := "fa3e02521fc9c3cffc89ab74d7d7b670df89a45ce3d6146c40d764ca7c6c4925", func := "loop.example/g01277/laws.FnExactTriplesOk", spec := "fnExactTriplesOk", apart := false }
def FnExactTriplesOkSaid : Prop := fnExactTriplesOkRow.holds Try.pinned (OpenSpec.ofChange fnExactTriplesOkSpec)

/-- ITS FALSE NEIGHBOUR: 'it returns false'. Refute it at one input. -/
def fnExactTriplesOkWrong : ChangeSpec := { name := "fnExactTriplesOk", fn := fun _ => fun
  | [d] => { results := [.lit (.bool false)], args := [d] }
  | _ => none }
def FnExactTriplesOkWrongFalsely : Prop := fnExactTriplesOkRow.holds Try.pinned (OpenSpec.ofChange fnExactTriplesOkWrong)

/-- 'laws.FnExactShowTurn': WHATEVER THE INPUT: true; the input reads as it did. -/
def fnExactShowTurnSpec : ChangeSpec := { name := "fnExactShowTurn", fn := fun _ => fun
  | [d] => { results := [.lit (.bool true)], args := [d] }
  | _ => none }
def fnExactShowTurnRow : OpenClaim := { program := "ytlhkhldlcmoibaa", sum := "fa3e02521fc9c3cffc89ab74d7d7b670df89a45ce3d6146c40d764ca7c6c4925", func := "loop.example/g01277/laws.FnExactShowTurn", spec := "fnExactShowTurn", apart := false }
def FnExactShowTurnSaid : Prop := fnExactShowTurnRow.holds Try.pinned (OpenSpec.ofChange fnExactShowTurnSpec)

/-- ITS FALSE NEIGHBOUR: 'it returns false'. Refute it at one input. -/
def fnExactShowTurnWrong : ChangeSpec := { name := "fnExactShowTurn", fn := fun _ => fun
  | [d] => { results := [.lit (.bool false)], args := [d] }
  | _ => none }
def FnExactShowTurnWrongFalsely : Prop := fnExactShowTurnRow.holds Try.pinned (OpenSpec.ofChange fnExactShowTurnWrong)

/-- 'laws.FnExactSeqValue': WHATEVER THE INPUT: true; the input reads as it did. -/
def fnExactSeqValueSpec : ChangeSpec := { name := "fnExactSeqValue", fn := fun _ => fun
  | [d1, d2, d3] => { results := [.lit (.bool true)], args := [d1, d2, d3] }
  | _ => none }
def fnExactSeqValueRow : OpenClaim := { program := "ytlhkhldlcmoibaa", sum := "fa3e02521fc9c3cffc89ab74d7d7b670df89a45ce3d6146c40d764ca7c6c4925", func := "loop.example/g01277/laws.FnExactSeqValue", spec := "fnExactSeqValue", apart := false }
def FnExactSeqValueSaid : Prop := fnExactSeqValueRow.holds Try.pinned (OpenSpec.ofChange fnExactSeqValueSpec)

/-- ITS FALSE NEIGHBOUR: 'it returns false'. Refute it at one input. -/
def fnExactSeqValueWrong : ChangeSpec := { name := "fnExactSeqValue", fn := fun _ => fun
  | [d1, d2, d3] => { results := [.lit (.bool false)], args := [d1, d2, d3] }
  | _ => none }
def FnExactSeqValueWrongFalsely : Prop := fnExactSeqValueRow.holds Try.pinned (OpenSpec.ofChange fnExactSeqValueWrong)

/-- 'laws.FnSigs': WHATEVER THE INPUT: true; the input reads as it did. -/
def fnSigsSpec : ChangeSpec := { name := "fnSigs", fn := fun _ => fun
  | [d] => { results := [.lit (.bool true)], args := [d] }
  | _ => none }
def fnSigsRow : OpenClaim := { program := "ytlhkhldlcmoibaa", sum := "fa3e02521fc9c3cffc89ab74d7d7b670df89a45ce3d6146c40d764ca7c6c4925", func := "loop.example/g01277/laws.FnSigs", spec := "fnSigs", apart := false }
def FnSigsSaid : Prop := fnSigsRow.holds Try.pinned (OpenSpec.ofChange fnSigsSpec)

/-- ITS FALSE NEIGHBOUR: 'it returns false'. Refute it at one input. -/
def fnSigsWrong : ChangeSpec := { name := "fnSigs", fn := fun _ => fun
  | [d] => { results := [.lit (.bool false)], args := [d] }
  | _ => none }
def FnSigsWrongFalsely : Prop := fnSigsRow.holds Try.pinned (OpenSpec.ofChange fnSigsWrong)

/- THE SECOND FORM. 'bulk': how many values and letters a reading holds, each counted each time it is reached (what is shared counts as often as it is met; a slice's spare places count too). A statement '..UptoSaid' is the law's where the arguments, and the package variables that the reading takes, are together of bulk at most 1048576: NARROWER than '..Said'. Prove '..Said' where nothing that the law and all that it calls make is longer than what came in: it says more and counts as full. Else prove '..UptoSaid'. A law counts once. -/
mutual
def uptoBulk {H : Type} : DataW H → Nat
  | .lit (.string bytes) => bytes.length + 1
  | .lit _ => 1
  | .nil => 1
  | .ptr d => uptoBulk d + 1
  | .slice elems spare => uptoBulkAll elems + uptoBulkAll spare + 1
  | .agg parts => uptoBulkAll parts + 1
  | .iface _ d => uptoBulk d + 1
  | .map entries => uptoBulkEntries entries + 1
  | .held _ => 1
def uptoBulkAll {H : Type} : List (DataW H) → Nat
  | [] => 0
  | d :: r => uptoBulk d + uptoBulkAll r
def uptoBulkEntries {H : Type} : List (Lit × DataW H) → Nat
  | [] => 0
  | x :: r => uptoBulkEntry x + uptoBulkEntries r
def uptoBulkEntry {H : Type} : Lit × DataW H → Nat
  | (.string bytes, d) => bytes.length + uptoBulk d + 1
  | (_, d) => uptoBulk d + 1
 end
def uptoSmall : (H : Type) → List (DataW H) → Bool := fun _ ds => decide (uptoBulkAll ds ≤ 1048576)
def OpenSpec.upto (s : _root_.Go.ChangeSpec) : _root_.Go.OpenSpec := { _root_.Go.OpenSpec.ofChange s with cond := some uptoSmall }

/-- 'laws.FnExactSigOf', WHERE WHAT IT READS IS OF BULK AT MOST 1048576: true; the input reads as it did. -/
def fnExactSigOfUptoRow : OpenClaim := { program := "ytlhkhldlcmoibaa", sum := "fa3e02521fc9c3cffc89ab74d7d7b670df89a45ce3d6146c40d764ca7c6c4925", func := "loop.example/g01277/laws.FnExactSigOf", spec := "fnExactSigOf", apart := false, narrowed := true }
def FnExactSigOfUptoSaid : Prop := fnExactSigOfUptoRow.holds Try.pinned (OpenSpec.upto fnExactSigOfSpec)

/-- 'laws.FnExactShowTally', WHERE WHAT IT READS IS OF BULK AT MOST 1048576: true; the input reads as it did. -/
def fnExactShowTallyUptoRow : OpenClaim := { program := "ytlhkhldlcmoibaa", sum := "fa3e02521fc9c3cffc89ab74d7d7b670df89a45ce3d6146c40d764ca7c6c4925", func := "loop.example/g01277/laws.FnExactShowTally", spec := "fnExactShowTally", apart := false, narrowed := true }
def FnExactShowTallyUptoSaid : Prop := fnExactShowTallyUptoRow.holds Try.pinned (OpenSpec.upto fnExactShowTallySpec)

/-- 'laws.FnExactTriplesOk', WHERE WHAT IT READS IS OF BULK AT MOST 1048576: true; the input reads as it did. -/
def fnExactTriplesOkUptoRow : OpenClaim := { program := "ytlhkhldlcmoibaa", sum := "fa3e02521fc9c3cffc89ab74d7d7b670df89a45ce3d6146c40d764ca7c6c4925", func := "loop.example/g01277/laws.FnExactTriplesOk", spec := "fnExactTriplesOk", apart := false, narrowed := true }
def FnExactTriplesOkUptoSaid : Prop := fnExactTriplesOkUptoRow.holds Try.pinned (OpenSpec.upto fnExactTriplesOkSpec)

/-- 'laws.FnExactShowTurn', WHERE WHAT IT READS IS OF BULK AT MOST 1048576: true; the input reads as it did. -/
def fnExactShowTurnUptoRow : OpenClaim := { program := "ytlhkhldlcmoibaa", sum := "fa3e02521fc9c3cffc89ab74d7d7b670df89a45ce3d6146c40d764ca7c6c4925", func := "loop.example/g01277/laws.FnExactShowTurn", spec := "fnExactShowTurn", apart := false, narrowed := true }
def FnExactShowTurnUptoSaid : Prop := fnExactShowTurnUptoRow.holds Try.pinned (OpenSpec.upto fnExactShowTurnSpec)

/-- 'laws.FnExactSeqValue', WHERE WHAT IT READS IS OF BULK AT MOST 1048576: true; the input reads as it did. -/
def fnExactSeqValueUptoRow : OpenClaim := { program := "ytlhkhldlcmoibaa", sum := "fa3e02521fc9c3cffc89ab74d7d7b670df89a45ce3d6146c40d764ca7c6c4925", func := "loop.example/g01277/laws.FnExactSeqValue", spec := "fnExactSeqValue", apart := false, narrowed := true }
def FnExactSeqValueUptoSaid : Prop := fnExactSeqValueUptoRow.holds Try.pinned (OpenSpec.upto fnExactSeqValueSpec)

/-- 'laws.FnSigs', WHERE WHAT IT READS IS OF BULK AT MOST 1048576: true; the input reads as it did. -/
def fnSigsUptoRow : OpenClaim := { program := "ytlhkhldlcmoibaa", sum := "fa3e02521fc9c3cffc89ab74d7d7b670df89a45ce3d6146c40d764ca7c6c4925", func := "loop.example/g01277/laws.FnSigs", spec := "fnSigs", apart := false, narrowed := true }
def FnSigsUptoSaid : Prop := fnSigsUptoRow.holds Try.pinned (OpenSpec.upto fnSigsSpec)

end Rows
end Go.Proofs.Ytlhkhldlcmoibaa
