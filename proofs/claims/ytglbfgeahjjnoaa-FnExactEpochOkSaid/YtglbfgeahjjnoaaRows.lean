/-
  No cell of these rows narrows 'for every input' (looked for: loops, veiled, ifaces, maps, wideKeys, modest, calm, conditions, laid).
  DERIVED. THE GIVEN ROWS OF THIS SEAT. 6 by the template 'for every input the law returns true; each argument reads behind the call as it read before'; 0 by the template 'total and deterministic' (their statements: YtglbfgeahjjnoaaTotals.lean).
  GIVEN WITH THE SEED: the statements are not yours to turn. If you find one false, say at which input.
  Laid BY PROGRAM, IN A SANDBOX (cutbox-rows.mjs): the forced cells as the released guide's own fill.sh prints them over the translation 9c116183bc7d5992… (all of the seat's roots in one cut). By AI agents, Wed Nov 11 2026. No macro, syntax, notation, axiom, sorry.
-/
import Derived.Test.YtglbfgeahjjnoaaChecked
import GoSem.Claim
import GoSem.ClaimJoined
import GoSem.ClaimMapViews
import Derived.JoinedTies
import Derived.KernelRfl
namespace Go.Proofs.Ytglbfgeahjjnoaa
/- THE CELL 'sum', in the pinned program and in every row, IS THE sha256 OF THE DUMP (.gsa) THAT YtglbfgeahjjnoaaProg.lean LOADS. Nothing in Lean hashes anything: it is a label: what it is worth is what the hold of that sum in a sandbox is worth. -/
noncomputable def Try.pinned : Pinned := { name := "ytglbfgeahjjnoaa", sum := "9c116183bc7d5992ce13025b09e3abcc941186e3cd8a27c76aeca28cc44308a1", checked := Try.checked }
namespace Rows
def none {H : Type} : Left H := { results := [], args := [] }

/-- 'laws.FnExactEagerBack': WHATEVER THE INPUT: true; the input reads as it did. -/
def fnExactEagerBackSpec : ChangeSpec := { name := "fnExactEagerBack", fn := fun _ => fun
  | [d1, d2] => { results := [.lit (.bool true)], args := [d1, d2] }
  | _ => none }
def fnExactEagerBackRow : OpenClaim := { program := "ytglbfgeahjjnoaa", sum := "9c116183bc7d5992ce13025b09e3abcc941186e3cd8a27c76aeca28cc44308a1", func := "loop.example/g01277/laws.FnExactEagerBack", spec := "fnExactEagerBack", apart := false }
def FnExactEagerBackSaid : Prop := fnExactEagerBackRow.holds Try.pinned (OpenSpec.ofChange fnExactEagerBackSpec)

/-- ITS FALSE NEIGHBOUR: 'it returns false'. Refute it at one input. -/
def fnExactEagerBackWrong : ChangeSpec := { name := "fnExactEagerBack", fn := fun _ => fun
  | [d1, d2] => { results := [.lit (.bool false)], args := [d1, d2] }
  | _ => none }
def FnExactEagerBackWrongFalsely : Prop := fnExactEagerBackRow.holds Try.pinned (OpenSpec.ofChange fnExactEagerBackWrong)

/-- 'laws.FnExactEagerCut': WHATEVER THE INPUT: true; the input reads as it did. -/
def fnExactEagerCutSpec : ChangeSpec := { name := "fnExactEagerCut", fn := fun _ => fun
  | [d1, d2, d3] => { results := [.lit (.bool true)], args := [d1, d2, d3] }
  | _ => none }
def fnExactEagerCutRow : OpenClaim := { program := "ytglbfgeahjjnoaa", sum := "9c116183bc7d5992ce13025b09e3abcc941186e3cd8a27c76aeca28cc44308a1", func := "loop.example/g01277/laws.FnExactEagerCut", spec := "fnExactEagerCut", apart := false }
def FnExactEagerCutSaid : Prop := fnExactEagerCutRow.holds Try.pinned (OpenSpec.ofChange fnExactEagerCutSpec)

/-- ITS FALSE NEIGHBOUR: 'it returns false'. Refute it at one input. -/
def fnExactEagerCutWrong : ChangeSpec := { name := "fnExactEagerCut", fn := fun _ => fun
  | [d1, d2, d3] => { results := [.lit (.bool false)], args := [d1, d2, d3] }
  | _ => none }
def FnExactEagerCutWrongFalsely : Prop := fnExactEagerCutRow.holds Try.pinned (OpenSpec.ofChange fnExactEagerCutWrong)

/-- 'laws.FnSeq': WHATEVER THE INPUT: true; the input reads as it did. -/
def fnSeqSpec : ChangeSpec := { name := "fnSeq", fn := fun _ => fun
  | [d] => { results := [.lit (.bool true)], args := [d] }
  | _ => none }
def fnSeqRow : OpenClaim := { program := "ytglbfgeahjjnoaa", sum := "9c116183bc7d5992ce13025b09e3abcc941186e3cd8a27c76aeca28cc44308a1", func := "loop.example/g01277/laws.FnSeq", spec := "fnSeq", apart := false }
def FnSeqSaid : Prop := fnSeqRow.holds Try.pinned (OpenSpec.ofChange fnSeqSpec)

/-- ITS FALSE NEIGHBOUR: 'it returns false'. Refute it at one input. -/
def fnSeqWrong : ChangeSpec := { name := "fnSeq", fn := fun _ => fun
  | [d] => { results := [.lit (.bool false)], args := [d] }
  | _ => none }
def FnSeqWrongFalsely : Prop := fnSeqRow.holds Try.pinned (OpenSpec.ofChange fnSeqWrong)

/-- 'laws.FnExactEpochSafe': WHATEVER THE INPUT: true; the input reads as it did. -/
def fnExactEpochSafeSpec : ChangeSpec := { name := "fnExactEpochSafe", fn := fun _ => fun
  | [d] => { results := [.lit (.bool true)], args := [d] }
  | _ => none }
def fnExactEpochSafeRow : OpenClaim := { program := "ytglbfgeahjjnoaa", sum := "9c116183bc7d5992ce13025b09e3abcc941186e3cd8a27c76aeca28cc44308a1", func := "loop.example/g01277/laws.FnExactEpochSafe", spec := "fnExactEpochSafe", unfollowed := true, recurses := true, apart := false }
def FnExactEpochSafeSaid : Prop := fnExactEpochSafeRow.holds Try.pinned (OpenSpec.ofChange fnExactEpochSafeSpec)

/-- ITS FALSE NEIGHBOUR: 'it returns false'. Refute it at one input. -/
def fnExactEpochSafeWrong : ChangeSpec := { name := "fnExactEpochSafe", fn := fun _ => fun
  | [d] => { results := [.lit (.bool false)], args := [d] }
  | _ => none }
def FnExactEpochSafeWrongFalsely : Prop := fnExactEpochSafeRow.holds Try.pinned (OpenSpec.ofChange fnExactEpochSafeWrong)

/-- 'laws.FnExactSeqTrue': WHATEVER THE INPUT: true; the input reads as it did. -/
def fnExactSeqTrueSpec : ChangeSpec := { name := "fnExactSeqTrue", fn := fun _ => fun
  | [d1, d2, d3] => { results := [.lit (.bool true)], args := [d1, d2, d3] }
  | _ => none }
def fnExactSeqTrueRow : OpenClaim := { program := "ytglbfgeahjjnoaa", sum := "9c116183bc7d5992ce13025b09e3abcc941186e3cd8a27c76aeca28cc44308a1", func := "loop.example/g01277/laws.FnExactSeqTrue", spec := "fnExactSeqTrue", apart := false }
def FnExactSeqTrueSaid : Prop := fnExactSeqTrueRow.holds Try.pinned (OpenSpec.ofChange fnExactSeqTrueSpec)

/-- ITS FALSE NEIGHBOUR: 'it returns false'. Refute it at one input. -/
def fnExactSeqTrueWrong : ChangeSpec := { name := "fnExactSeqTrue", fn := fun _ => fun
  | [d1, d2, d3] => { results := [.lit (.bool false)], args := [d1, d2, d3] }
  | _ => none }
def FnExactSeqTrueWrongFalsely : Prop := fnExactSeqTrueRow.holds Try.pinned (OpenSpec.ofChange fnExactSeqTrueWrong)

/-- 'laws.FnExactEpochOk': WHATEVER THE INPUT: true; the input reads as it did. -/
def fnExactEpochOkSpec : ChangeSpec := { name := "fnExactEpochOk", fn := fun _ => fun
  | [d] => { results := [.lit (.bool true)], args := [d] }
  | _ => none }
def fnExactEpochOkRow : OpenClaim := { program := "ytglbfgeahjjnoaa", sum := "9c116183bc7d5992ce13025b09e3abcc941186e3cd8a27c76aeca28cc44308a1", func := "loop.example/g01277/laws.FnExactEpochOk", spec := "fnExactEpochOk", apart := false }
def FnExactEpochOkSaid : Prop := fnExactEpochOkRow.holds Try.pinned (OpenSpec.ofChange fnExactEpochOkSpec)

/-- ITS FALSE NEIGHBOUR: 'it returns false'. Refute it at one input. -/
def fnExactEpochOkWrong : ChangeSpec := { name := "fnExactEpochOk", fn := fun _ => fun
  | [d] => { results := [.lit (.bool false)], args := [d] }
  | _ => none }
def FnExactEpochOkWrongFalsely : Prop := fnExactEpochOkRow.holds Try.pinned (OpenSpec.ofChange fnExactEpochOkWrong)

/- THE SECOND FORM. 'bulk': how many values and letters a reading holds, each counted each time it is reached (what is shared counts as often as it is met; a slice's spare places count too). A statement '..UptoSaid' is the law's where the arguments, and the package variables that the reading takes, are together of bulk at most 1048576: NARROWER than '..Said'. Prove '..Said' where nothing that the law and all that it calls make is longer than what came in: it says more and counts as full. Else prove '..UptoSaid'. A law counts once. -/
mutual
def uptoBulk {H : Type} : DataW H → Nat
  | .lit (.string bytes) => bytes.length + 1
  | .lit _ => 1
  | .nil => 1
  | .ptr d => uptoBulk d + 1
  | .slice elems spare => uptoBulkAll elems + uptoBulkAll spare + 1
  | .agg parts => uptoBulkAll parts + 1
  | .iface _ d => uptoBulk d + 1
  | .map entries => uptoBulkEntries entries + 1
  | .held _ => 1
def uptoBulkAll {H : Type} : List (DataW H) → Nat
  | [] => 0
  | d :: r => uptoBulk d + uptoBulkAll r
def uptoBulkEntries {H : Type} : List (Lit × DataW H) → Nat
  | [] => 0
  | x :: r => uptoBulkEntry x + uptoBulkEntries r
def uptoBulkEntry {H : Type} : Lit × DataW H → Nat
  | (.string bytes, d) => bytes.length + uptoBulk d + 1
  | (_, d) => uptoBulk d + 1
 end
def uptoSmall : (H : Type) → List (DataW H) → Bool := fun _ ds => decide (uptoBulkAll ds ≤ 1048576)
def OpenSpec.upto (s : _root_.Go.ChangeSpec) : _root_.Go.OpenSpec := { _root_.Go.OpenSpec.ofChange s with cond := some uptoSmall }

/-- 'laws.FnExactEagerBack', WHERE WHAT IT READS IS OF BULK AT MOST 1048576: true; the input reads as it did. -/
def fnExactEagerBackUptoRow : OpenClaim := { program := "ytglbfgeahjjnoaa", sum := "9c116183bc7d5992ce13025b09e3abcc941186e3cd8a27c76aeca28cc44308a1", func := "loop.example/g01277/laws.FnExactEagerBack", spec := "fnExactEagerBack", apart := false, narrowed := true }
def FnExactEagerBackUptoSaid : Prop := fnExactEagerBackUptoRow.holds Try.pinned (OpenSpec.upto fnExactEagerBackSpec)

/-- 'laws.FnExactEagerCut', WHERE WHAT IT READS IS OF BULK AT MOST 1048576: true; the input reads as it did. -/
def fnExactEagerCutUptoRow : OpenClaim := { program := "ytglbfgeahjjnoaa", sum := "9c116183bc7d5992ce13025b09e3abcc941186e3cd8a27c76aeca28cc44308a1", func := "loop.example/g01277/laws.FnExactEagerCut", spec := "fnExactEagerCut", apart := false, narrowed := true }
def FnExactEagerCutUptoSaid : Prop := fnExactEagerCutUptoRow.holds Try.pinned (OpenSpec.upto fnExactEagerCutSpec)

/-- 'laws.FnSeq', WHERE WHAT IT READS IS OF BULK AT MOST 1048576: true; the input reads as it did. -/
def fnSeqUptoRow : OpenClaim := { program := "ytglbfgeahjjnoaa", sum := "9c116183bc7d5992ce13025b09e3abcc941186e3cd8a27c76aeca28cc44308a1", func := "loop.example/g01277/laws.FnSeq", spec := "fnSeq", apart := false, narrowed := true }
def FnSeqUptoSaid : Prop := fnSeqUptoRow.holds Try.pinned (OpenSpec.upto fnSeqSpec)

/-- 'laws.FnExactEpochSafe', WHERE WHAT IT READS IS OF BULK AT MOST 1048576: true; the input reads as it did. -/
def fnExactEpochSafeUptoRow : OpenClaim := { program := "ytglbfgeahjjnoaa", sum := "9c116183bc7d5992ce13025b09e3abcc941186e3cd8a27c76aeca28cc44308a1", func := "loop.example/g01277/laws.FnExactEpochSafe", spec := "fnExactEpochSafe", unfollowed := true, recurses := true, apart := false, narrowed := true }
def FnExactEpochSafeUptoSaid : Prop := fnExactEpochSafeUptoRow.holds Try.pinned (OpenSpec.upto fnExactEpochSafeSpec)

/-- 'laws.FnExactSeqTrue', WHERE WHAT IT READS IS OF BULK AT MOST 1048576: true; the input reads as it did. -/
def fnExactSeqTrueUptoRow : OpenClaim := { program := "ytglbfgeahjjnoaa", sum := "9c116183bc7d5992ce13025b09e3abcc941186e3cd8a27c76aeca28cc44308a1", func := "loop.example/g01277/laws.FnExactSeqTrue", spec := "fnExactSeqTrue", apart := false, narrowed := true }
def FnExactSeqTrueUptoSaid : Prop := fnExactSeqTrueUptoRow.holds Try.pinned (OpenSpec.upto fnExactSeqTrueSpec)

/-- 'laws.FnExactEpochOk', WHERE WHAT IT READS IS OF BULK AT MOST 1048576: true; the input reads as it did. -/
def fnExactEpochOkUptoRow : OpenClaim := { program := "ytglbfgeahjjnoaa", sum := "9c116183bc7d5992ce13025b09e3abcc941186e3cd8a27c76aeca28cc44308a1", func := "loop.example/g01277/laws.FnExactEpochOk", spec := "fnExactEpochOk", apart := false, narrowed := true }
def FnExactEpochOkUptoSaid : Prop := fnExactEpochOkUptoRow.holds Try.pinned (OpenSpec.upto fnExactEpochOkSpec)

end Rows
end Go.Proofs.Ytglbfgeahjjnoaa
