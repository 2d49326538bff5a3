/-
  No cell of these rows narrows 'for every input' (looked for: loops, veiled, ifaces, maps, wideKeys, modest, calm, conditions, laid).
  DERIVED. THE GIVEN ROWS OF THIS SEAT. 6 by the template 'for every input the law returns true; each argument reads behind the call as it read before'; 0 by the template 'total and deterministic' (their statements: YtnkbflecplbceaaGreatTotals.lean).
  GIVEN WITH THE SEED: the statements are not yours to turn. If you find one false, say at which input.
  Laid BY PROGRAM, IN A SANDBOX (cutbox-rows.mjs): the forced cells as the released guide's own fill.sh prints them over the translation be36925ae9838c52… (all of the seat's roots in one cut). By AI agents, Wed Nov 11 2026. No macro, syntax, notation, axiom, sorry.
-/
import Derived.Test.YtnkbflecplbceaaGreatChecked
import GoSem.Claim
import GoSem.ClaimJoined
import GoSem.ClaimMapViews
import Derived.JoinedTies
import Derived.KernelRfl
namespace Go.Proofs.YtnkbflecplbceaaGreat
/- THE CELL 'sum', in the pinned program and in every row, IS THE sha256 OF THE DUMP (.gsa) THAT YtnkbflecplbceaaGreatProg.lean LOADS. Nothing in Lean hashes anything: it is a label: what it is worth is what the hold of that sum in a sandbox is worth. -/
noncomputable def Tryz.pinned : Pinned := { name := "ytnkbflecplbceaagreat", sum := "be36925ae9838c5283036a522e39d80b818fee031222fc5e1a438d271ab889bd", checked := Tryz.checked }
namespace Rows
def none {H : Type} : Left H := { results := [], args := [] }

/-- 'laws.FnEnds': WHATEVER THE INPUT: true; the input reads as it did. -/
def fnEndsSpec : ChangeSpec := { name := "fnEnds", fn := fun _ => fun
  | [d] => { results := [.lit (.bool true)], args := [d] }
  | _ => none }
def fnEndsRow : OpenClaim := { program := "ytnkbflecplbceaagreat", sum := "be36925ae9838c5283036a522e39d80b818fee031222fc5e1a438d271ab889bd", func := "loop.example/g01277/laws.FnEnds", spec := "fnEnds", unfollowed := true, recurses := true, apart := false }
def FnEndsSaid : Prop := fnEndsRow.holds Tryz.pinned (OpenSpec.ofChange fnEndsSpec)

/-- ITS FALSE NEIGHBOUR: 'it returns false'. Refute it at one input. -/
def fnEndsWrong : ChangeSpec := { name := "fnEnds", fn := fun _ => fun
  | [d] => { results := [.lit (.bool false)], args := [d] }
  | _ => none }
def FnEndsWrongFalsely : Prop := fnEndsRow.holds Tryz.pinned (OpenSpec.ofChange fnEndsWrong)

/-- 'laws.FnTally': WHATEVER THE INPUT: true; the input reads as it did. -/
def fnTallySpec : ChangeSpec := { name := "fnTally", fn := fun _ => fun
  | [d] => { results := [.lit (.bool true)], args := [d] }
  | _ => none }
def fnTallyRow : OpenClaim := { program := "ytnkbflecplbceaagreat", sum := "be36925ae9838c5283036a522e39d80b818fee031222fc5e1a438d271ab889bd", func := "loop.example/g01277/laws.FnTally", spec := "fnTally", unfollowed := true, recurses := true, apart := false }
def FnTallySaid : Prop := fnTallyRow.holds Tryz.pinned (OpenSpec.ofChange fnTallySpec)

/-- ITS FALSE NEIGHBOUR: 'it returns false'. Refute it at one input. -/
def fnTallyWrong : ChangeSpec := { name := "fnTally", fn := fun _ => fun
  | [d] => { results := [.lit (.bool false)], args := [d] }
  | _ => none }
def FnTallyWrongFalsely : Prop := fnTallyRow.holds Tryz.pinned (OpenSpec.ofChange fnTallyWrong)

/-- 'laws.FnAlone': WHATEVER THE INPUT: true; the input reads as it did. -/
def fnAloneSpec : ChangeSpec := { name := "fnAlone", fn := fun _ => fun
  | [d] => { results := [.lit (.bool true)], args := [d] }
  | _ => none }
def fnAloneRow : OpenClaim := { program := "ytnkbflecplbceaagreat", sum := "be36925ae9838c5283036a522e39d80b818fee031222fc5e1a438d271ab889bd", func := "loop.example/g01277/laws.FnAlone", spec := "fnAlone", unfollowed := true, recurses := true, apart := false }
def FnAloneSaid : Prop := fnAloneRow.holds Tryz.pinned (OpenSpec.ofChange fnAloneSpec)

/-- ITS FALSE NEIGHBOUR: 'it returns false'. Refute it at one input. -/
def fnAloneWrong : ChangeSpec := { name := "fnAlone", fn := fun _ => fun
  | [d] => { results := [.lit (.bool false)], args := [d] }
  | _ => none }
def FnAloneWrongFalsely : Prop := fnAloneRow.holds Tryz.pinned (OpenSpec.ofChange fnAloneWrong)

/-- 'laws.FnBumped': WHATEVER THE INPUT: true; the input reads as it did. -/
def fnBumpedSpec : ChangeSpec := { name := "fnBumped", fn := fun _ => fun
  | [d] => { results := [.lit (.bool true)], args := [d] }
  | _ => none }
def fnBumpedRow : OpenClaim := { program := "ytnkbflecplbceaagreat", sum := "be36925ae9838c5283036a522e39d80b818fee031222fc5e1a438d271ab889bd", func := "loop.example/g01277/laws.FnBumped", spec := "fnBumped", unfollowed := true, recurses := true, apart := false }
def FnBumpedSaid : Prop := fnBumpedRow.holds Tryz.pinned (OpenSpec.ofChange fnBumpedSpec)

/-- ITS FALSE NEIGHBOUR: 'it returns false'. Refute it at one input. -/
def fnBumpedWrong : ChangeSpec := { name := "fnBumped", fn := fun _ => fun
  | [d] => { results := [.lit (.bool false)], args := [d] }
  | _ => none }
def FnBumpedWrongFalsely : Prop := fnBumpedRow.holds Tryz.pinned (OpenSpec.ofChange fnBumpedWrong)

/-- 'laws.FnBank': WHATEVER THE INPUT: true; the input reads as it did. -/
def fnBankSpec : ChangeSpec := { name := "fnBank", fn := fun _ => fun
  | [d] => { results := [.lit (.bool true)], args := [d] }
  | _ => none }
def fnBankRow : OpenClaim := { program := "ytnkbflecplbceaagreat", sum := "be36925ae9838c5283036a522e39d80b818fee031222fc5e1a438d271ab889bd", func := "loop.example/g01277/laws.FnBank", spec := "fnBank", unfollowed := true, recurses := true, apart := false }
def FnBankSaid : Prop := fnBankRow.holds Tryz.pinned (OpenSpec.ofChange fnBankSpec)

/-- ITS FALSE NEIGHBOUR: 'it returns false'. Refute it at one input. -/
def fnBankWrong : ChangeSpec := { name := "fnBank", fn := fun _ => fun
  | [d] => { results := [.lit (.bool false)], args := [d] }
  | _ => none }
def FnBankWrongFalsely : Prop := fnBankRow.holds Tryz.pinned (OpenSpec.ofChange fnBankWrong)

/-- 'laws.FnKidsInTurn': WHATEVER THE INPUT: true; the input reads as it did. -/
def fnKidsInTurnSpec : ChangeSpec := { name := "fnKidsInTurn", fn := fun _ => fun
  | [d] => { results := [.lit (.bool true)], args := [d] }
  | _ => none }
def fnKidsInTurnRow : OpenClaim := { program := "ytnkbflecplbceaagreat", sum := "be36925ae9838c5283036a522e39d80b818fee031222fc5e1a438d271ab889bd", func := "loop.example/g01277/laws.FnKidsInTurn", spec := "fnKidsInTurn", unfollowed := true, recurses := true, apart := false }
def FnKidsInTurnSaid : Prop := fnKidsInTurnRow.holds Tryz.pinned (OpenSpec.ofChange fnKidsInTurnSpec)

/-- ITS FALSE NEIGHBOUR: 'it returns false'. Refute it at one input. -/
def fnKidsInTurnWrong : ChangeSpec := { name := "fnKidsInTurn", fn := fun _ => fun
  | [d] => { results := [.lit (.bool false)], args := [d] }
  | _ => none }
def FnKidsInTurnWrongFalsely : Prop := fnKidsInTurnRow.holds Tryz.pinned (OpenSpec.ofChange fnKidsInTurnWrong)

/- THE SECOND FORM. 'bulk': how many values and letters a reading holds, each counted each time it is reached (what is shared counts as often as it is met; a slice's spare places count too). A statement '..UptoSaid' is the law's where the arguments, and the package variables that the reading takes, are together of bulk at most 1048576: NARROWER than '..Said'. Prove '..Said' where nothing that the law and all that it calls make is longer than what came in: it says more and counts as full. Else prove '..UptoSaid'. A law counts once. -/
mutual
def uptoBulk {H : Type} : DataW H → Nat
  | .lit (.string bytes) => bytes.length + 1
  | .lit _ => 1
  | .nil => 1
  | .ptr d => uptoBulk d + 1
  | .slice elems spare => uptoBulkAll elems + uptoBulkAll spare + 1
  | .agg parts => uptoBulkAll parts + 1
  | .iface _ d => uptoBulk d + 1
  | .map entries => uptoBulkEntries entries + 1
  | .held _ => 1
def uptoBulkAll {H : Type} : List (DataW H) → Nat
  | [] => 0
  | d :: r => uptoBulk d + uptoBulkAll r
def uptoBulkEntries {H : Type} : List (Lit × DataW H) → Nat
  | [] => 0
  | x :: r => uptoBulkEntry x + uptoBulkEntries r
def uptoBulkEntry {H : Type} : Lit × DataW H → Nat
  | (.string bytes, d) => bytes.length + uptoBulk d + 1
  | (_, d) => uptoBulk d + 1
 end
def uptoSmall : (H : Type) → List (DataW H) → Bool := fun _ ds => decide (uptoBulkAll ds ≤ 1048576)
def OpenSpec.upto (s : _root_.Go.ChangeSpec) : _root_.Go.OpenSpec := { _root_.Go.OpenSpec.ofChange s with cond := some uptoSmall }

/-- 'laws.FnEnds', WHERE WHAT IT READS IS OF BULK AT MOST 1048576: true; the input reads as it did. -/
def fnEndsUptoRow : OpenClaim := { program := "ytnkbflecplbceaagreat", sum := "be36925ae9838c5283036a522e39d80b818fee031222fc5e1a438d271ab889bd", func := "loop.example/g01277/laws.FnEnds", spec := "fnEnds", unfollowed := true, recurses := true, apart := false, narrowed := true }
def FnEndsUptoSaid : Prop := fnEndsUptoRow.holds Tryz.pinned (OpenSpec.upto fnEndsSpec)

/-- 'laws.FnTally', WHERE WHAT IT READS IS OF BULK AT MOST 1048576: true; the input reads as it did. -/
def fnTallyUptoRow : OpenClaim := { program := "ytnkbflecplbceaagreat", sum := "be36925ae9838c5283036a522e39d80b818fee031222fc5e1a438d271ab889bd", func := "loop.example/g01277/laws.FnTally", spec := "fnTally", unfollowed := true, recurses := true, apart := false, narrowed := true }
def FnTallyUptoSaid : Prop := fnTallyUptoRow.holds Tryz.pinned (OpenSpec.upto fnTallySpec)

/-- 'laws.FnAlone', WHERE WHAT IT READS IS OF BULK AT MOST 1048576: true; the input reads as it did. -/
def fnAloneUptoRow : OpenClaim := { program := "ytnkbflecplbceaagreat", sum := "be36925ae9838c5283036a522e39d80b818fee031222fc5e1a438d271ab889bd", func := "loop.example/g01277/laws.FnAlone", spec := "fnAlone", unfollowed := true, recurses := true, apart := false, narrowed := true }
def FnAloneUptoSaid : Prop := fnAloneUptoRow.holds Tryz.pinned (OpenSpec.upto fnAloneSpec)

/-- 'laws.FnBumped', WHERE WHAT IT READS IS OF BULK AT MOST 1048576: true; the input reads as it did. -/
def fnBumpedUptoRow : OpenClaim := { program := "ytnkbflecplbceaagreat", sum := "be36925ae9838c5283036a522e39d80b818fee031222fc5e1a438d271ab889bd", func := "loop.example/g01277/laws.FnBumped", spec := "fnBumped", unfollowed := true, recurses := true, apart := false, narrowed := true }
def FnBumpedUptoSaid : Prop := fnBumpedUptoRow.holds Tryz.pinned (OpenSpec.upto fnBumpedSpec)

/-- 'laws.FnBank', WHERE WHAT IT READS IS OF BULK AT MOST 1048576: true; the input reads as it did. -/
def fnBankUptoRow : OpenClaim := { program := "ytnkbflecplbceaagreat", sum := "be36925ae9838c5283036a522e39d80b818fee031222fc5e1a438d271ab889bd", func := "loop.example/g01277/laws.FnBank", spec := "fnBank", unfollowed := true, recurses := true, apart := false, narrowed := true }
def FnBankUptoSaid : Prop := fnBankUptoRow.holds Tryz.pinned (OpenSpec.upto fnBankSpec)

/-- 'laws.FnKidsInTurn', WHERE WHAT IT READS IS OF BULK AT MOST 1048576: true; the input reads as it did. -/
def fnKidsInTurnUptoRow : OpenClaim := { program := "ytnkbflecplbceaagreat", sum := "be36925ae9838c5283036a522e39d80b818fee031222fc5e1a438d271ab889bd", func := "loop.example/g01277/laws.FnKidsInTurn", spec := "fnKidsInTurn", unfollowed := true, recurses := true, apart := false, narrowed := true }
def FnKidsInTurnUptoSaid : Prop := fnKidsInTurnUptoRow.holds Tryz.pinned (OpenSpec.upto fnKidsInTurnSpec)

end Rows
end Go.Proofs.YtnkbflecplbceaaGreat
