/-
  No cell of these rows narrows 'for every input' (looked for: loops, veiled, ifaces, maps, wideKeys, modest, calm, conditions, laid).
  DERIVED. THE GIVEN ROWS OF THIS SEAT. 3 by the template 'for every input the law returns true; each argument reads behind the call as it read before'; 0 by the template 'total and deterministic' (their statements: YtceckfecihemnaaGreatTotals.lean).
  GIVEN WITH THE SEED: the statements are not yours to turn. If you find one false, say at which input.
  Laid BY PROGRAM, IN A SANDBOX (cutbox-rows.mjs): the forced cells as the released guide's own fill.sh prints them over the translation f85076ac0c07b1ac… (all of the seat's roots in one cut). By AI agents, Wed Nov 11 2026. No macro, syntax, notation, axiom, sorry.
-/
import Derived.Test.YtceckfecihemnaaGreatChecked
import GoSem.Claim
import GoSem.ClaimJoined
import GoSem.ClaimMapViews
import Derived.JoinedTies
import Derived.KernelRfl
namespace Go.Proofs.YtceckfecihemnaaGreat
/- THE CELL 'sum', in the pinned program and in every row, IS THE sha256 OF THE DUMP (.gsa) THAT YtceckfecihemnaaGreatProg.lean LOADS. Nothing in Lean hashes anything: it is a label: what it is worth is what the hold of that sum in a sandbox is worth. -/
noncomputable def Tryz.pinned : Pinned := { name := "ytceckfecihemnaagreat", sum := "f85076ac0c07b1ac803cbd513c54301b55d2d3e279ff5455b604b0fd947ad1ff", checked := Tryz.checked }
namespace Rows
def none {H : Type} : Left H := { results := [], args := [] }

/-- 'laws.FnExactOrElse': WHATEVER THE INPUT: true; the input reads as it did. -/
def fnExactOrElseSpec : ChangeSpec := { name := "fnExactOrElse", fn := fun _ => fun
  | [d1, d2, d3] => { results := [.lit (.bool true)], args := [d1, d2, d3] }
  | _ => none }
def fnExactOrElseRow : OpenClaim := { program := "ytceckfecihemnaagreat", sum := "f85076ac0c07b1ac803cbd513c54301b55d2d3e279ff5455b604b0fd947ad1ff", func := "loop.example/g01277/laws.FnExactOrElse", spec := "fnExactOrElse", unfollowed := true, recurses := true, apart := false }
def FnExactOrElseSaid : Prop := fnExactOrElseRow.holds Tryz.pinned (OpenSpec.ofChange fnExactOrElseSpec)

/-- ITS FALSE NEIGHBOUR: 'it returns false'. Refute it at one input. -/
def fnExactOrElseWrong : ChangeSpec := { name := "fnExactOrElse", fn := fun _ => fun
  | [d1, d2, d3] => { results := [.lit (.bool false)], args := [d1, d2, d3] }
  | _ => none }
def FnExactOrElseWrongFalsely : Prop := fnExactOrElseRow.holds Tryz.pinned (OpenSpec.ofChange fnExactOrElseWrong)

/-- 'laws.FnExactWaitOn': WHATEVER THE INPUT: true; the input reads as it did. -/
def fnExactWaitOnSpec : ChangeSpec := { name := "fnExactWaitOn", fn := fun _ => fun
  | [d1, d2, d3, d4] => { results := [.lit (.bool true)], args := [d1, d2, d3, d4] }
  | _ => none }
def fnExactWaitOnRow : OpenClaim := { program := "ytceckfecihemnaagreat", sum := "f85076ac0c07b1ac803cbd513c54301b55d2d3e279ff5455b604b0fd947ad1ff", func := "loop.example/g01277/laws.FnExactWaitOn", spec := "fnExactWaitOn", unfollowed := true, recurses := true, apart := false }
def FnExactWaitOnSaid : Prop := fnExactWaitOnRow.holds Tryz.pinned (OpenSpec.ofChange fnExactWaitOnSpec)

/-- ITS FALSE NEIGHBOUR: 'it returns false'. Refute it at one input. -/
def fnExactWaitOnWrong : ChangeSpec := { name := "fnExactWaitOn", fn := fun _ => fun
  | [d1, d2, d3, d4] => { results := [.lit (.bool false)], args := [d1, d2, d3, d4] }
  | _ => none }
def FnExactWaitOnWrongFalsely : Prop := fnExactWaitOnRow.holds Tryz.pinned (OpenSpec.ofChange fnExactWaitOnWrong)

/-- 'laws.FnWaits': WHATEVER THE INPUT: true; the input reads as it did. -/
def fnWaitsSpec : ChangeSpec := { name := "fnWaits", fn := fun _ => fun
  | [d] => { results := [.lit (.bool true)], args := [d] }
  | _ => none }
def fnWaitsRow : OpenClaim := { program := "ytceckfecihemnaagreat", sum := "f85076ac0c07b1ac803cbd513c54301b55d2d3e279ff5455b604b0fd947ad1ff", func := "loop.example/g01277/laws.FnWaits", spec := "fnWaits", unfollowed := true, recurses := true, apart := false }
def FnWaitsSaid : Prop := fnWaitsRow.holds Tryz.pinned (OpenSpec.ofChange fnWaitsSpec)

/-- ITS FALSE NEIGHBOUR: 'it returns false'. Refute it at one input. -/
def fnWaitsWrong : ChangeSpec := { name := "fnWaits", fn := fun _ => fun
  | [d] => { results := [.lit (.bool false)], args := [d] }
  | _ => none }
def FnWaitsWrongFalsely : Prop := fnWaitsRow.holds Tryz.pinned (OpenSpec.ofChange fnWaitsWrong)

/- THE SECOND FORM. 'bulk': how many values and letters a reading holds, each counted each time it is reached (what is shared counts as often as it is met; a slice's spare places count too). A statement '..UptoSaid' is the law's where the arguments, and the package variables that the reading takes, are together of bulk at most 1048576: NARROWER than '..Said'. Prove '..Said' where nothing that the law and all that it calls make is longer than what came in: it says more and counts as full. Else prove '..UptoSaid'. A law counts once. -/
mutual
def uptoBulk {H : Type} : DataW H → Nat
  | .lit (.string bytes) => bytes.length + 1
  | .lit _ => 1
  | .nil => 1
  | .ptr d => uptoBulk d + 1
  | .slice elems spare => uptoBulkAll elems + uptoBulkAll spare + 1
  | .agg parts => uptoBulkAll parts + 1
  | .iface _ d => uptoBulk d + 1
  | .map entries => uptoBulkEntries entries + 1
  | .held _ => 1
def uptoBulkAll {H : Type} : List (DataW H) → Nat
  | [] => 0
  | d :: r => uptoBulk d + uptoBulkAll r
def uptoBulkEntries {H : Type} : List (Lit × DataW H) → Nat
  | [] => 0
  | x :: r => uptoBulkEntry x + uptoBulkEntries r
def uptoBulkEntry {H : Type} : Lit × DataW H → Nat
  | (.string bytes, d) => bytes.length + uptoBulk d + 1
  | (_, d) => uptoBulk d + 1
 end
def uptoSmall : (H : Type) → List (DataW H) → Bool := fun _ ds => decide (uptoBulkAll ds ≤ 1048576)
def OpenSpec.upto (s : _root_.Go.ChangeSpec) : _root_.Go.OpenSpec := { _root_.Go.OpenSpec.ofChange s with cond := some uptoSmall }

/-- 'laws.FnExactOrElse', WHERE WHAT IT READS IS OF BULK AT MOST 1048576: true; the input reads as it did. -/
def fnExactOrElseUptoRow : OpenClaim := { program := "ytceckfecihemnaagreat", sum := "f85076ac0c07b1ac803cbd513c54301b55d2d3e279ff5455b604b0fd947ad1ff", func := "loop.example/g01277/laws.FnExactOrElse", spec := "fnExactOrElse", unfollowed := true, recurses := true, apart := false, narrowed := true }
def FnExactOrElseUptoSaid : Prop := fnExactOrElseUptoRow.holds Tryz.pinned (OpenSpec.upto fnExactOrElseSpec)

/-- 'laws.FnExactWaitOn', WHERE WHAT IT READS IS OF BULK AT MOST 1048576: true; the input reads as it did. -/
def fnExactWaitOnUptoRow : OpenClaim := { program := "ytceckfecihemnaagreat", sum := "f85076ac0c07b1ac803cbd513c54301b55d2d3e279ff5455b604b0fd947ad1ff", func := "loop.example/g01277/laws.FnExactWaitOn", spec := "fnExactWaitOn", unfollowed := true, recurses := true, apart := false, narrowed := true }
def FnExactWaitOnUptoSaid : Prop := fnExactWaitOnUptoRow.holds Tryz.pinned (OpenSpec.upto fnExactWaitOnSpec)

/-- 'laws.FnWaits', WHERE WHAT IT READS IS OF BULK AT MOST 1048576: true; the input reads as it did. -/
def fnWaitsUptoRow : OpenClaim := { program := "ytceckfecihemnaagreat", sum := "f85076ac0c07b1ac803cbd513c54301b55d2d3e279ff5455b604b0fd947ad1ff", func := "loop.example/g01277/laws.FnWaits", spec := "fnWaits", unfollowed := true, recurses := true, apart := false, narrowed := true }
def FnWaitsUptoSaid : Prop := fnWaitsUptoRow.holds Tryz.pinned (OpenSpec.upto fnWaitsSpec)

end Rows
end Go.Proofs.YtceckfecihemnaaGreat
