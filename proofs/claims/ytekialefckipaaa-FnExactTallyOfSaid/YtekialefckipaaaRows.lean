/-
  No cell of these rows narrows 'for every input' (looked for: loops, veiled, ifaces, maps, wideKeys, modest, calm, conditions, laid).
  DERIVED. THE GIVEN ROWS OF THIS SEAT. 5 by the template 'for every input the law returns true; each argument reads behind the call as it read before'; 0 by the template 'total and deterministic' (their statements: YtekialefckipaaaTotals.lean).
  GIVEN WITH THE SEED: the statements are not yours to turn. If you find one false, say at which input.
  Laid BY PROGRAM, IN A SANDBOX (cutbox-rows.mjs): the forced cells as the released guide's own fill.sh prints them over the translation 0b9de644545a30ce… (all of the seat's roots in one cut). By AI agents, Wed Nov 11 2026. No macro, syntax, notation, axiom, sorry.
-/
import Derived.Test.YtekialefckipaaaChecked
import GoSem.Claim
import GoSem.ClaimJoined
import GoSem.ClaimMapViews
import Derived.JoinedTies
import Derived.KernelRfl
namespace Go.Proofs.Ytekialefckipaaa
/- THE CELL 'sum', in the pinned program and in every row, IS THE sha256 OF THE DUMP (.gsa) THAT YtekialefckipaaaProg.lean LOADS. Nothing in Lean hashes anything: it is a label: what it is worth is what the hold of that sum in a sandbox is worth. -/
noncomputable def Try.pinned : Pinned := { name := "ytekialefckipaaa", sum := "0b9de644545a30cec96e06a60a53978ff54fc07dfa58610802d4b3f926fc7365", checked := Try.checked }
namespace Rows
def none {H : Type} : Left H := { results := [], args := [] }

/-- 'laws.FnExactEagerRun': WHATEVER THE INPUT: true; the input reads as it did. -/
def fnExactEagerRunSpec : ChangeSpec := { name := "fnExactEagerRun", fn := fun _ => fun
  | [d1, d2, d3] => { results := [.lit (.bool true)], args := [d1, d2, d3] }
  | _ => none }
def fnExactEagerRunRow : OpenClaim := { program := "ytekialefckipaaa", sum := "0b9de644545a30cec96e06a60a53978ff54fc07dfa58610802d4b3f926fc7365", func := "loop.example/g01277/laws.FnExactEagerRun", spec := "fnExactEagerRun", unfollowed := true, recurses := true, apart := false }
def FnExactEagerRunSaid : Prop := fnExactEagerRunRow.holds Try.pinned (OpenSpec.ofChange fnExactEagerRunSpec)

/-- ITS FALSE NEIGHBOUR: 'it returns false'. Refute it at one input. -/
def fnExactEagerRunWrong : ChangeSpec := { name := "fnExactEagerRun", fn := fun _ => fun
  | [d1, d2, d3] => { results := [.lit (.bool false)], args := [d1, d2, d3] }
  | _ => none }
def FnExactEagerRunWrongFalsely : Prop := fnExactEagerRunRow.holds Try.pinned (OpenSpec.ofChange fnExactEagerRunWrong)

/-- 'laws.FnEager': WHATEVER THE INPUT: true; the input reads as it did. -/
def fnEagerSpec : ChangeSpec := { name := "fnEager", fn := fun _ => fun
  | [d] => { results := [.lit (.bool true)], args := [d] }
  | _ => none }
def fnEagerRow : OpenClaim := { program := "ytekialefckipaaa", sum := "0b9de644545a30cec96e06a60a53978ff54fc07dfa58610802d4b3f926fc7365", func := "loop.example/g01277/laws.FnEager", spec := "fnEager", unfollowed := true, recurses := true, apart := false }
def FnEagerSaid : Prop := fnEagerRow.holds Try.pinned (OpenSpec.ofChange fnEagerSpec)

/-- ITS FALSE NEIGHBOUR: 'it returns false'. Refute it at one input. -/
def fnEagerWrong : ChangeSpec := { name := "fnEager", fn := fun _ => fun
  | [d] => { results := [.lit (.bool false)], args := [d] }
  | _ => none }
def FnEagerWrongFalsely : Prop := fnEagerRow.holds Try.pinned (OpenSpec.ofChange fnEagerWrong)

/-- 'laws.FnExactReadsOf': WHATEVER THE INPUT: true; the input reads as it did. -/
def fnExactReadsOfSpec : ChangeSpec := { name := "fnExactReadsOf", fn := fun _ => fun
  | [d1, d2, d3] => { results := [.lit (.bool true)], args := [d1, d2, d3] }
  | _ => none }
def fnExactReadsOfRow : OpenClaim := { program := "ytekialefckipaaa", sum := "0b9de644545a30cec96e06a60a53978ff54fc07dfa58610802d4b3f926fc7365", func := "loop.example/g01277/laws.FnExactReadsOf", spec := "fnExactReadsOf", unfollowed := true, recurses := true, apart := false }
def FnExactReadsOfSaid : Prop := fnExactReadsOfRow.holds Try.pinned (OpenSpec.ofChange fnExactReadsOfSpec)

/-- ITS FALSE NEIGHBOUR: 'it returns false'. Refute it at one input. -/
def fnExactReadsOfWrong : ChangeSpec := { name := "fnExactReadsOf", fn := fun _ => fun
  | [d1, d2, d3] => { results := [.lit (.bool false)], args := [d1, d2, d3] }
  | _ => none }
def FnExactReadsOfWrongFalsely : Prop := fnExactReadsOfRow.holds Try.pinned (OpenSpec.ofChange fnExactReadsOfWrong)

/-- 'laws.FnExactTallyOf': WHATEVER THE INPUT: true; the input reads as it did. -/
def fnExactTallyOfSpec : ChangeSpec := { name := "fnExactTallyOf", fn := fun _ => fun
  | [d] => { results := [.lit (.bool true)], args := [d] }
  | _ => none }
def fnExactTallyOfRow : OpenClaim := { program := "ytekialefckipaaa", sum := "0b9de644545a30cec96e06a60a53978ff54fc07dfa58610802d4b3f926fc7365", func := "loop.example/g01277/laws.FnExactTallyOf", spec := "fnExactTallyOf", apart := false }
def FnExactTallyOfSaid : Prop := fnExactTallyOfRow.holds Try.pinned (OpenSpec.ofChange fnExactTallyOfSpec)

/-- ITS FALSE NEIGHBOUR: 'it returns false'. Refute it at one input. -/
def fnExactTallyOfWrong : ChangeSpec := { name := "fnExactTallyOf", fn := fun _ => fun
  | [d] => { results := [.lit (.bool false)], args := [d] }
  | _ => none }
def FnExactTallyOfWrongFalsely : Prop := fnExactTallyOfRow.holds Try.pinned (OpenSpec.ofChange fnExactTallyOfWrong)

/-- 'laws.FnOrElse': WHATEVER THE INPUT: true; the input reads as it did. -/
def fnOrElseSpec : ChangeSpec := { name := "fnOrElse", fn := fun _ => fun
  | [d] => { results := [.lit (.bool true)], args := [d] }
  | _ => none }
def fnOrElseRow : OpenClaim := { program := "ytekialefckipaaa", sum := "0b9de644545a30cec96e06a60a53978ff54fc07dfa58610802d4b3f926fc7365", func := "loop.example/g01277/laws.FnOrElse", spec := "fnOrElse", unfollowed := true, recurses := true, apart := false }
def FnOrElseSaid : Prop := fnOrElseRow.holds Try.pinned (OpenSpec.ofChange fnOrElseSpec)

/-- ITS FALSE NEIGHBOUR: 'it returns false'. Refute it at one input. -/
def fnOrElseWrong : ChangeSpec := { name := "fnOrElse", fn := fun _ => fun
  | [d] => { results := [.lit (.bool false)], args := [d] }
  | _ => none }
def FnOrElseWrongFalsely : Prop := fnOrElseRow.holds Try.pinned (OpenSpec.ofChange fnOrElseWrong)

/- THE SECOND FORM. 'bulk': how many values and letters a reading holds, each counted each time it is reached (what is shared counts as often as it is met; a slice's spare places count too). A statement '..UptoSaid' is the law's where the arguments, and the package variables that the reading takes, are together of bulk at most 1048576: NARROWER than '..Said'. Prove '..Said' where nothing that the law and all that it calls make is longer than what came in: it says more and counts as full. Else prove '..UptoSaid'. A law counts once. -/
mutual
def uptoBulk {H : Type} : DataW H → Nat
  | .lit (.string bytes) => bytes.length + 1
  | .lit _ => 1
  | .nil => 1
  | .ptr d => uptoBulk d + 1
  | .slice elems spare => uptoBulkAll elems + uptoBulkAll spare + 1
  | .agg parts => uptoBulkAll parts + 1
  | .iface _ d => uptoBulk d + 1
  | .map entries => uptoBulkEntries entries + 1
  | .held _ => 1
def uptoBulkAll {H : Type} : List (DataW H) → Nat
  | [] => 0
  | d :: r => uptoBulk d + uptoBulkAll r
def uptoBulkEntries {H : Type} : List (Lit × DataW H) → Nat
  | [] => 0
  | x :: r => uptoBulkEntry x + uptoBulkEntries r
def uptoBulkEntry {H : Type} : Lit × DataW H → Nat
  | (.string bytes, d) => bytes.length + uptoBulk d + 1
  | (_, d) => uptoBulk d + 1
 end
def uptoSmall : (H : Type) → List (DataW H) → Bool := fun _ ds => decide (uptoBulkAll ds ≤ 1048576)
def OpenSpec.upto (s : _root_.Go.ChangeSpec) : _root_.Go.OpenSpec := { _root_.Go.OpenSpec.ofChange s with cond := some uptoSmall }

/-- 'laws.FnExactEagerRun', WHERE WHAT IT READS IS OF BULK AT MOST 1048576: true; the input reads as it did. -/
def fnExactEagerRunUptoRow : OpenClaim := { program := "ytekialefckipaaa", sum := "0b9de644545a30cec96e06a60a53978ff54fc07dfa58610802d4b3f926fc7365", func := "loop.example/g01277/laws.FnExactEagerRun", spec := "fnExactEagerRun", unfollowed := true, recurses := true, apart := false, narrowed := true }
def FnExactEagerRunUptoSaid : Prop := fnExactEagerRunUptoRow.holds Try.pinned (OpenSpec.upto fnExactEagerRunSpec)

/-- 'laws.FnEager', WHERE WHAT IT READS IS OF BULK AT MOST 1048576: true; the input reads as it did. -/
def fnEagerUptoRow : OpenClaim := { program := "ytekialefckipaaa", sum := "0b9de644545a30cec96e06a60a53978ff54fc07dfa58610802d4b3f926fc7365", func := "loop.example/g01277/laws.FnEager", spec := "fnEager", unfollowed := true, recurses := true, apart := false, narrowed := true }
def FnEagerUptoSaid : Prop := fnEagerUptoRow.holds Try.pinned (OpenSpec.upto fnEagerSpec)

/-- 'laws.FnExactReadsOf', WHERE WHAT IT READS IS OF BULK AT MOST 1048576: true; the input reads as it did. -/
def fnExactReadsOfUptoRow : OpenClaim := { program := "ytekialefckipaaa", sum := "0b9de644545a30cec96e06a60a53978ff54fc07dfa58610802d4b3f926fc7365", func := "loop.example/g01277/laws.FnExactReadsOf", spec := "fnExactReadsOf", unfollowed := true, recurses := true, apart := false, narrowed := true }
def FnExactReadsOfUptoSaid : Prop := fnExactReadsOfUptoRow.holds Try.pinned (OpenSpec.upto fnExactReadsOfSpec)

/-- 'laws.FnExactTallyOf', WHERE WHAT IT READS IS OF BULK AT MOST 1048576: true; the input reads as it did. -/
def fnExactTallyOfUptoRow : OpenClaim := { program := "ytekialefckipaaa", sum := "0b9de644545a30cec96e06a60a53978ff54fc07dfa58610802d4b3f926fc7365", func := "loop.example/g01277/laws.FnExactTallyOf", spec := "fnExactTallyOf", apart := false, narrowed := true }
def FnExactTallyOfUptoSaid : Prop := fnExactTallyOfUptoRow.holds Try.pinned (OpenSpec.upto fnExactTallyOfSpec)

/-- 'laws.FnOrElse', WHERE WHAT IT READS IS OF BULK AT MOST 1048576: true; the input reads as it did. -/
def fnOrElseUptoRow : OpenClaim := { program := "ytekialefckipaaa", sum := "0b9de644545a30cec96e06a60a53978ff54fc07dfa58610802d4b3f926fc7365", func := "loop.example/g01277/laws.FnOrElse", spec := "fnOrElse", unfollowed := true, recurses := true, apart := false, narrowed := true }
def FnOrElseUptoSaid : Prop := fnOrElseUptoRow.holds Try.pinned (OpenSpec.upto fnOrElseSpec)

end Rows
end Go.Proofs.Ytekialefckipaaa
