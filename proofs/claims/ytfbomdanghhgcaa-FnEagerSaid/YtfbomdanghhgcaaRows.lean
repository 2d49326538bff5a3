/-
  No cell of these rows narrows 'for every input' (looked for: loops, veiled, ifaces, maps, wideKeys, modest, calm, conditions, laid).
  DERIVED. THE GIVEN ROWS OF THIS SEAT. 6 by the template 'for every input the law returns true; each argument reads behind the call as it read before'; 0 by the template 'total and deterministic' (their statements: YtfbomdanghhgcaaTotals.lean).
  GIVEN WITH THE SEED: the statements are not yours to turn. If you find one false, say at which input.
  Laid BY PROGRAM, IN A SANDBOX (cutbox-rows.mjs): the forced cells as the released guide's own fill.sh prints them over the translation ba51fedafdf339af… (all of the seat's roots in one cut). By AI agents, Wed Nov 11 2026. No macro, syntax, notation, axiom, sorry.
-/
import Derived.Test.YtfbomdanghhgcaaChecked
import GoSem.Claim
import GoSem.ClaimJoined
import GoSem.ClaimMapViews
import Derived.JoinedTies
import Derived.KernelRfl
namespace Go.Proofs.Ytfbomdanghhgcaa
/- THE CELL 'sum', in the pinned program and in every row, IS THE sha256 OF THE DUMP (.gsa) THAT YtfbomdanghhgcaaProg.lean LOADS. Nothing in Lean hashes anything: it is a label: what it is worth is what the hold of that sum in a sandbox is worth. -/
noncomputable def Try.pinned : Pinned := { name := "ytfbomdanghhgcaa", sum := "ba51fedafdf339afc8a8258be15d69e0caa6dd299f20ae9b59e153db40c38a59", checked := Try.checked }
namespace Rows
def none {H : Type} : Left H := { results := [], args := [] }

/-- 'laws.FnEpochs': WHATEVER THE INPUT: true; the input reads as it did. -/
def fnEpochsSpec : ChangeSpec := { name := "fnEpochs", fn := fun _ => fun
  | [d] => { results := [.lit (.bool true)], args := [d] }
  | _ => none }
def fnEpochsRow : OpenClaim := { program := "ytfbomdanghhgcaa", sum := "ba51fedafdf339afc8a8258be15d69e0caa6dd299f20ae9b59e153db40c38a59", func := "loop.example/g01277/laws.FnEpochs", spec := "fnEpochs", unfollowed := true, recurses := true, apart := false }
def FnEpochsSaid : Prop := fnEpochsRow.holds Try.pinned (OpenSpec.ofChange fnEpochsSpec)

/-- ITS FALSE NEIGHBOUR: 'it returns false'. Refute it at one input. -/
def fnEpochsWrong : ChangeSpec := { name := "fnEpochs", fn := fun _ => fun
  | [d] => { results := [.lit (.bool false)], args := [d] }
  | _ => none }
def FnEpochsWrongFalsely : Prop := fnEpochsRow.holds Try.pinned (OpenSpec.ofChange fnEpochsWrong)

/-- 'laws.FnExactEpochPlay': WHATEVER THE INPUT: true; the input reads as it did. -/
def fnExactEpochPlaySpec : ChangeSpec := { name := "fnExactEpochPlay", fn := fun _ => fun
  | [d] => { results := [.lit (.bool true)], args := [d] }
  | _ => none }
def fnExactEpochPlayRow : OpenClaim := { program := "ytfbomdanghhgcaa", sum := "ba51fedafdf339afc8a8258be15d69e0caa6dd299f20ae9b59e153db40c38a59", func := "loop.example/g01277/laws.FnExactEpochPlay", spec := "fnExactEpochPlay", unfollowed := true, recurses := true, apart := false }
def FnExactEpochPlaySaid : Prop := fnExactEpochPlayRow.holds Try.pinned (OpenSpec.ofChange fnExactEpochPlaySpec)

/-- ITS FALSE NEIGHBOUR: 'it returns false'. Refute it at one input. -/
def fnExactEpochPlayWrong : ChangeSpec := { name := "fnExactEpochPlay", fn := fun _ => fun
  | [d] => { results := [.lit (.bool false)], args := [d] }
  | _ => none }
def FnExactEpochPlayWrongFalsely : Prop := fnExactEpochPlayRow.holds Try.pinned (OpenSpec.ofChange fnExactEpochPlayWrong)

/-- 'laws.FnExactEpochFlush': WHATEVER THE INPUT: true; the input reads as it did. -/
def fnExactEpochFlushSpec : ChangeSpec := { name := "fnExactEpochFlush", fn := fun _ => fun
  | [d] => { results := [.lit (.bool true)], args := [d] }
  | _ => none }
def fnExactEpochFlushRow : OpenClaim := { program := "ytfbomdanghhgcaa", sum := "ba51fedafdf339afc8a8258be15d69e0caa6dd299f20ae9b59e153db40c38a59", func := "loop.example/g01277/laws.FnExactEpochFlush", spec := "fnExactEpochFlush", unfollowed := true, recurses := true, apart := false }
def FnExactEpochFlushSaid : Prop := fnExactEpochFlushRow.holds Try.pinned (OpenSpec.ofChange fnExactEpochFlushSpec)

/-- ITS FALSE NEIGHBOUR: 'it returns false'. Refute it at one input. -/
def fnExactEpochFlushWrong : ChangeSpec := { name := "fnExactEpochFlush", fn := fun _ => fun
  | [d] => { results := [.lit (.bool false)], args := [d] }
  | _ => none }
def FnExactEpochFlushWrongFalsely : Prop := fnExactEpochFlushRow.holds Try.pinned (OpenSpec.ofChange fnExactEpochFlushWrong)

/-- 'laws.FnJournal': WHATEVER THE INPUT: true; the input reads as it did. -/
def fnJournalSpec : ChangeSpec := { name := "fnJournal", fn := fun _ => fun
  | [d] => { results := [.lit (.bool true)], args := [d] }
  | _ => none }
def fnJournalRow : OpenClaim := { program := "ytfbomdanghhgcaa", sum := "ba51fedafdf339afc8a8258be15d69e0caa6dd299f20ae9b59e153db40c38a59", func := "loop.example/g01277/laws.FnJournal", spec := "fnJournal", apart := false }
def FnJournalSaid : Prop := fnJournalRow.holds Try.pinned (OpenSpec.ofChange fnJournalSpec)

/-- ITS FALSE NEIGHBOUR: 'it returns false'. Refute it at one input. -/
def fnJournalWrong : ChangeSpec := { name := "fnJournal", fn := fun _ => fun
  | [d] => { results := [.lit (.bool false)], args := [d] }
  | _ => none }
def FnJournalWrongFalsely : Prop := fnJournalRow.holds Try.pinned (OpenSpec.ofChange fnJournalWrong)

/-- 'laws.FnExactEagerRun': WHATEVER THE INPUT: true; the input reads as it did. -/
def fnExactEagerRunSpec : ChangeSpec := { name := "fnExactEagerRun", fn := fun _ => fun
  | [d1, d2, d3] => { results := [.lit (.bool true)], args := [d1, d2, d3] }
  | _ => none }
def fnExactEagerRunRow : OpenClaim := { program := "ytfbomdanghhgcaa", sum := "ba51fedafdf339afc8a8258be15d69e0caa6dd299f20ae9b59e153db40c38a59", func := "loop.example/g01277/laws.FnExactEagerRun", spec := "fnExactEagerRun", unfollowed := true, recurses := true, apart := false }
def FnExactEagerRunSaid : Prop := fnExactEagerRunRow.holds Try.pinned (OpenSpec.ofChange fnExactEagerRunSpec)

/-- ITS FALSE NEIGHBOUR: 'it returns false'. Refute it at one input. -/
def fnExactEagerRunWrong : ChangeSpec := { name := "fnExactEagerRun", fn := fun _ => fun
  | [d1, d2, d3] => { results := [.lit (.bool false)], args := [d1, d2, d3] }
  | _ => none }
def FnExactEagerRunWrongFalsely : Prop := fnExactEagerRunRow.holds Try.pinned (OpenSpec.ofChange fnExactEagerRunWrong)

/-- 'laws.FnEager': WHATEVER THE INPUT: true; the input reads as it did. -/
def fnEagerSpec : ChangeSpec := { name := "fnEager", fn := fun _ => fun
  | [d] => { results := [.lit (.bool true)], args := [d] }
  | _ => none }
def fnEagerRow : OpenClaim := { program := "ytfbomdanghhgcaa", sum := "ba51fedafdf339afc8a8258be15d69e0caa6dd299f20ae9b59e153db40c38a59", func := "loop.example/g01277/laws.FnEager", spec := "fnEager", unfollowed := true, recurses := true, apart := false }
def FnEagerSaid : Prop := fnEagerRow.holds Try.pinned (OpenSpec.ofChange fnEagerSpec)

/-- ITS FALSE NEIGHBOUR: 'it returns false'. Refute it at one input. -/
def fnEagerWrong : ChangeSpec := { name := "fnEager", fn := fun _ => fun
  | [d] => { results := [.lit (.bool false)], args := [d] }
  | _ => none }
def FnEagerWrongFalsely : Prop := fnEagerRow.holds Try.pinned (OpenSpec.ofChange fnEagerWrong)

/- THE SECOND FORM. 'bulk': how many values and letters a reading holds, each counted each time it is reached (what is shared counts as often as it is met; a slice's spare places count too). A statement '..UptoSaid' is the law's where the arguments, and the package variables that the reading takes, are together of bulk at most 1048576: NARROWER than '..Said'. Prove '..Said' where nothing that the law and all that it calls make is longer than what came in: it says more and counts as full. Else prove '..UptoSaid'. A law counts once. -/
mutual
def uptoBulk {H : Type} : DataW H → Nat
  | .lit (.string bytes) => bytes.length + 1
  | .lit _ => 1
  | .nil => 1
  | .ptr d => uptoBulk d + 1
  | .slice elems spare => uptoBulkAll elems + uptoBulkAll spare + 1
  | .agg parts => uptoBulkAll parts + 1
  | .iface _ d => uptoBulk d + 1
  | .map entries => uptoBulkEntries entries + 1
  | .held _ => 1
def uptoBulkAll {H : Type} : List (DataW H) → Nat
  | [] => 0
  | d :: r => uptoBulk d + uptoBulkAll r
def uptoBulkEntries {H : Type} : List (Lit × DataW H) → Nat
  | [] => 0
  | x :: r => uptoBulkEntry x + uptoBulkEntries r
def uptoBulkEntry {H : Type} : Lit × DataW H → Nat
  | (.string bytes, d) => bytes.length + uptoBulk d + 1
  | (_, d) => uptoBulk d + 1
 end
def uptoSmall : (H : Type) → List (DataW H) → Bool := fun _ ds => decide (uptoBulkAll ds ≤ 1048576)
def OpenSpec.upto (s : _root_.Go.ChangeSpec) : _root_.Go.OpenSpec := { _root_.Go.OpenSpec.ofChange s with cond := some uptoSmall }

/-- 'laws.FnEpochs', WHERE WHAT IT READS IS OF BULK AT MOST 1048576: true; the input reads as it did. -/
def fnEpochsUptoRow : OpenClaim := { program := "ytfbomdanghhgcaa", sum := "ba51fedafdf339afc8a8258be15d69e0caa6dd299f20ae9b59e153db40c38a59", func := "loop.example/g01277/laws.FnEpochs", spec := "fnEpochs", unfollowed := true, recurses := true, apart := false, narrowed := true }
def FnEpochsUptoSaid : Prop := fnEpochsUptoRow.holds Try.pinned (OpenSpec.upto fnEpochsSpec)

/-- 'laws.FnExactEpochPlay', WHERE WHAT IT READS IS OF BULK AT MOST 1048576: true; the input reads as it did. -/
def fnExactEpochPlayUptoRow : OpenClaim := { program := "ytfbomdanghhgcaa", sum := "ba51fedafdf339afc8a8258be15d69e0caa6dd299f20ae9b59e153db40c38a59", func := "loop.example/g01277/laws.FnExactEpochPlay", spec := "fnExactEpochPlay", unfollowed := true, recurses := true, apart := false, narrowed := true }
def FnExactEpochPlayUptoSaid : Prop := fnExactEpochPlayUptoRow.holds Try.pinned (OpenSpec.upto fnExactEpochPlaySpec)

/-- 'laws.FnExactEpochFlush', WHERE WHAT IT READS IS OF BULK AT MOST 1048576: true; the input reads as it did. -/
def fnExactEpochFlushUptoRow : OpenClaim := { program := "ytfbomdanghhgcaa", sum := "ba51fedafdf339afc8a8258be15d69e0caa6dd299f20ae9b59e153db40c38a59", func := "loop.example/g01277/laws.FnExactEpochFlush", spec := "fnExactEpochFlush", unfollowed := true, recurses := true, apart := false, narrowed := true }
def FnExactEpochFlushUptoSaid : Prop := fnExactEpochFlushUptoRow.holds Try.pinned (OpenSpec.upto fnExactEpochFlushSpec)

/-- 'laws.FnJournal', WHERE WHAT IT READS IS OF BULK AT MOST 1048576: true; the input reads as it did. -/
def fnJournalUptoRow : OpenClaim := { program := "ytfbomdanghhgcaa", sum := "ba51fedafdf339afc8a8258be15d69e0caa6dd299f20ae9b59e153db40c38a59", func := "loop.example/g01277/laws.FnJournal", spec := "fnJournal", apart := false, narrowed := true }
def FnJournalUptoSaid : Prop := fnJournalUptoRow.holds Try.pinned (OpenSpec.upto fnJournalSpec)

/-- 'laws.FnExactEagerRun', WHERE WHAT IT READS IS OF BULK AT MOST 1048576: true; the input reads as it did. -/
def fnExactEagerRunUptoRow : OpenClaim := { program := "ytfbomdanghhgcaa", sum := "ba51fedafdf339afc8a8258be15d69e0caa6dd299f20ae9b59e153db40c38a59", func := "loop.example/g01277/laws.FnExactEagerRun", spec := "fnExactEagerRun", unfollowed := true, recurses := true, apart := false, narrowed := true }
def FnExactEagerRunUptoSaid : Prop := fnExactEagerRunUptoRow.holds Try.pinned (OpenSpec.upto fnExactEagerRunSpec)

/-- 'laws.FnEager', WHERE WHAT IT READS IS OF BULK AT MOST 1048576: true; the input reads as it did. -/
def fnEagerUptoRow : OpenClaim := { program := "ytfbomdanghhgcaa", sum := "ba51fedafdf339afc8a8258be15d69e0caa6dd299f20ae9b59e153db40c38a59", func := "loop.example/g01277/laws.FnEager", spec := "fnEager", unfollowed := true, recurses := true, apart := false, narrowed := true }
def FnEagerUptoSaid : Prop := fnEagerUptoRow.holds Try.pinned (OpenSpec.upto fnEagerSpec)

end Rows
end Go.Proofs.Ytfbomdanghhgcaa
