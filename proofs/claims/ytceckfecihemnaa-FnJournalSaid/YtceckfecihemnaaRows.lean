/-
  No cell of these rows narrows 'for every input' (looked for: loops, veiled, ifaces, maps, wideKeys, modest, calm, conditions, laid).
  DERIVED. THE GIVEN ROWS OF THIS SEAT. 3 by the template 'for every input the law returns true; each argument reads behind the call as it read before'; 0 by the template 'total and deterministic' (their statements: YtceckfecihemnaaTotals.lean).
  GIVEN WITH THE SEED: the statements are not yours to turn. If you find one false, say at which input.
  Laid BY PROGRAM, IN A SANDBOX (cutbox-rows.mjs): the forced cells as the released guide's own fill.sh prints them over the translation 0d0fff3aff0e2cb5… (all of the seat's roots in one cut). By AI agents, Wed Nov 11 2026. No macro, syntax, notation, axiom, sorry.
-/
import Derived.Test.YtceckfecihemnaaChecked
import GoSem.Claim
import GoSem.ClaimJoined
import GoSem.ClaimMapViews
import Derived.JoinedTies
import Derived.KernelRfl
namespace Go.Proofs.Ytceckfecihemnaa
/- THE CELL 'sum', in the pinned program and in every row, IS THE sha256 OF THE DUMP (.gsa) THAT YtceckfecihemnaaProg.lean LOADS. Nothing in Lean hashes anything: it is a label: what it is worth is what the hold of that sum in a sandbox is worth. -/
noncomputable def Try.pinned : Pinned := { name := "ytceckfecihemnaa", sum := "0d0fff3aff0e2cb5af20cce46ca9745ebbd5ddc221082e62fae50acd4bc4db22", checked := Try.checked }
namespace Rows
def none {H : Type} : Left H := { results := [], args := [] }

/-- 'laws.FnJournal': WHATEVER THE INPUT: true; the input reads as it did. -/
def fnJournalSpec : ChangeSpec := { name := "fnJournal", fn := fun _ => fun
  | [d] => { results := [.lit (.bool true)], args := [d] }
  | _ => none }
def fnJournalRow : OpenClaim := { program := "ytceckfecihemnaa", sum := "0d0fff3aff0e2cb5af20cce46ca9745ebbd5ddc221082e62fae50acd4bc4db22", func := "loop.example/g01277/laws.FnJournal", spec := "fnJournal", apart := false }
def FnJournalSaid : Prop := fnJournalRow.holds Try.pinned (OpenSpec.ofChange fnJournalSpec)

/-- ITS FALSE NEIGHBOUR: 'it returns false'. Refute it at one input. -/
def fnJournalWrong : ChangeSpec := { name := "fnJournal", fn := fun _ => fun
  | [d] => { results := [.lit (.bool false)], args := [d] }
  | _ => none }
def FnJournalWrongFalsely : Prop := fnJournalRow.holds Try.pinned (OpenSpec.ofChange fnJournalWrong)

/-- 'laws.FnExactReadsOf': WHATEVER THE INPUT: true; the input reads as it did. -/
def fnExactReadsOfSpec : ChangeSpec := { name := "fnExactReadsOf", fn := fun _ => fun
  | [d1, d2, d3] => { results := [.lit (.bool true)], args := [d1, d2, d3] }
  | _ => none }
def fnExactReadsOfRow : OpenClaim := { program := "ytceckfecihemnaa", sum := "0d0fff3aff0e2cb5af20cce46ca9745ebbd5ddc221082e62fae50acd4bc4db22", func := "loop.example/g01277/laws.FnExactReadsOf", spec := "fnExactReadsOf", unfollowed := true, recurses := true, apart := false }
def FnExactReadsOfSaid : Prop := fnExactReadsOfRow.holds Try.pinned (OpenSpec.ofChange fnExactReadsOfSpec)

/-- ITS FALSE NEIGHBOUR: 'it returns false'. Refute it at one input. -/
def fnExactReadsOfWrong : ChangeSpec := { name := "fnExactReadsOf", fn := fun _ => fun
  | [d1, d2, d3] => { results := [.lit (.bool false)], args := [d1, d2, d3] }
  | _ => none }
def FnExactReadsOfWrongFalsely : Prop := fnExactReadsOfRow.holds Try.pinned (OpenSpec.ofChange fnExactReadsOfWrong)

/-- 'laws.FnOrElse': WHATEVER THE INPUT: true; the input reads as it did. -/
def fnOrElseSpec : ChangeSpec := { name := "fnOrElse", fn := fun _ => fun
  | [d] => { results := [.lit (.bool true)], args := [d] }
  | _ => none }
def fnOrElseRow : OpenClaim := { program := "ytceckfecihemnaa", sum := "0d0fff3aff0e2cb5af20cce46ca9745ebbd5ddc221082e62fae50acd4bc4db22", func := "loop.example/g01277/laws.FnOrElse", spec := "fnOrElse", unfollowed := true, recurses := true, apart := false }
def FnOrElseSaid : Prop := fnOrElseRow.holds Try.pinned (OpenSpec.ofChange fnOrElseSpec)

/-- ITS FALSE NEIGHBOUR: 'it returns false'. Refute it at one input. -/
def fnOrElseWrong : ChangeSpec := { name := "fnOrElse", fn := fun _ => fun
  | [d] => { results := [.lit (.bool false)], args := [d] }
  | _ => none }
def FnOrElseWrongFalsely : Prop := fnOrElseRow.holds Try.pinned (OpenSpec.ofChange fnOrElseWrong)

/- THE SECOND FORM. 'bulk': how many values and letters a reading holds, each counted each time it is reached (what is shared counts as often as it is met; a slice's spare places count too). A statement '..UptoSaid' is the law's where the arguments, and the package variables that the reading takes, are together of bulk at most 1048576: NARROWER than '..Said'. Prove '..Said' where nothing that the law and all that it calls make is longer than what came in: it says more and counts as full. Else prove '..UptoSaid'. A law counts once. -/
mutual
def uptoBulk {H : Type} : DataW H → Nat
  | .lit (.string bytes) => bytes.length + 1
  | .lit _ => 1
  | .nil => 1
  | .ptr d => uptoBulk d + 1
  | .slice elems spare => uptoBulkAll elems + uptoBulkAll spare + 1
  | .agg parts => uptoBulkAll parts + 1
  | .iface _ d => uptoBulk d + 1
  | .map entries => uptoBulkEntries entries + 1
  | .held _ => 1
def uptoBulkAll {H : Type} : List (DataW H) → Nat
  | [] => 0
  | d :: r => uptoBulk d + uptoBulkAll r
def uptoBulkEntries {H : Type} : List (Lit × DataW H) → Nat
  | [] => 0
  | x :: r => uptoBulkEntry x + uptoBulkEntries r
def uptoBulkEntry {H : Type} : Lit × DataW H → Nat
  | (.string bytes, d) => bytes.length + uptoBulk d + 1
  | (_, d) => uptoBulk d + 1
 end
def uptoSmall : (H : Type) → List (DataW H) → Bool := fun _ ds => decide (uptoBulkAll ds ≤ 1048576)
def OpenSpec.upto (s : _root_.Go.ChangeSpec) : _root_.Go.OpenSpec := { _root_.Go.OpenSpec.ofChange s with cond := some uptoSmall }

/-- 'laws.FnJournal', WHERE WHAT IT READS IS OF BULK AT MOST 1048576: true; the input reads as it did. -/
def fnJournalUptoRow : OpenClaim := { program := "ytceckfecihemnaa", sum := "0d0fff3aff0e2cb5af20cce46ca9745ebbd5ddc221082e62fae50acd4bc4db22", func := "loop.example/g01277/laws.FnJournal", spec := "fnJournal", apart := false, narrowed := true }
def FnJournalUptoSaid : Prop := fnJournalUptoRow.holds Try.pinned (OpenSpec.upto fnJournalSpec)

/-- 'laws.FnExactReadsOf', WHERE WHAT IT READS IS OF BULK AT MOST 1048576: true; the input reads as it did. -/
def fnExactReadsOfUptoRow : OpenClaim := { program := "ytceckfecihemnaa", sum := "0d0fff3aff0e2cb5af20cce46ca9745ebbd5ddc221082e62fae50acd4bc4db22", func := "loop.example/g01277/laws.FnExactReadsOf", spec := "fnExactReadsOf", unfollowed := true, recurses := true, apart := false, narrowed := true }
def FnExactReadsOfUptoSaid : Prop := fnExactReadsOfUptoRow.holds Try.pinned (OpenSpec.upto fnExactReadsOfSpec)

/-- 'laws.FnOrElse', WHERE WHAT IT READS IS OF BULK AT MOST 1048576: true; the input reads as it did. -/
def fnOrElseUptoRow : OpenClaim := { program := "ytceckfecihemnaa", sum := "0d0fff3aff0e2cb5af20cce46ca9745ebbd5ddc221082e62fae50acd4bc4db22", func := "loop.example/g01277/laws.FnOrElse", spec := "fnOrElse", unfollowed := true, recurses := true, apart := false, narrowed := true }
def FnOrElseUptoSaid : Prop := fnOrElseUptoRow.holds Try.pinned (OpenSpec.upto fnOrElseSpec)

end Rows
end Go.Proofs.Ytceckfecihemnaa
