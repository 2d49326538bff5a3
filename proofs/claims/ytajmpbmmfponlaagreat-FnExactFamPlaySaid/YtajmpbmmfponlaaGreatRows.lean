/-
  No cell of these rows narrows 'for every input' (looked for: loops, veiled, ifaces, maps, wideKeys, modest, calm, conditions, laid).
  DERIVED. THE GIVEN ROWS OF THIS SEAT. 2 by the template 'for every input the law returns true; each argument reads behind the call as it read before'; 0 by the template 'total and deterministic' (their statements: YtajmpbmmfponlaaGreatTotals.lean).
  GIVEN WITH THE SEED: the statements are not yours to turn. If you find one false, say at which input.
  Laid BY PROGRAM, IN A SANDBOX (cutbox-rows.mjs): the forced cells as the released guide's own fill.sh prints them over the translation 91888ed31b1e6735… (all of the seat's roots in one cut). By AI agents, Wed Nov 11 2026. No macro, syntax, notation, axiom, sorry.
-/
import Derived.Test.YtajmpbmmfponlaaGreatChecked
import GoSem.Claim
import GoSem.ClaimJoined
import GoSem.ClaimMapViews
import Derived.JoinedTies
import Derived.KernelRfl
namespace Go.Proofs.YtajmpbmmfponlaaGreat
/- THE CELL 'sum', in the pinned program and in every row, IS THE sha256 OF THE DUMP (.gsa) THAT YtajmpbmmfponlaaGreatProg.lean LOADS. Nothing in Lean hashes anything: it is a label: what it is worth is what the hold of that sum in a sandbox is worth. -/
noncomputable def Tryz.pinned : Pinned := { name := "ytajmpbmmfponlaagreat", sum := "91888ed31b1e67353c4d87b9ee88b1871b39250ac7369d5b4d04af9aa6d83ffd", checked := Tryz.checked }
namespace Rows
def none {H : Type} : Left H := { results := [], args := [] }

/-- 'laws.FnFamily': WHATEVER THE INPUT: true; the input reads as it did. -/
def fnFamilySpec : ChangeSpec := { name := "fnFamily", fn := fun _ => fun
  | [d] => { results := [.lit (.bool true)], args := [d] }
  | _ => none }
def fnFamilyRow : OpenClaim := { program := "ytajmpbmmfponlaagreat", sum := "91888ed31b1e67353c4d87b9ee88b1871b39250ac7369d5b4d04af9aa6d83ffd", func := "loop.example/g01277/laws.FnFamily", spec := "fnFamily", unfollowed := true, recurses := true, apart := false }
def FnFamilySaid : Prop := fnFamilyRow.holds Tryz.pinned (OpenSpec.ofChange fnFamilySpec)

/-- ITS FALSE NEIGHBOUR: 'it returns false'. Refute it at one input. -/
def fnFamilyWrong : ChangeSpec := { name := "fnFamily", fn := fun _ => fun
  | [d] => { results := [.lit (.bool false)], args := [d] }
  | _ => none }
def FnFamilyWrongFalsely : Prop := fnFamilyRow.holds Tryz.pinned (OpenSpec.ofChange fnFamilyWrong)

/-- 'laws.FnExactFamPlay': WHATEVER THE INPUT: true; the input reads as it did. -/
def fnExactFamPlaySpec : ChangeSpec := { name := "fnExactFamPlay", fn := fun _ => fun
  | [d] => { results := [.lit (.bool true)], args := [d] }
  | _ => none }
def fnExactFamPlayRow : OpenClaim := { program := "ytajmpbmmfponlaagreat", sum := "91888ed31b1e67353c4d87b9ee88b1871b39250ac7369d5b4d04af9aa6d83ffd", func := "loop.example/g01277/laws.FnExactFamPlay", spec := "fnExactFamPlay", unfollowed := true, recurses := true, apart := false }
def FnExactFamPlaySaid : Prop := fnExactFamPlayRow.holds Tryz.pinned (OpenSpec.ofChange fnExactFamPlaySpec)

/-- ITS FALSE NEIGHBOUR: 'it returns false'. Refute it at one input. -/
def fnExactFamPlayWrong : ChangeSpec := { name := "fnExactFamPlay", fn := fun _ => fun
  | [d] => { results := [.lit (.bool false)], args := [d] }
  | _ => none }
def FnExactFamPlayWrongFalsely : Prop := fnExactFamPlayRow.holds Tryz.pinned (OpenSpec.ofChange fnExactFamPlayWrong)

/- THE SECOND FORM. 'bulk': how many values and letters a reading holds, each counted each time it is reached (what is shared counts as often as it is met; a slice's spare places count too). A statement '..UptoSaid' is the law's where the arguments, and the package variables that the reading takes, are together of bulk at most 1048576: NARROWER than '..Said'. Prove '..Said' where nothing that the law and all that it calls make is longer than what came in: it says more and counts as full. Else prove '..UptoSaid'. A law counts once. -/
mutual
def uptoBulk {H : Type} : DataW H → Nat
  | .lit (.string bytes) => bytes.length + 1
  | .lit _ => 1
  | .nil => 1
  | .ptr d => uptoBulk d + 1
  | .slice elems spare => uptoBulkAll elems + uptoBulkAll spare + 1
  | .agg parts => uptoBulkAll parts + 1
  | .iface _ d => uptoBulk d + 1
  | .map entries => uptoBulkEntries entries + 1
  | .held _ => 1
def uptoBulkAll {H : Type} : List (DataW H) → Nat
  | [] => 0
  | d :: r => uptoBulk d + uptoBulkAll r
def uptoBulkEntries {H : Type} : List (Lit × DataW H) → Nat
  | [] => 0
  | x :: r => uptoBulkEntry x + uptoBulkEntries r
def uptoBulkEntry {H : Type} : Lit × DataW H → Nat
  | (.string bytes, d) => bytes.length + uptoBulk d + 1
  | (_, d) => uptoBulk d + 1
 end
def uptoSmall : (H : Type) → List (DataW H) → Bool := fun _ ds => decide (uptoBulkAll ds ≤ 1048576)
def OpenSpec.upto (s : _root_.Go.ChangeSpec) : _root_.Go.OpenSpec := { _root_.Go.OpenSpec.ofChange s with cond := some uptoSmall }

/-- 'laws.FnFamily', WHERE WHAT IT READS IS OF BULK AT MOST 1048576: true; the input reads as it did. -/
def fnFamilyUptoRow : OpenClaim := { program := "ytajmpbmmfponlaagreat", sum := "91888ed31b1e67353c4d87b9ee88b1871b39250ac7369d5b4d04af9aa6d83ffd", func := "loop.example/g01277/laws.FnFamily", spec := "fnFamily", unfollowed := true, recurses := true, apart := false, narrowed := true }
def FnFamilyUptoSaid : Prop := fnFamilyUptoRow.holds Tryz.pinned (OpenSpec.upto fnFamilySpec)

/-- 'laws.FnExactFamPlay', WHERE WHAT IT READS IS OF BULK AT MOST 1048576: true; the input reads as it did. -/
def fnExactFamPlayUptoRow : OpenClaim := { program := "ytajmpbmmfponlaagreat", sum := "91888ed31b1e67353c4d87b9ee88b1871b39250ac7369d5b4d04af9aa6d83ffd", func := "loop.example/g01277/laws.FnExactFamPlay", spec := "fnExactFamPlay", unfollowed := true, recurses := true, apart := false, narrowed := true }
def FnExactFamPlayUptoSaid : Prop := fnExactFamPlayUptoRow.holds Tryz.pinned (OpenSpec.upto fnExactFamPlaySpec)

end Rows
end Go.Proofs.YtajmpbmmfponlaaGreat
