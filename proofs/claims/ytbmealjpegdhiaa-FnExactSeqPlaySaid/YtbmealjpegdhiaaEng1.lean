/- The abstract machine, part 1: a reflective interpreter of the program's code over data, with its soundness over the model. -/
import Derived.WalkKit
import Derived.LoopN
import Derived.KernelRfl
import Derived.ProofKit
import Derived.OpenShut
import Derived.JoinedCond
/- The abstract machine: data types, cells, objects, states. -/
namespace Go.Sx

inductive Ty where
  | int (k : IntKind) | bool | str | slice (e : Ty) | own (e : Ty) | prod (a b : Ty)
  deriving DecidableEq

def Ty.den : Ty → Type
  | .int _ => Int
  | .bool => Bool
  | .str => List UInt8
  | .slice e => List e.den
  | .own e => List e.den
  | .prod a b => a.den × b.den

def Ty.size : Ty → Nat
  | .prod a b => a.size + b.size
  | _ => 1

def Ty.dflt : (t : Ty) → t.den
  | .int _ => (0 : Int)
  | .bool => false
  | .str => ([] : List UInt8)
  | .slice e => ([] : List e.den)
  | .own e => ([] : List e.den)
  | .prod a b => (a.dflt, b.dflt)

def Ty.noRo : Ty → Bool
  | .slice _ => false
  | .own e => e.noRo
  | .prod a b => a.noRo && b.noRo
  | _ => true

def castTo (t t' : Ty) (d : t.den) : Option t'.den :=
  if h : t = t' then some (h ▸ d) else none

def castL (e e' : Ty) (l : List e.den) : Option (List e'.den) :=
  if h : e = e' then some (h ▸ l) else none

inductive Cell where
  | val (t : Ty) (d : t.den)
  | nils
  | own (id : Nat)
  | aptr (id : Nat)
  | ptr (id off : Nat)
  | eptr (id i off : Nat)
  | rptr (t : Ty) (d : t.den) (off : Nat)
  | clos (f : FuncId) (caps : List Nat)
  | junk

inductive AV where
  | one (c : Cell)
  | agg (cs : List Cell)

inductive AVal where
  | s (x : AV)
  | tup (xs : List AV)

inductive Ob where
  | box (cs : List Cell)
  | arr (e : Ty) (xs : List e.den)
  | dead

abbrev Objs := List (Nat × Ob)

structure St where
  env : List (Nat × AVal)
  objs : Objs
  nx : Nat

universe u
def look {α : Type u} : List (Nat × α) → Nat → Option α
  | [], _ => none
  | (k, v) :: l, i => match Nat.beq k i with | true => some v | false => look l i

abbrev GH := Nat → Nat → Option Value

structure Nu where
  blk : Option Nat
  len : Nat
  cap : Nat

def Nu.hdr (n : Nu) : Value := match n.blk with
  | none => .slice none 0 0
  | some b => .slice (some ⟨b, 0, none⟩) n.len n.cap

def Stored (G : GH) (b off : Nat) (cs : List Value) : Prop := ∀ (j : Nat) (v : Value), cs[j]? = some v → G b (off + j) = some v

def EncL {α : Type} (R : α → List Value → Prop) : List α → List Value → Prop
  | [], cs => cs = []
  | x :: l, cs => ∃ c1 c2, cs = c1 ++ c2 ∧ R x c1 ∧ EncL R l c2

def SlRel {α : Type} (G : GH) (R : α → List Value → Prop) (l : List α) (v : Value) : Prop :=
  (v = .slice none 0 0 ∧ l = []) ∨
  (∃ b off cap cs, v = .slice (some ⟨b, off, none⟩) l.length cap ∧ l.length ≤ cap ∧ cap ≤ maxLen ∧ EncL R l cs ∧ Stored G b off cs) ∨
  ∃ a cap, v = .slice (some a) 0 cap ∧ l = []

def Enc (G : GH) : (t : Ty) → t.den → List Value → Prop
  | .int k, n, cs => cs = [.int k n]
  | .bool, b, cs => cs = [.bool b]
  | .str, s, cs => cs = [.string ⟨List.toArray s⟩]
  | .slice e, l, cs => ∃ v, cs = [v] ∧ SlRel G (Enc G e) l v
  | .own _, _, _ => False
  | .prod a b, d, cs => ∃ c1 c2, cs = c1 ++ c2 ∧ Enc G a d.1 c1 ∧ Enc G b d.2 c2

def CellRel (G : GH) (ν : Nat → Nu) (objs : Objs) (nx : Nat) : Cell → Value → Prop
  | .val t d, v => Enc G t d [v]
  | .nils, v => v = .slice none 0 0
  | .own id, v => id < nx ∧ ∀ e xs, look objs id = some (.arr e xs) → v = (ν id).hdr
  | .aptr id, v => id < nx ∧ ∀ e xs, look objs id = some (.arr e xs) → ∃ b, (ν id).blk = some b ∧ v = .pointer (some ⟨b, 0, none⟩)
  | .ptr id off, v => id < nx ∧ ∀ cs, look objs id = some (.box cs) → ∃ b, (ν id).blk = some b ∧ v = .pointer (some ⟨b, off, none⟩)
  | .eptr id i off, v => id < nx ∧ ∀ e xs, look objs id = some (.arr e xs) → i < xs.length ∧ ∃ b, (ν id).blk = some b ∧ v = .pointer (some ⟨b, i * e.size + off, none⟩)
  | .rptr t d off, v => ∃ b o cs, v = .pointer (some ⟨b, o + off, none⟩) ∧ Enc G t d cs ∧ Stored G b o cs
  | .clos f caps, v => ∃ vs : List Value, v = .func (.func f) #[] vs.toArray ∧ vs.length = caps.length ∧
      ∀ (j id : Nat) (u : Value), caps[j]? = some id → vs[j]? = some u → id < nx ∧ u.oneCell' = true ∧ ∀ cs, look objs id = some (.box cs) → ∃ b, (ν id).blk = some b ∧ u = .pointer (some ⟨b, 0, none⟩)
  | .junk, _ => True

def CellsRel (G : GH) (ν : Nat → Nu) (objs : Objs) (nx : Nat) (cs : List Cell) (vs : List Value) : Prop :=
  vs.length = cs.length ∧ ∀ (j : Nat) (c : Cell) (v : Value), cs[j]? = some c → vs[j]? = some v → CellRel G ν objs nx c v ∧ v.oneCell' = true

def AvRel (G : GH) (ν : Nat → Nu) (objs : Objs) (nx : Nat) : AV → Value → Prop
  | .one c, v => CellRel G ν objs nx c v ∧ v.oneCell' = true
  | .agg cs, v => ∃ vs : List Value, v = .agg vs.toArray ∧ CellsRel G ν objs nx cs vs

def AvsRel (G : GH) (ν : Nat → Nu) (objs : Objs) (nx : Nat) (xs : List AV) (vs : List Value) : Prop :=
  vs.length = xs.length ∧ ∀ (j : Nat) (x : AV) (v : Value), xs[j]? = some x → vs[j]? = some v → AvRel G ν objs nx x v

def AValRel (G : GH) (ν : Nat → Nu) (objs : Objs) (nx : Nat) : AVal → Value → Prop
  | .s x, v => AvRel G ν objs nx x v
  | .tup xs, v => ∃ vs : List Value, v = .tuple vs.toArray ∧ AvsRel G ν objs nx xs vs

def ObRel (G : GH) (ν : Nat → Nu) (objs : Objs) (nx : Nat) (w : World) (id : Nat) : Ob → Prop
  | .box cs => ∃ b T vs, (ν id).blk = some b ∧ w.heap[b]? = some (.cells vs T (0, 0)) ∧ CellsRel G ν objs nx cs vs.toList
  | .arr e xs => xs.length = (ν id).len ∧ match (ν id).blk with
    | none => xs = []
    | some b => ∃ T vs cs, w.heap[b]? = some (.cells vs T (0, 0)) ∧ xs.length ≤ (ν id).cap ∧ (ν id).cap ≤ maxLen ∧ vs.size = (ν id).cap * e.size ∧
        EncL (Enc G e) xs cs ∧ cs <+: vs.toList
  | .dead => True

def Live (objs : Objs) (id : Nat) : Prop := ∃ ob, look objs id = some ob ∧ ob ≠ .dead

structure HRel (w0 : World) (F : Nat → Prop) (G : GH) (ν : Nat → Nu) (objs : Objs) (nx : Nat) (w : World) : Prop where
  g : ∀ b o v, G b o = some v → w.cell? ⟨b, o, none⟩ = some v
  ob : ∀ id ob, look objs id = some ob → ObRel G ν objs nx w id ob
  gf : ∀ id b, Live objs id → (ν id).blk = some b → ∀ o, G b o = none
  inj : ∀ id id' b, Live objs id → Live objs id' → (ν id).blk = some b → (ν id').blk = some b → id = id'
  own : ∀ id b, Live objs id → (ν id).blk = some b → w0.heap.size ≤ b ∨ F b
  lt : ∀ id, Live objs id → id < nx
  frame : ∀ b, b < w0.heap.size → ¬ F b → w.heap[b]? = w0.heap[b]?
  size : w0.heap.size ≤ w.heap.size
  os : w.os = w0.os
  output : w.output = w0.output
  tape : w.tape = w0.tape

structure GExt (B : Nat) (F : Nat → Prop) (G G' : GH) : Prop where
  le : ∀ b o v, G b o = some v → G' b o = some v
  new : ∀ b o v, G' b o = some v → G b o = some v ∨ B ≤ b ∨ F b

/-- a frame's slots: how many, and those that stand as they are -/
structure Slots where
  n : Nat
  kept : List (Nat × Value)

def Slots.Ok (s : Slots) (d : Nat) : Prop := d < s.n ∧ ∀ p ∈ s.kept, p.1 ≠ d

structure Rel (w0 : World) (F : Nat → Prop) (nt : Slots) (G0 : GH) (G : GH) (ν : Nat → Nu) (st : St) (a : Act) (w : World) : Prop where
  defers : a.defers = []
  ntm : a.tmps.size = nt.n
  par : ∀ p ∈ nt.kept, a.tmps[p.1]? = some p.2
  env : ∀ i x, look st.env i = some x → ∃ v, a.tmps[i]? = some v ∧ AValRel G ν st.objs st.nx x v
  h : HRel w0 F G ν st.objs st.nx w
  gx : GExt w0.heap.size F G0 G

end Go.Sx

/- The abstract machine: how one operation, a region, a body is evaluated. -/
namespace Go.Sx

inductive Shape where
  | basic | slice (e : TypeId) | struct (fs : List (Nat × TypeId)) | ptr (e : TypeId) | arr (n : Nat) (e : TypeId)

structure TE where
  ty : Ty
  agg : Bool
  shape : Shape

abbrev Tab := List (TypeId × TE)

def TE.plain (te : TE) : Bool := match te.shape with
  | .arr _ _ => false
  | _ => true

/-! integer operations, named -/
def iadd (k : IntKind) (a b : Int) : Int := k.wrap (a + b)
def isub (k : IntKind) (a b : Int) : Int := k.wrap (a - b)
def imul (k : IntKind) (a b : Int) : Int := k.wrap (a * b)
def iquo (k : IntKind) (a b : Int) : Int := k.wrap (a.tdiv b)
def irem (a b : Int) : Int := a.tmod b
def iand (k : IntKind) (a b : Int) : Int := k.wrap (BitVec.ofInt k.bits a &&& BitVec.ofInt k.bits b).toNat
def ior (k : IntKind) (a b : Int) : Int := k.wrap (BitVec.ofInt k.bits a ||| BitVec.ofInt k.bits b).toNat
def ixor (k : IntKind) (a b : Int) : Int := k.wrap (BitVec.ofInt k.bits a ^^^ BitVec.ofInt k.bits b).toNat
def iandn (k : IntKind) (a b : Int) : Int := k.wrap (BitVec.ofInt k.bits a &&& ~~~BitVec.ofInt k.bits b).toNat
def ishl (k : IntKind) (a b : Int) : Int := k.wrap (a * 2 ^ (min b.toNat k.bits))
def ishr (k : IntKind) (a b : Int) : Int := a.fdiv (2 ^ (min b.toNat k.bits))
def sfit (a b : List UInt8) : Bool := !decide (((a.length + b.length : Nat) : Int) > IntKind.i64.max)
def ilen {α : Type} (l : List α) : Int := (l.length : Int)
def inb (i : Int) (n : Nat) : Bool := decide (0 ≤ i) && decide (i < (n : Int))
def room (n : Nat) : Bool := decide (n ≤ 1073741824)
def toStr (l : List Int) : List UInt8 := l.map fun n => UInt8.ofNat n.toNat
def ofStr (l : List UInt8) : List Int := l.map fun b => (b.toNat : Int)

def ieq (a b : Int) : Bool := a == b
def beq (a b : Bool) : Bool := a == b
def seq (a b : List UInt8) : Bool := a == b
def inz (b : Int) : Bool := !decide (b = 0)
def inn (b : Int) : Bool := !decide (b < 0)

def one (t : Ty) (d : t.den) : AVal := .s (.one (.val t d))

def binI (op : BinOp) (k : IntKind) (a b : Int) : Option (Bool × AVal) :=
  match op with
  | .add => some (true, one (.int k) (iadd k a b))
  | .sub => some (true, one (.int k) (isub k a b))
  | .mul => some (true, one (.int k) (imul k a b))
  | .quo => some (inz b, one (.int k) (iquo k a b))
  | .rem => some (inz b, one (.int k) (irem a b))
  | .and => some (true, one (.int k) (iand k a b))
  | .or => some (true, one (.int k) (ior k a b))
  | .xor => some (true, one (.int k) (ixor k a b))
  | .andNot => some (true, one (.int k) (iandn k a b))
  | .eql => some (true, one .bool (a == b))
  | .neq => some (true, one .bool (a != b))
  | .lss => some (true, one .bool (decide (a < b)))
  | .leq => some (true, one .bool (decide (a ≤ b)))
  | .gtr => some (true, one .bool (decide (a > b)))
  | .geq => some (true, one .bool (decide (a ≥ b)))
  | _ => none

def binS (op : BinOp) (a b : List UInt8) : Option (Bool × AVal) :=
  match op with
  | .add => some (sfit a b, one .str (a ++ b))
  | .eql => some (true, one .bool (seq a b))
  | .neq => some (true, one .bool (!seq a b))
  | _ => none

def cellEqT (te : TE) (c d : Cell) : Option Bool :=
  match te, c, d with
  | ⟨.int _, false, .basic⟩, .val (.int k) a, .val (.int k') b => if k = k' then some (ieq a b) else none
  | ⟨.bool, false, .basic⟩, .val .bool a, .val .bool b => some (beq a b)
  | ⟨.str, false, .basic⟩, .val .str a, .val .str b => some (seq a b)
  | _, _, _ => none

def cellsEq (T : Tab) : List TypeId → List Cell → List Cell → Option Bool
  | [], [], [] => some true
  | t :: ts, c :: cs, d :: ds => match look T t with
    | some te => match cellEqT te c d, cellsEq T ts cs ds with
      | some x, some y => some (x && y)
      | _, _ => none
    | none => none
  | _, _, _ => none

def binOp (T : Tab) (op : BinOp) (t : TypeId) (x y : AVal) : Option (Bool × AVal) :=
  match x, y with
  | .s (.one (.val (.int k) a)), .s (.one (.val (.int k') b)) =>
    match op with
    | .shl => some (inn b, one (.int k) (ishl k a b))
    | .shr => some (inn b, one (.int k) (ishr k a b))
    | _ => if k = k' then binI op k a b else none
  | .s (.one (.val .str a)), .s (.one (.val .str b)) => binS op a b
  | .s (.one (.val .bool a)), .s (.one (.val .bool b)) =>
    match look T t with
    | some ⟨.bool, false, .basic⟩ =>
      match op with
      | .eql => some (true, one .bool (beq a b))
      | .neq => some (true, one .bool (!beq a b))
      | _ => none
    | _ => none
  | .s (.agg cs), .s (.agg ds) =>
    match look T t with
    | some ⟨_, true, .struct fs⟩ =>
      if decide (fs.map (·.1) = List.range fs.length) then
        match op, cellsEq T (fs.map (·.2)) cs ds with
        | .eql, some b => some (true, one .bool b)
        | .neq, some b => some (true, one .bool (!b))
        | _, _ => none
      else none
    | _ => none
  | _, _ => none

def unOp (op : UnOp) (x : AVal) : Option (Bool × AVal) :=
  match op, x with
  | .not, .s (.one (.val .bool b)) => some (true, one .bool (!b))
  | .neg, .s (.one (.val (.int k) n)) => some (true, one (.int k) (isub k 0 n))
  | _, _ => none

def split : (t : Ty) → t.den → List Cell
  | .prod a b, d => split a d.1 ++ split b d.2
  | .int k, d => [.val (.int k) d]
  | .bool, d => [.val .bool d]
  | .str, d => [.val .str d]
  | .slice e, d => [.val (.slice e) d]
  | .own e, d => [.val (.own e) d]

def constCell : Value → Option Cell
  | .int k n => some (.val (.int k) n)
  | .bool b => some (.val .bool b)
  | .string s => some (.val .str s.data.toList)
  | .slice none 0 0 => some .nils
  | .pointer none => some .junk
  | .nilFunc => some .junk
  | _ => none

def constAV : Value → Option AVal
  | .agg cs => (cs.toList.mapM constCell).map fun l => .s (.agg l)
  | v => (constCell v).map fun c => .s (.one c)

def ev (st : St) : Operand → Option AVal
  | .tmp t => look st.env t
  | .const v => constAV v
  | .func f => some (.s (.one (.clos f [])))
  | .global _ => none

def St.put (st : St) (dst : Option Tmp) (x : AVal) : St :=
  match dst with
  | some d => { st with env := (d, x) :: st.env }
  | none => st

/-- the cells of a variable of `n` cells at cell `off` of `cs` -/
def sub (agg : Bool) (cs : List Cell) (off n : Nat) : Option AVal :=
  if agg then (if off + n ≤ cs.length then some (.s (.agg ((cs.drop off).take n))) else none)
  else (cs[off]?).map fun c => .s (.one c)

def loadOp (T : Tab) (st : St) (t : TypeId) (x : AVal) : Option AVal :=
  match look T t with
  | some te =>
    if te.plain then
      match x with
      | .s (.one (.ptr id off)) => match look st.objs id with
        | some (.box cs) => sub te.agg cs off te.ty.size
        | _ => none
      | .s (.one (.eptr id i off)) => match look st.objs id with
        | some (.arr e xs) => sub te.agg (split e (xs.getD i e.dflt)) off te.ty.size
        | _ => none
      | .s (.one (.rptr t' d off)) => sub te.agg (split t' d) off te.ty.size
      | _ => none
    else none
  | none => none

/-- the cells of an array of integers -/
def arrC (k : IntKind) (xs : List Int) : Nat → Nat → List Cell
  | _, 0 => []
  | i, n + 1 => .val (.int k) (xs.getD i (0 : Int)) :: arrC k xs (i + 1) n

/-- an array of integers, read whole -/
def loadArr (T : Tab) (st : St) (t : TypeId) (x : AVal) : Option (Bool × AVal) :=
  match look T t with
  | some ⟨.int k, true, .arr n _⟩ => match x with
    | .s (.one (.aptr id)) => match look st.objs id with
      | some (.arr (.int k') xs) => if k' = k then some (decide (List.length xs = n), .s (.agg (arrC k xs 0 n))) else none
      | _ => none
    | _ => none
  | _ => none

def intsOf (k : IntKind) : List Cell → Option (List Int)
  | [] => some []
  | .val (.int k') d :: cs => if k' = k then (intsOf k cs).map fun l => (d : Int) :: l else none
  | _ => none

def cellOf : AVal → Option Cell
  | .s (.one c) => some c
  | _ => none

def asI : AVal → Option Int
  | .s (.one (.val (.int _) n)) => some n
  | _ => none

def asB : AVal → Option Bool
  | .s (.one (.val .bool b)) => some b
  | _ => none

def sliceLen (st : St) : Cell → Option Nat
  | .val (.slice _) l => some (List.length l)
  | .val .str s => some (List.length s)
  | .nils => some 0
  | .own id => match look st.objs id with
    | some (.arr _ xs) => some xs.length
    | _ => none
  | _ => none

def lenOp (T : Tab) (st : St) (t : TypeId) (x : AVal) : Option (Bool × AVal) :=
  match look T t, x with
  | some ⟨_, false, .slice _⟩, .s (.one (.val (.slice _) l)) => some (true, one (.int .i64) (ilen l))
  | some ⟨_, false, .slice _⟩, .s (.one .nils) => some (true, one (.int .i64) (0 : Int))
  | some ⟨_, false, .slice _⟩, .s (.one (.own id)) => match look st.objs id with
    | some (.arr _ xs) => some (true, one (.int .i64) (ilen xs))
    | _ => none
  | some ⟨.str, false, .basic⟩, .s (.one (.val .str s)) => some (true, one (.int .i64) (ilen (α := UInt8) s))
  | _, _ => none

def fieldOff (T : Tab) (t : TypeId) (f : Nat) : Option (Nat × TE) :=
  match look T t with
  | some ⟨_, _, .struct fs⟩ => match fs[f]? with
    | some (off, ft) => match look T ft with
      | some te => if te.plain then some (off, te) else none
      | none => none
    | none => none
  | _ => none

def fieldAddrOp (T : Tab) (st : St) (t : TypeId) (x : AVal) (f : Nat) : Option (Bool × AVal) :=
  match fieldOff T t f, x with
  | some (off, _), .s (.one (.ptr id o)) => match look st.objs id with
    | some (.box _) => some (true, .s (.one (.ptr id (o + off))))
    | _ => none
  | some (off, _), .s (.one (.eptr id i o)) => match look st.objs id with
    | some (.arr _ _) => some (true, .s (.one (.eptr id i (o + off))))
    | _ => none
  | some (off, _), .s (.one (.rptr t' d o)) => some (true, .s (.one (.rptr t' d (o + off))))
  | _, _ => none

def fieldOp (T : Tab) (t : TypeId) (x : AVal) (f : Nat) : Option (Bool × AVal) :=
  match fieldOff T t f, x with
  | some (off, te), .s (.agg cs) => (sub te.agg cs off te.ty.size).map fun v => (true, v)
  | _, _ => none

def indexAddrOp (T : Tab) (st : St) (t : TypeId) (x i : AVal) : Option (Bool × AVal) :=
  match look T t, asI i with
  | some ⟨_, _, .slice et⟩, some n => match look T et with
    | some te =>
      if te.plain then match x with
        | .s (.one (.val (.slice e) l)) => if te.ty = e then some (inb n (List.length l), .s (.one (.rptr e (List.getD l n.toNat e.dflt) 0))) else none
        | .s (.one .nils) => some (false, .s (.one .junk))
        | .s (.one (.own id)) => match look st.objs id with
          | some (.arr e xs) => if te.ty = e then some (inb n xs.length, .s (.one (.eptr id n.toNat 0))) else none
          | _ => none
        | _ => none
      else none
    | none => none
  | some ⟨_, _, .arr k et⟩, some n => match look T et with
    | some te =>
      if te.plain then match x with
        | .s (.one (.aptr id)) => match look st.objs id with
          | some (.arr e xs) => if te.ty = e then some (inb n k && decide (xs.length = k), .s (.one (.eptr id n.toNat 0))) else none
          | _ => none
        | _ => none
      else none
    | none => none
  | _, _ => none

def indexOp (T : Tab) (t : TypeId) (x i : AVal) : Option (Bool × AVal) :=
  match look T t, x, asI i with
  | some ⟨.str, _, .basic⟩, .s (.one (.val .str s)), some n => some (inb n (List.length s), one (.int .u8) ((List.getD s n.toNat 0).toNat : Int))
  | some ⟨.int k, _, .arr m et⟩, .s (.agg cs), some n => match look T et with
    | some ⟨.int k', false, .basic⟩ => match intsOf k cs with
      | some l => if k' = k ∧ cs.length = m then some (inb n m, one (.int k) (List.getD l n.toNat (0 : Int))) else none
      | none => none
    | _ => none
  | _, _, _ => none

/-- the bounds `[lo:hi]` of something of length `n`: in order, and what is cut -/
def bnds (n : Nat) (lo hi : Option Int) : Bool × Nat × Nat :=
  match lo, hi with
  | none, none => (true, 0, n)
  | some l, none => (decide (0 ≤ l) && decide (l ≤ (n : Int)), l.toNat, n)
  | none, some h => (decide (0 ≤ h) && decide (h ≤ (n : Int)), 0, h.toNat)
  | some l, some h => (decide (0 ≤ h) && decide (h ≤ (n : Int)) && decide (0 ≤ l) && decide (l ≤ h), l.toNat, h.toNat)

def cutL {α : Type} (l : List α) (lo hi : Option Int) : List α :=
  match lo, hi with
  | none, none => l
  | some a, none => l.drop a.toNat
  | none, some b => l.take b.toNat
  | some a, some b => (l.take b.toNat).drop a.toNat

def optI (st : St) : Option Operand → Option (Option Int)
  | none => some none
  | some x => ((ev st x).bind asI).map some

def sliceOp (T : Tab) (st : St) (t : TypeId) (x : AVal) (lo hi : Option Operand) : Option (Bool × AVal) :=
  match look T t, x, optI st lo, optI st hi with
  | some ⟨.str, _, .basic⟩, .s (.one (.val .str s)), some l, some h => some ((bnds (List.length s) l h).1, one .str (cutL s l h))
  | some ⟨_, _, .slice et⟩, .s (.one (.val (.slice e) xs)), some l, some h => match look T et with
    | some te => if te.ty = e ∧ te.plain then some ((bnds (List.length xs) l h).1, one (.slice e) (cutL xs l h)) else none
    | none => none
  | _, _, _, _ => none

/-- the object of a slice of one's own -/
def ownOb (st : St) : AVal → Option Ob
  | .s (.one (.own id)) => look st.objs id
  | _ => none

def convO (T : Tab) (o : Option Ob) (src dst : TypeId) (x : AVal) : Option (Bool × AVal) :=
  match look T src, look T dst, x with
  | some ⟨.int _, false, .basic⟩, some ⟨.int k, false, .basic⟩, .s (.one (.val (.int _) n)) => some (true, one (.int k) (k.wrap n))
  | some ⟨.str, false, .basic⟩, some ⟨.str, false, .basic⟩, .s (.one (.val .str s)) => some (true, one .str s)
  | some ⟨_, _, .slice et⟩, some ⟨.str, false, .basic⟩, .s (.one c) =>
    match look T et with
    | some ⟨.int .u8, false, .basic⟩ => match c with
      | .val (.slice (.int .u8)) l => some (true, one .str (toStr l))
      | .nils => some (true, one .str ([] : List UInt8))
      | .own _ => match o with
        | some (.arr (.int .u8) xs) => some (true, one .str (toStr xs))
        | _ => none
      | _ => none
    | _ => none
  | _, _, _ => none

def convOp (T : Tab) (st : St) (src dst : TypeId) (x : AVal) : Option (Bool × AVal) := convO T (ownOb st x) src dst x

def nilOp (st : St) (x : AVal) : Option (Bool × AVal) :=
  match x with
  | .s (.one (.rptr _ _ _)) => some (true, x)
  | .s (.one (.ptr id _)) => match look st.objs id with
    | some (.box _) => some (true, x)
    | _ => none
  | .s (.one (.eptr id _ _)) | .s (.one (.aptr id)) => match look st.objs id with
    | some (.arr _ _) => some (true, x)
    | _ => none
  | _ => none

def capIds (st : St) : List Operand → Option (List Nat)
  | [] => some []
  | o :: l => match ev st o, capIds st l with
    | some (.s (.one (.ptr id 0))), some r => some (id :: r)
    | _, _ => none

def minI (a b : Int) : Int := if b < a then b else a
def maxI (a b : Int) : Int := if a < b then b else a

/-- the operations that turn no memory: under what condition they do not panic, and what they give -/
def pureOp (T : Tab) (st : St) : Op → Option (Bool × AVal)
  | .move x | .assign x => (ev st x).map fun v => (true, v)
  | .pick c a b => match (ev st c).bind asB with
    | some p => match ev st a, ev st b with
      | some (.s (.one (.val .bool x))), some (.s (.one (.val .bool y))) => some (true, one .bool (bif p then x else y))
      | va, vb => (bif p then va else vb).map fun v => (true, v)
    | none => none
  | .load t a => (ev st a).bind fun v => match loadArr T st t v with
    | some r => some r
    | none => (loadOp T st t v).map fun r => (true, r)
  | .nilCheck x => (ev st x).bind (nilOp st)
  | .binOp op t x y _ => match ev st x, ev st y with
    | some a, some b => binOp T op t a b
    | _, _ => none
  | .unOp op _ x => (ev st x).bind (unOp op)
  | .convert src dst x => (ev st x).bind (convOp T st src dst)
  | .slice t x lo hi none => (ev st x).bind fun v => sliceOp T st t v lo hi
  | .fieldAddr s x f => (ev st x).bind fun v => fieldAddrOp T st s v f
  | .field t x f => (ev st x).bind fun v => fieldOp T t v f
  | .indexAddr t x i => match ev st x, ev st i with
    | some a, some b => indexAddrOp T st t a b
    | _, _ => none
  | .index t x i => match ev st x, ev st i with
    | some a, some b => indexOp T t a b
    | _, _ => none
  | .extract t ix => match ev st t with
    | some (.tup xs) => (xs[ix]?).map fun x => (true, .s x)
    | _ => none
  | .makeFunc (.func f) first captured => if first.isEmpty then (capIds st captured.toList).map fun ids => (true, .s (.one (.clos f ids))) else none
  | .call c => match c.callee, c.args.toList, c.argTypes.toList with
    | .builtin .len, [x], [t] => (ev st x).bind (lenOp T st t)
    | .builtin .min, [x, y], [_, _] => match ev st x, ev st y with
      | some (.s (.one (.val (.int k) a))), some (.s (.one (.val (.int k') b))) => if k = k' then some (true, one (.int k) (minI a b)) else none
      | _, _ => none
    | .builtin .max, [x, y], [_, _] => match ev st x, ev st y with
      | some (.s (.one (.val (.int k) a))), some (.s (.one (.val (.int k') b))) => if k = k' then some (true, one (.int k) (maxI a b)) else none
      | _, _ => none
    | _, _, _ => none
  | _ => none

/-! ### operations that turn memory -/

def zcells : Ty → List Cell
  | .prod a b => zcells a ++ zcells b
  | .int k => [.val (.int k) (0 : Int)]
  | .bool => [.val .bool false]
  | .str => [.val .str ([] : List UInt8)]
  | .slice _ => [.nils]
  | .own _ => [.junk]

/-- data alone: no memory of its own inside -/
def Ty.data : Ty → Bool
  | .own _ => false
  | .prod a b => a.data && b.data
  | _ => true

def unfold : (t : Ty) → t.den → Nat → List Cell × Objs × Nat
  | .prod a b, d, nx =>
    let x := unfold a d.1 nx
    let y := unfold b d.2 x.2.2
    (x.1 ++ y.1, x.2.1 ++ y.2.1, y.2.2)
  | .own e, d, nx => ([.own nx], [(nx, .arr e d)], nx + 1)
  | .int k, d, nx => ([.val (.int k) d], [], nx)
  | .bool, d, nx => ([.val .bool d], [], nx)
  | .str, d, nx => ([.val .str d], [], nx)
  | .slice e, d, nx => ([.val (.slice e) d], [], nx)

def foldS (t : Ty) (c : Cell) : Option t.den :=
  match c with
  | .val t' d => castTo t' t d
  | _ => none

/-- what cells hold, as data: the data, the objects that go with it, those that are lent -/
def foldC : (t : Ty) → List Cell → Objs → Option (t.den × List Nat × List Nat)
  | .prod a b, cs, objs => match foldC a (cs.take a.size) objs, foldC b (cs.drop a.size) objs with
    | some (x, m, r), some (y, m', r') => some ((x, y), m ++ m', r ++ r')
    | _, _ => none
  | .own e, cs, objs => match cs with
    | [.own id] => match look objs id with
      | some (.arr e' xs) => (castTo (.own e') (.own e) xs).map fun ys => (ys, [id], [])
      | _ => none
    | [.nils] => some (([] : List e.den), [], [])
    | _ => none
  | .slice e, cs, objs => match cs with
    | [.own id] => match look objs id with
      | some (.arr e' xs) => (castTo (.slice e') (.slice e) xs).map fun ys => (ys, [], [id])
      | _ => none
    | [.nils] => some (([] : List e.den), [], [])
    | [c] => (foldS (.slice e) c).map fun d => (d, [], [])
    | _ => none
  | .int k, cs, _ => match cs with
    | [c] => (foldS (.int k) c).map fun d => (d, [], [])
    | _ => none
  | .bool, cs, _ => match cs with
    | [c] => (foldS .bool c).map fun d => (d, [], [])
    | _ => none
  | .str, cs, _ => match cs with
    | [c] => (foldS .str c).map fun d => (d, [], [])
    | _ => none

def elemN (i : Nat) : List Nat → Bool
  | [] => false
  | j :: l => Nat.beq i j || elemN i l

def nodupN : List Nat → Bool
  | [] => true
  | i :: l => !elemN i l && nodupN l

def eqN : List Nat → List Nat → Bool
  | [], [] => true
  | i :: l, j :: m => Nat.beq i j && eqN l m
  | _, _ => false

def disjN (l m : List Nat) : Bool := l.all fun i => !elemN i m

def kill (objs : Objs) : List Nat → Objs
  | [] => objs
  | i :: l => (i, .dead) :: kill objs l

def cellsOf (agg : Bool) : AVal → Option (List Cell)
  | .s (.one c) => if agg then none else some [c]
  | .s (.agg cs) => if agg then some cs else none
  | .tup _ => none

inductive PTy where
  | v (t : Ty) (agg : Bool)
  | box (t : Ty)
  | mut (e : Ty)
  /-- a closure: the function, how many variables it holds: those follow as boxes -/
  | clos (g : FuncId) (n : Nat)
  /-- by value, and the lists of its own stay the caller's -/
  | kv (t : Ty) (agg : Bool)

def Ty.owns : Ty → Nat
  | .own _ => 1
  | .prod a b => a.owns + b.owns
  | _ => 0

def PDen : List PTy → Type
  | [] => Unit
  | .v t _ :: ps => t.den × PDen ps
  | .box t :: ps => t.den × PDen ps
  | .mut e :: ps => List e.den × PDen ps
  | .clos _ _ :: ps => PDen ps
  | .kv t _ :: ps => t.den × PDen ps

def ODen : List PTy → Type
  | [] => Unit
  | .v _ _ :: ps => ODen ps
  | .box t :: ps => t.den × ODen ps
  | .mut e :: ps => List e.den × ODen ps
  | .clos _ _ :: ps => ODen ps
  | .kv t _ :: ps => t.den × ODen ps

/-- results: by value, or a pointer to a new variable -/
def RDen : List PTy → Type
  | [] => Unit
  | .v t _ :: rs => t.den × RDen rs
  | .box t :: rs => t.den × RDen rs
  | .mut _ :: rs => RDen rs
  | .clos _ _ :: rs => RDen rs
  | .kv _ _ :: rs => RDen rs

structure Args (ps : List PTy) where
  d : PDen ps
  moved : List Nat
  lent : List Nat
  kept : List Nat
  all : List Nat

def ptrs (l : List Nat) : List AVal := l.map fun id => .s (.one (.ptr id 0))

def foldArgs : (ps : List PTy) → List AVal → Objs → Option (Args ps)
  | [], xs, _ => match xs with
    | [] => some ⟨(), [], [], [], []⟩
    | _ => none
  | .v t agg :: ps, xs, objs => match xs with
    | x :: xs => match (cellsOf agg x).bind fun cs => foldC t cs objs, foldArgs ps xs objs with
      | some (d, m, r), some A => some ⟨(d, A.d), m ++ A.moved, r ++ A.lent, A.kept, m ++ A.all⟩
      | _, _ => none
    | _ => none
  | .box t :: ps, xs, objs => match xs with
    | .s (.one (.ptr id 0)) :: xs => match look objs id with
      | some (.box cs) => match foldC t cs objs, foldArgs ps xs objs with
        | some (d, m, []), some A => some ⟨(d, A.d), m ++ A.moved, A.lent, id :: A.kept, id :: (m ++ A.all)⟩
        | _, _ => none
      | _ => none
    | _ => none
  | .mut e :: ps, xs, objs => match xs with
    | .s (.one (.own id)) :: xs => match look objs id with
      | some (.arr e' ys) => match castL e' e ys, foldArgs ps xs objs with
        | some d, some A => some ⟨(d, A.d), A.moved, A.lent, id :: A.kept, id :: A.all⟩
        | _, _ => none
      | _ => none
    | _ => none
  | .clos g n :: ps, xs, objs => match xs with
    | .s (.one (.clos g' caps)) :: xs => if g' = g ∧ caps.length = n then (foldArgs ps (ptrs caps ++ xs) objs).map fun A => ⟨A.d, A.moved, A.lent, A.kept, A.all⟩ else none
    | _ => none
  | .kv t agg :: ps, xs, objs => match xs with
    | x :: xs => match (cellsOf agg x).bind fun cs => foldC t cs objs, foldArgs ps xs objs with
      | some (d, m, r), some A => if m.length = t.owns then some ⟨(d, A.d), A.moved, r ++ A.lent, m ++ A.kept, m ++ A.all⟩ else none
      | _, _ => none
    | _ => none

/-- the lists of one's own of a value, laid at their objects again -/
def reArr : (t : Ty) → t.den → List Nat → Objs
  | .own e, d, ids => match ids with
    | id :: _ => [(id, .arr e d)]
    | [] => []
  | .prod a b, d, ids => reArr a d.1 (ids.take a.owns) ++ reArr b d.2 (ids.drop a.owns)
  | .int _, _, _ => []
  | .bool, _, _ => []
  | .str, _, _ => []
  | .slice _, _, _ => []

def putOuts : (ps : List PTy) → ODen ps → List Nat → Objs → Nat → Objs × Nat
  | [], _, _, objs, nx => (objs, nx)
  | .v _ _ :: ps, o, ids, objs, nx => putOuts ps o ids objs nx
  | .box t :: ps, o, ids, objs, nx => match ids with
    | id :: ids =>
      let x := unfold t o.1 nx
      putOuts ps o.2 ids ((id, .box x.1) :: (x.2.1 ++ objs)) x.2.2
    | [] => (objs, nx)
  | .mut e :: ps, o, ids, objs, nx => match ids with
    | id :: ids => putOuts ps o.2 ids ((id, .arr e o.1) :: objs) nx
    | [] => (objs, nx)
  | .clos _ _ :: ps, o, ids, objs, nx => putOuts ps o ids objs nx
  | .kv t _ :: ps, o, ids, objs, nx => putOuts ps o.2 (ids.drop t.owns) (reArr t o.1 (ids.take t.owns) ++ objs) nx

def mkAV (agg : Bool) (cs : List Cell) : AV := if agg then .agg cs else match cs with
  | [c] => .one c
  | _ => .agg cs

def putRes : (rs : List PTy) → RDen rs → Objs → Nat → List AV × Objs × Nat
  | [], _, objs, nx => ([], objs, nx)
  | .v t agg :: rs, d, objs, nx =>
    let x := unfold t d.1 nx
    let y := putRes rs d.2 (x.2.1 ++ objs) x.2.2
    (mkAV agg x.1 :: y.1, y.2)
  | .box t :: rs, d, objs, nx =>
    let x := unfold t d.1 (nx + 1)
    let y := putRes rs d.2 ((nx, .box x.1) :: (x.2.1 ++ objs)) x.2.2
    (.one (.ptr nx 0) :: y.1, y.2)
  | .mut _ :: rs, d, objs, nx => putRes rs d objs nx
  | .clos _ _ :: rs, d, objs, nx => putRes rs d objs nx
  | .kv _ _ :: rs, d, objs, nx => putRes rs d objs nx

def resAV : List AV → AVal
  | [x] => .s x
  | xs => .tup xs

structure Sig where
  ps : List PTy
  rs : List PTy
  fn : (R : Type) → PDen ps → (ODen ps × RDen rs → Option R) → Option R
  run : PDen ps → Option (ODen ps × RDen rs)
  law : ∀ (R : Type) (d : PDen ps) (k : ODen ps × RDen rs → Option R), fn R d k = (run d).bind k

/-- a contract by a function alone -/
def Sig.of (ps : List PTy) (rs : List PTy) (run : PDen ps → Option (ODen ps × RDen rs)) : Sig := ⟨ps, rs, fun _ d k => (run d).bind k, run, fun _ _ _ => rfl⟩

theorem Sig.law' (s : Sig) {R : Type} (d : PDen s.ps) (k : ODen s.ps × RDen s.rs → Option R) (r : R) (h : s.fn R d k = some r) : ∃ o, s.run d = some o ∧ k o = some r := by
  rw [s.law] at h
  cases hr : s.run d with
  | none => rw [hr] at h; cases h
  | some o => rw [hr] at h; exact ⟨o, rfl, h⟩

def PTy.fresh : PTy → Bool
  | .v _ _ => true
  | .box t => t.noRo
  | .mut e => e.noRo
  | .clos _ _ => true
  | .kv t _ => t.noRo

def PTy.freshR : PTy → Bool
  | .v t _ => t.noRo
  | .box t => t.noRo
  | .mut _ => true
  | .clos _ _ => true
  | .kv _ _ => true

/-- what comes back leads into no memory of others -/
def Sig.fresh (s : Sig) : Bool := s.rs.all PTy.freshR && s.ps.all PTy.fresh

abbrev Ctx := List (FuncId × Sig)

def evs (st : St) : List Operand → Option (List AVal)
  | [] => some []
  | o :: l => match ev st o, evs st l with
    | some x, some xs => some (x :: xs)
    | _, _ => none

/-- what an operation comes to: the value, the memory, the next number -/
abbrev KV (R : Type) := AVal → Objs → Nat → Option R

def callOp {R : Type} (sg : Sig) (st : St) (xs : List AVal) (k : KV R) : Option R :=
  match foldArgs sg.ps xs st.objs with
  | some A =>
    if nodupN A.all && disjN A.lent A.all && (sg.fresh || A.lent.isEmpty) then
      sg.fn R A.d fun o =>
        let p := putOuts sg.ps o.1 A.kept (kill st.objs A.moved) st.nx
        let q := putRes sg.rs o.2 p.1 p.2
        k (resAV q.1) q.2.1 q.2.2
    else none
  | none => none

/-- a slice of one's own told as one that is read alone from now on -/
def frzCell (objs : Objs) (ids : List Nat) : Cell → Cell
  | .own id => bif elemN id ids then (match look objs id with
    | some (.arr e xs) => .val (.slice e) xs
    | _ => .junk) else .own id
  | .val t d => .val t d
  | .nils => .nils
  | .aptr id => .aptr id
  | .ptr id off => .ptr id off
  | .eptr id i off => .eptr id i off
  | .rptr t d off => .rptr t d off
  | .clos f caps => .clos f caps
  | .junk => .junk

def frzVal (objs : Objs) (ids : List Nat) : AVal → AVal
  | .s (.one c) => .s (.one (frzCell objs ids c))
  | .s (.agg cs) => .s (.agg (cs.map (frzCell objs ids)))
  | .tup xs => .tup xs

def ownIdC : Cell → List Nat
  | .own id => [id]
  | .val _ _ => []
  | .nils => []
  | .aptr _ => []
  | .ptr _ _ => []
  | .eptr _ _ _ => []
  | .rptr _ _ _ => []
  | .clos _ _ => []
  | .junk => []

def ownIdsV : AVal → List Nat
  | .s (.one c) => ownIdC c
  | .s (.agg cs) => cs.flatMap ownIdC
  | .tup _ => []

/-- what is laid into data: read alone from now on -/
def laidIds (p v : AVal) : List Nat := match p with
  | .s (.one (.eptr _ _ _)) => ownIdsV v
  | _ => []

def ownIdsL (ps : List (Nat × AVal)) : List Nat := ps.flatMap fun p => ownIdsV p.2

def frzObjs (objs : Objs) (l : List Nat) : Objs := kill objs l

def frzParts (objs : Objs) (ps : List (Nat × AVal)) : List (Nat × AVal) := ps.map fun p => (p.1, frzVal objs (ownIdsL ps) p.2)

/-- a call: what is lent to a function that may keep it is read alone from now on -/
def callF {R : Type} (sg : Sig) (st : St) (xs : List AVal) (k : KV R) : Option R :=
  bif sg.fresh then callOp sg st xs k else match foldArgs sg.ps xs st.objs with
    | some A => match A.lent with
      | [] => callOp sg st xs k
      | _ => callOp sg { env := st.env, objs := kill st.objs A.lent, nx := st.nx } (xs.map (frzVal st.objs A.lent)) k
    | none => none

def St.new (st : St) (dst : Option Tmp) (ob : Ob) (x : AVal) : St :=
  { env := st.env, objs := (st.nx, ob) :: st.objs, nx := st.nx + 1 : St }.put dst x

def St.turn (st : St) (id : Nat) (ob : Ob) : St := { st with objs := (id, ob) :: st.objs }

/-- `cs` with the cells from `off` on turned to `ds` -/
def splice (cs : List Cell) (off : Nat) (ds : List Cell) : List Cell := cs.take off ++ ds ++ cs.drop (off + ds.length)

def boxed : AVal → Option (List Cell)
  | .s (.one c) => some [c]
  | .s (.agg cs) => some cs
  | .tup _ => none

def storeOp (T : Tab) (st : St) (t : TypeId) (x v : AVal) : Option St :=
  match look T t, x, boxed v with
  | some te, .s (.one (.ptr id off)), some ds => match look st.objs id with
    | some (.box cs) => if decide (te.ty.size = ds.length) && te.plain && decide (off + ds.length ≤ cs.length) then some (st.turn id (.box (splice cs off ds))) else none
    | _ => none
  | some te, .s (.one (.eptr id i off)), some ds => match look st.objs id with
    | some (.arr e xs) =>
      if decide (te.ty.size = ds.length) && te.plain && decide (off + ds.length ≤ e.size) && e.data then
        match foldC e (splice (split e (xs.getD i e.dflt)) off ds) st.objs with
        | some (d, [], []) => some (st.turn id (.arr e (xs.set i d)))
        | _ => none
      else none
    | _ => none
  | _, _, _ => none

/-- the list of a slice that is read: what `append` takes from it -/
def readL (st : St) (e : Ty) : AVal → Option (List e.den)
  | .s (.one (.val (.slice e') d)) => castL e' e d
  | .s (.one .nils) => some []
  | .s (.one (.own id)) => match look st.objs id with
    | some (.arr e' xs) => castL e' e xs
    | _ => none
  | _ => none

def appendOp {R : Type} (T : Tab) (st : St) (t t2 : TypeId) (s x : AVal) (k : KV R) : Option R :=
  match look T t, look T t2 with
  | some ⟨_, false, .slice et⟩, some _ => match look T et with
    | some te =>
      if t = t2 ∧ te.plain ∧ te.ty.data then
        match s, readL st te.ty x with
        | .s (.one .nils), some l => bif room l.length then k (.s (.one (.own st.nx))) ((st.nx, .arr te.ty l) :: st.objs) (st.nx + 1) else none
        | .s (.one (.own id)), some l => match look st.objs id with
          | some (.arr e xs) => match castTo (.own e) (.own te.ty) xs with
            | some ys => bif room (List.length ys + l.length) then k (.s (.one (.own st.nx))) ((st.nx, .arr te.ty (List.append ys l)) :: (id, .dead) :: st.objs) (st.nx + 1) else none
            | none => none
          | _ => none
        | _, _ => none
      else none
    | none => none
  | _, _ => none

def partAt (parts : List (Nat × AVal)) (i : Nat) : Option AVal := look parts i

/-- a struct literal: the zero cells with the parts put over them -/
def fillC (T : Tab) (fs : List (Nat × TypeId)) : List (Nat × AVal) → List Cell → Option (List Cell)
  | [], cs => some cs
  | (i, x) :: ps, cs => match fs[i]? with
    | some (off, ft) => match look T ft, boxed x with
      | some te, some ds => if decide (te.ty.size = ds.length) && decide (off + ds.length ≤ cs.length) then fillC T fs ps (splice cs off ds) else none
      | _, _ => none
    | none => none

def fillL (e : Ty) (objs : Objs) : List (Nat × AVal) → List e.den → Option (List e.den)
  | [], xs => some xs
  | (i, x) :: ps, xs => match boxed x with
    | some ds => match foldC e ds objs with
      | some (d, [], []) => if i < xs.length then fillL e objs ps (xs.set i d) else none
      | _ => none
    | none => none

def evParts (st : St) : List (Nat × Operand) → Option (List (Nat × AVal))
  | [] => some []
  | (i, o) :: l => match ev st o, evParts st l with
    | some x, some xs => some ((i, x) :: xs)
    | _, _ => none

/-- one operation: what it comes to -/
def rxe {R : Type} (T : Tab) (Γ : Ctx) (o : Oper) (st : St) (k : KV R) : Option R :=
  match o.op with
  | .alloc t => match look T t with
    | some ⟨e, true, .arr n _⟩ => if e.data && room n then k (.s (.one (.aptr st.nx))) ((st.nx, .arr e (List.replicate n e.dflt)) :: st.objs) (st.nx + 1) else none
    | some te => if te.plain then k (.s (.one (.ptr st.nx 0))) ((st.nx, .box (zcells te.ty)) :: st.objs) (st.nx + 1) else none
    | none => none
  | .box t x => match look T t, (ev st x).bind boxed with
    | some _, some cs => k (.s (.one (.ptr st.nx 0))) ((st.nx, .box cs) :: st.objs) (st.nx + 1)
    | _, _ => none
  | .build t parts => match look T t, evParts st parts.toList with
    | some ⟨ty, true, .struct fs⟩, some ps =>
      if fs.all (fun f => match look T f.2 with | some te => te.plain | none => false) then
        match fillC T fs ps (zcells ty) with
        | some cs => k (.s (.agg cs)) st.objs st.nx
        | none => none
      else none
    | _, _ => none
  | .buildSlice t n parts => match look T t, evParts st parts.toList with
    | some ⟨_, false, .slice et⟩, some ps => match look T et with
      | some te => match fillL te.ty (frzObjs st.objs (ownIdsL ps)) (frzParts st.objs ps) (List.replicate n te.ty.dflt) with
        | some xs => if decide (n * te.ty.size ≤ 16777216) && te.ty.data && te.plain then k (.s (.one (.own st.nx))) ((st.nx, .arr te.ty xs) :: frzObjs st.objs (ownIdsL ps)) (st.nx + 1) else none
        | none => none
      | none => none
    | _, _ => none
  | .makeSlice t n c => match look T t, (ev st n).bind asI, (ev st c).bind asI with
    | some ⟨_, false, .slice et⟩, some n', some c' => match look T et with
      | some te => if te.ty.data && te.plain then (bif decide (0 ≤ n') && decide (n' ≤ c') && room c'.toNat then k (.s (.one (.own st.nx))) ((st.nx, .arr te.ty (List.replicate n'.toNat te.ty.dflt)) :: st.objs) (st.nx + 1) else none) else none
      | none => none
    | _, _, _ => none
  | .store t a x => match ev st a, ev st x with
    | some p, some v => match storeOp T { env := st.env, objs := frzObjs st.objs (laidIds p v), nx := st.nx } t p (frzVal st.objs (laidIds p v) v) with
      | some st' => match o.dst with
        | none => k (.tup []) st'.objs st'.nx
        | some _ => none
      | none => none
    | _, _ => none
  | .slice t x lo hi none => match ev st x with
    | some (.s (.one (.own id))) => match look T t, look st.objs id, optI st lo, optI st hi with
      | some ⟨_, false, .slice et⟩, some (.arr e xs), some none, some (some h) => match look T et with
        | some te => if te.ty = e then (bif decide (0 ≤ h) && decide (h ≤ (xs.length : Int)) then k (.s (.one (.own st.nx))) ((st.nx, .arr e (xs.take h.toNat)) :: (id, .dead) :: st.objs) (st.nx + 1) else none) else none
        | none => none
      | _, _, _, _ => none
    | _ => match pureOp T st o.op with
      | some (c, v) => bif c then k v st.objs st.nx else none
      | none => none
  | .call c => match c.callee, c.args.toList, c.argTypes.toList with
    | .builtin .append, [s, x], [t, t2] => match ev st s, ev st x with
      | some sv, some xv => appendOp T st t t2 sv xv k
      | _, _ => none
    | .builtin _, _, _ => match pureOp T st o.op with
      | some (c, v) => bif c then k v st.objs st.nx else none
      | none => none
    | .value f, args, _ => match ev st f, evs st args with
      | some (.s (.one (.clos g caps))), some xs => match look Γ g with
        | some sg => callF sg st (xs ++ ptrs caps) k
        | none => none
      | _, _ => none
    | _, _, _ => none
  | op => match pureOp T st op with
    | some (c, v) => bif c then k v st.objs st.nx else none
    | none => none

/-- one operation -/
def rx1 {R : Type} (T : Tab) (Γ : Ctx) (o : Oper) (st : St) (k : St → Option R) : Option R :=
  rxe T Γ o st fun x objs nx => k (({ env := st.env, objs := objs, nx := nx } : St).put o.dst x)

/-- one operation with its guard -/
def rxg {R : Type} (T : Tab) (Γ : Ctx) (ops : Array Oper) (o : Oper) (st : St) (k : St → Option R) : Option R :=
  match o.guard with
  | none => rx1 T Γ o st k
  | some (j, want) => match (ops[j]?).bind (·.dst) with
    | some t => match look st.env t with
      | some (.tup []) => k (st.put o.dst (.tup []))
      | some x => match asB x with
        | some b => bif b
          then (if want then rx1 T Γ o (st.put (some t) (one .bool true)) k else k ((st.put (some t) (one .bool true)).put o.dst (.tup [])))
          else (if want then k ((st.put (some t) (one .bool false)).put o.dst (.tup [])) else rx1 T Γ o (st.put (some t) (one .bool false)) k)
        | none => none
      | none => none
    | none => none

def rxs {R : Type} (T : Tab) (Γ : Ctx) (ops : Array Oper) : List Oper → St → (St → Option R) → Option R
  | [], st, k => k st
  | o :: l, st, k => rxg T Γ ops o st fun st' => rxs T Γ ops l st' k

inductive Ex where
  | normal | exit (id : Nat) | ret

def loopN {R : Type} (f : St → (Ex → St → Option R) → Option R) : Nat → St → (Ex → St → Option R) → Option R
  | 0, _, _ => none
  | n + 1, st, k => f st fun e st' => match e with
    | .normal => loopN f n st' k
    | .exit id => k (.exit id) st'
    | .ret => k .ret st'

/-- what is done to the state, without a step of the machine, behind a region -/
inductive Ghost where
  | canon (slots : List Nat)
  | adopt (slot : Nat) (e : Ty)
  | freeze (slot : Nat)
  | adoptC (slot off : Nat) (e : Ty)
  | freezeC (slot off : Nat)

def cellIds : Cell → List Nat
  | .own id | .aptr id | .ptr id _ | .eptr id _ _ => [id]
  | .clos _ caps => caps
  | _ => []

def avIds : AV → List Nat
  | .one c => cellIds c
  | .agg cs => cs.flatMap cellIds

def avalIds : AVal → List Nat
  | .s x => avIds x
  | .tup xs => xs.flatMap avIds

def reach : Nat → List Nat → List Nat → Objs → List Nat
  | 0, _, acc, _ => acc
  | n + 1, todo, acc, objs => match todo with
    | [] => acc
    | i :: l => if elemN i acc then reach n l acc objs else
      match look objs i with
      | some (.box cs) => reach n (l ++ cs.flatMap cellIds) (acc ++ [i]) objs
      | some (.arr _ _) => reach n l (acc ++ [i]) objs
      | _ => reach n l acc objs

def posN (i : Nat) : List Nat → Option Nat
  | [] => none
  | j :: l => if Nat.beq i j then some 0 else (posN i l).map (· + 1)

def posAll (m : List Nat) : List Nat → Option (List Nat)
  | [] => some []
  | i :: l => match posN i m, posAll m l with
    | some j, some r => some (j :: r)
    | _, _ => none

def renCell (m : List Nat) : Cell → Cell
  | .own id => match posN id m with | some j => .own j | none => .junk
  | .aptr id => match posN id m with | some j => .aptr j | none => .junk
  | .ptr id off => match posN id m with | some j => .ptr j off | none => .junk
  | .eptr id i off => match posN id m with | some j => .eptr j i off | none => .junk
  | .clos f caps => match posAll m caps with | some js => .clos f js | none => .junk
  | .val t d => .val t d
  | .nils => .nils
  | .rptr t d off => .rptr t d off
  | .junk => .junk

def renAV (m : List Nat) : AV → AV
  | .one c => .one (renCell m c)
  | .agg cs => .agg (cs.map (renCell m))

def renAVal (m : List Nat) : AVal → AVal
  | .s x => .s (renAV m x)
  | .tup xs => .tup (xs.map (renAV m))

def renOb (m : List Nat) : Ob → Ob
  | .box cs => .box (cs.map (renCell m))
  | .arr e xs => .arr e xs
  | .dead => .dead

def pickEnv (env : List (Nat × AVal)) : List Nat → List (Nat × AVal)
  | [] => []
  | i :: l => match look env i with
    | some x => (i, x) :: pickEnv env l
    | none => pickEnv env l

def renObjs (m : List Nat) (objs : Objs) : Nat → List Nat → Objs
  | _, [] => []
  | j, i :: l => match look objs i with
    | some ob => (j, renOb m ob) :: renObjs m objs (j + 1) l
    | none => renObjs m objs (j + 1) l

def canon (slots : List Nat) (st : St) : St :=
  let env := pickEnv st.env slots
  let m := reach 400 (env.flatMap fun p => avalIds p.2) [] st.objs
  { env := env.map fun p => (p.1, renAVal m p.2), objs := renObjs m st.objs 0 m, nx := m.length }

def ghost (g : Ghost) (st : St) : Option St :=
  match g with
  | .canon slots => some (canon slots st)
  | .adopt slot e => match look st.env slot with
    | some (.s (.one .nils)) => some (st.new (some slot) (.arr e []) (.s (.one (.own st.nx))))
    | some (.s (.one (.own _))) => some st
    | _ => none
  | .freeze slot => match look st.env slot with
    | some (.s (.one (.own id))) => match look st.objs id with
      | some (.arr e xs) => some ((st.turn id .dead).put (some slot) (one (.slice e) xs))
      | _ => none
    | _ => none
  | .adoptC slot off e => match look st.env slot with
    | some (.s (.one (.ptr id 0))) => match look st.objs id with
      | some (.box cs) => match cs[off]? with
        | some .nils => some { env := st.env, objs := (id, .box (cs.set off (.own st.nx))) :: (st.nx, .arr e []) :: st.objs, nx := st.nx + 1 }
        | some (.own _) => some st
        | _ => none
      | _ => none
    | _ => none
  | .freezeC slot off => match look st.env slot with
    | some (.s (.one (.ptr id 0))) => match look st.objs id with
      | some (.box cs) => match cs[off]? with
        | some (.own j) => match look st.objs j with
          | some (.arr e xs) => some { st with objs := (id, .box (cs.set off (.val (.slice e) xs))) :: (j, .dead) :: st.objs }
          | _ => none
        | some (.val _ _) => some st
        | some .nils => some st
        | _ => none
      | _ => none
    | _ => none

def ghosts : List Ghost → St → Option St
  | [], st => some st
  | g :: l, st => (ghost g st).bind (ghosts l)

/-- a loop's number, for the ghost steps at its head -/
def firstId : Code → Option Nat
  | .region id _ _ => some id
  | .seq a b => match firstId a with
    | some i => some i
    | none => firstId b
  | .cond _ a b => match firstId a with
    | some i => some i
    | none => firstId b
  | .block _ c => firstId c
  | .loop c => (firstId c).map (· + 100000)
  | _ => none

def loopKey (c : Code) : Nat := match firstId c with
  | some i => i + 100000
  | none => 99999

/-- one round, then the ghost steps -/
def roundG {R : Type} (gs : List Ghost) (f : St → (Ex → St → Option R) → Option R) (st : St) (k : Ex → St → Option R) : Option R :=
  f st fun e st' => match e with
    | .normal => match ghosts gs st' with
      | some st'' => k .normal st''
      | none => none
    | .exit id => k (.exit id) st'
    | .ret => k .ret st'

/-! ### regions whose order is drawn -/

def opnds : Op → List Operand
  | .move x | .assign x | .box _ x | .load _ x | .nilCheck x | .unOp _ _ x | .convert _ _ x | .fieldAddr _ x _ | .field _ x _ | .extract x _ => [x]
  | .pick c a b => [c, a, b]
  | .build _ ps | .buildSlice _ _ ps => ps.toList.map (·.2)
  | .store _ a v | .binOp _ _ a v _ | .makeSlice _ a v | .indexAddr _ a v | .index _ a v => [a, v]
  | .makeFunc _ first captured => first.toList ++ captured.toList
  | .slice _ x l h m => x :: (l.toList ++ (h.toList ++ m.toList))
  | .call c => (match c.callee with | .value f => [f] | _ => []) ++ c.args.toList
  | _ => []

def isMut (o : Oper) : Bool := match o.op with
  | .alloc _ | .box _ _ | .buildSlice _ _ _ | .makeSlice _ _ _ | .store _ _ _ | .slice _ _ _ _ _ => true
  | .call c => match c.callee with
    | .builtin .append => true
    | .builtin _ => false
    | _ => true
  | _ => false

/-- does it look at memory? -/
def memOp : Op → Bool
  | .load _ _ | .nilCheck _ | .convert _ _ _ | .fieldAddr _ _ _ | .indexAddr _ _ _ | .call _ => true
  | _ => false

def operIds (st : St) : List Operand → List Nat
  | [] => []
  | x :: l => match ev st x with
    | some v => avalIds v ++ operIds st l
    | none => operIds st l

def lookIds (o : Oper) (st : St) : List Nat := bif memOp o.op then operIds st (opnds o.op) else []

def keysOf (l : Objs) : List Nat := l.map (·.1)

def newIds (a b : Objs) : List Nat := keysOf (b.take (b.length - a.length))

def addN (x : Nat) (l : List Nat) : List Nat := bif elemN x l then l else x :: l
def addAll : List Nat → List Nat → List Nat
  | [], l => l
  | x :: m, l => addAll m (addN x l)

/-- what must be done right before -/
def deps (o : Oper) : List Nat := (o.after.toList.filter (Region.binds .any)).map (·.on)

def joinB (acc : List (List Nat)) : List Nat → List Nat → List Nat
  | [], l => l
  | j :: ds, l => joinB acc ds (addAll (acc.getD j []) (addN j l))

/-- what must be done before, op by op -/
def mkBef : List Oper → List (List Nat) → List (List Nat)
  | [], acc => acc
  | o :: l, acc => mkBef l (acc ++ [joinB acc (deps o) []])

def isBef (B : List (List Nat)) (j i : Nat) : Bool := elemN j (B.getD i [])

/-- all edges lead back -/
def backw : List Oper → Nat → Bool
  | [], _ => true
  | o :: l, n => (deps o).all (fun d => Nat.blt d n) && backw l (n + 1)

def slotOf : Operand → List Nat
  | .tmp t => [t]
  | _ => []

/-- the slots that an operation looks at -/
def slotsOf (ops : Array Oper) (o : Oper) : List Nat := (opnds o.op).flatMap slotOf ++ (match o.guard with
  | some (j, _) => ((ops[j]?).bind (·.dst)).toList
  | none => [])

def dstsOf : List Oper → Nat → List (Nat × Nat)
  | [], _ => []
  | o :: l, i => match o.dst with
    | some d => (d, i) :: dstsOf l (i + 1)
    | none => dstsOf l (i + 1)

/-- an operation that looks at a slot stands in order with the one that fills it -/
def slotsIn (ops : Array Oper) (B : List (List Nat)) (D : List (Nat × Nat)) : List Oper → Nat → Bool
  | [], _ => true
  | o :: l, i => (slotsOf ops o).all (fun t => D.all fun p => !Nat.beq p.1 t || Nat.beq p.2 i || isBef B p.2 i || isBef B i p.2) && slotsIn ops B D l (i + 1)

def regOk (ops : Array Oper) (B : List (List Nat)) : Bool :=
  backw ops.toList 0 && nodupN ((dstsOf ops.toList 0).map (·.1)) && slotsIn ops B (dstsOf ops.toList 0) ops.toList 0

def mutsOf : List Oper → Nat → List Nat
  | [], _ => []
  | o :: l, i => bif isMut o then i :: mutsOf l (i + 1) else mutsOf l (i + 1)

/-- the orders of what must stand in some order -/
def exts (B : List (List Nat)) : Nat → List Nat → List (List Nat)
  | 0, _ => [[]]
  | n + 1, rem => match rem with
    | [] => [[]]
    | _ => (rem.filter fun m => rem.all fun m' => !isBef B m' m).flatMap fun m => (exts B n (rem.filter fun x => !Nat.beq x m)).map (m :: ·)

def nextOp (ops : List Oper) (B : List (List Nat)) (done : List Nat) (σ : List Nat) : Nat → Option Nat := fun i => match ops with
  | [] => none
  | o :: l => bif !elemN i done && (B.getD i []).all (fun j => elemN j done) && (!isMut o || (match σ with | m :: _ => Nat.beq m i | [] => false)) then some i else nextOp l B done σ (i + 1)

/-- the order nearest to the text's, of those that keep `σ` -/
def orderOf (ops : List Oper) (B : List (List Nat)) : Nat → List Nat → List Nat → List Nat
  | 0, _, _ => []
  | n + 1, done, σ => match nextOp ops B done σ 0 with
    | some i => i :: orderOf ops B n (i :: done) (match σ with | m :: σ' => bif Nat.beq m i then σ' else σ | [] => [])
    | none => []

/-- is it an order in which all is done? -/
def ordOk (ops : Array Oper) : List Nat → List Nat → Bool
  | [], done => Nat.beq done.length ops.size
  | i :: l, done => !elemN i done && (match ops[i]? with | some o => (deps o).all (fun d => elemN d done) | none => false) && ordOk ops l (i :: done)

def forceN {α : Type} : List Nat → (List Nat → α) → α
  | [], k => k []
  | x :: l, k => forceN l fun l' => k (x :: l')

def forceB {α : Type} : List (List Nat) → (List (List Nat) → α) → α
  | [], k => k []
  | x :: l, k => forceN x fun x' => forceB l fun l' => k (x' :: l')

def rdx {R : Type} (T : Tab) (Γ : Ctx) (ops : Array Oper) (B : List (List Nat)) : List Nat → List (Nat × List Nat) → List (Nat × List Nat) → St → (St → Option R) → Option R
  | [], _, _, st, k => k st
  | i :: l, fl, mu, st, k => match ops[i]? with
    | some o => bif isMut o
      then rxg T Γ ops o st fun st' => forceN (newIds st.objs st'.objs) fun ids =>
        bif fl.all (fun p => isBef B p.1 i || disjN p.2 ids) then rdx T Γ ops B l fl ((i, ids) :: mu) st' k else none
      else forceN (lookIds o st) fun ids =>
        bif mu.all (fun p => isBef B p.1 i || disjN ids p.2) then rxg T Γ ops o st fun st' => rdx T Γ ops B l ((i, ids) :: fl) mu st' k else none
    | none => none

/-- a value that is told once -/
def share {α β : Type} (x : α) (f : α → β) : β := f x

open Classical in
/-- two ways that must come to the same -/
noncomputable def both {α : Type} (a b : Option α) : Option α := if a = b then a else none

noncomputable def rdxs {R : Type} (T : Tab) (Γ : Ctx) (ops : Array Oper) (B : List (List Nat)) (st : St) (k : St → Option R) : List (List Nat) → Option R
  | [] => none
  | σ :: l =>
    let a := forceN (orderOf ops.toList B ops.size [] σ) fun L => bif ordOk ops L [] && eqN (L.filter fun i => elemN i σ) σ then rdx T Γ ops B L [] [] st k else none
    match l with
    | [] => a
    | _ => both a (rdxs T Γ ops B st k l)

noncomputable def drawx {R : Type} (T : Tab) (Γ : Ctx) (ops : Array Oper) (st : St) (k : St → Option R) : Option R :=
  forceB (mkBef ops.toList []) fun B => bif regOk ops B then rdxs T Γ ops B st k (exts B ops.size (mutsOf ops.toList 0)) else none

noncomputable def sx {R : Type} (T : Tab) (Γ : Ctx) (ann : Nat → List Ghost) (N : Nat) : Code → St → (Ex → St → Option R) → Option R
  | .skip, st, k => k .normal st
  | .region id ops draw, st, k =>
    bif draw then drawx T Γ ops st fun st' => match ghosts (ann id) st' with
      | some st'' => k .normal st''
      | none => none
    else rxs T Γ ops ops.toList st fun st' => match ghosts (ann id) st' with
      | some st'' => k .normal st''
      | none => none
  | .seq a b, st, k => sx T Γ ann N a st fun e st' => match e with
    | .normal => sx T Γ ann N b st' k
    | .exit id => k (.exit id) st'
    | .ret => k .ret st'
  | .cond c x y, st, k => match (ev st c).bind asB with
    | some b => bif b then sx T Γ ann N x st k else sx T Γ ann N y st k
    | none => none
  | .block id c, st, k => sx T Γ ann N c st fun e st' => match e with
    | .exit id' => if id' = id then k .normal st' else k (.exit id') st'
    | .normal => k .normal st'
    | .ret => k .ret st'
  | .loop c, st, k => match ghosts (ann (loopKey c)) st with
    | some st' => loopN (roundG (ann (loopKey c)) fun st k => sx T Γ ann N c st k) N st' k
    | none => none
  | .exit id, st, k => k (.exit id) st
  | .ret, st, k => k .ret st
  | _, _, _ => none

/-! ### a function -/

def idsOf : List AVal → List Nat
  | [] => []
  | .s (.one (.ptr id 0)) :: l => id :: idsOf l
  | _ :: l => idsOf l

def initArgs : (ps : List PTy) → PDen ps → Objs → Nat → List AVal × Objs × Nat
  | [], _, objs, nx => ([], objs, nx)
  | .v t agg :: ps, d, objs, nx =>
    let x := unfold t d.1 nx
    let y := initArgs ps d.2 (x.2.1 ++ objs) x.2.2
    (.s (mkAV agg x.1) :: y.1, y.2)
  | .box t :: ps, d, objs, nx =>
    let x := unfold t d.1 (nx + 1)
    let y := initArgs ps d.2 ((nx, .box x.1) :: (x.2.1 ++ objs)) x.2.2
    (.s (.one (.ptr nx 0)) :: y.1, y.2)
  | .mut e :: ps, d, objs, nx =>
    let y := initArgs ps d.2 ((nx, .arr e d.1) :: objs) (nx + 1)
    (.s (.one (.own nx)) :: y.1, y.2)
  | .clos g n :: ps, d, objs, nx =>
    let y := initArgs ps d objs nx
    (.s (.one (.clos g (idsOf (y.1.take n)))) :: y.1.drop n, y.2)
  | .kv t agg :: ps, d, objs, nx =>
    let x := unfold t d.1 nx
    let y := initArgs ps d.2 (x.2.1 ++ objs) x.2.2
    (.s (mkAV agg x.1) :: y.1, y.2)

def enumEnv : Nat → List AVal → List (Nat × AVal)
  | _, [] => []
  | i, x :: xs => (i, x) :: enumEnv (i + 1) xs

def retAVs (T : Tab) (st : St) : List ResultVar → Option (List AVal)
  | [] => some []
  | .tmp t :: rs => match look st.env t, retAVs T st rs with
    | some x, some xs => some (x :: xs)
    | _, _ => none
  | .cell a t :: rs => match (look st.env a).bind (loadOp T st t), retAVs T st rs with
    | some x, some xs => some (x :: xs)
    | _, _ => none

structure Outs (α : Type) where
  d : α
  moved : List Nat
  lent : List Nat

def foldRes : (rs : List PTy) → List AVal → Objs → Option (Outs (RDen rs))
  | [], xs, _ => match xs with
    | [] => some ⟨(), [], []⟩
    | _ => none
  | .v t agg :: rs, xs, objs => match xs with
    | x :: xs => match (cellsOf agg x).bind fun cs => foldC t cs objs, foldRes rs xs objs with
      | some (d, m, l), some A => some ⟨(d, A.d), m ++ A.moved, l ++ A.lent⟩
      | _, _ => none
    | _ => none
  | .box t :: rs, xs, objs => match xs with
    | .s (.one (.ptr id 0)) :: xs => match look objs id with
      | some (.box cs) => match foldC t cs objs, foldRes rs xs objs with
        | some (d, m, l), some A => some ⟨(d, A.d), id :: (m ++ A.moved), l ++ A.lent⟩
        | _, _ => none
      | _ => none
    | _ => none
  | .mut _ :: _, _, _ => none
  | .clos _ _ :: _, _, _ => none
  | .kv _ _ :: _, _, _ => none

structure OutK (α : Type) where
  d : α
  kept : List Nat
  moved : List Nat
  lent : List Nat

/-- what stands in the slots of the parameters that are kept -/
def slotVals : List PTy → Nat → Nat → St → List AVal
  | [], _, _, _ => []
  | _ :: ps, i, k + 1, st => slotVals ps i k st
  | .v _ _ :: ps, i, 0, st => .tup [] :: slotVals ps (i + 1) 0 st
  | .box _ :: ps, i, 0, st => (look st.env i).getD (.tup []) :: slotVals ps (i + 1) 0 st
  | .mut _ :: ps, i, 0, st => (look st.env i).getD (.tup []) :: slotVals ps (i + 1) 0 st
  | .clos _ n :: ps, i, 0, st => (look st.env i).getD (.tup []) :: slotVals ps (i + 1) n st
  | .kv _ _ :: ps, i, 0, st => (look st.env i).getD (.tup []) :: slotVals ps (i + 1) 0 st

def foldOuts : (ps : List PTy) → List AVal → Objs → Option (OutK (ODen ps))
  | [], _, _ => some ⟨(), [], [], []⟩
  | .v _ _ :: ps, xs, objs => (foldOuts ps xs.tail objs).map fun A => ⟨A.d, A.kept, A.moved, A.lent⟩
  | .box t :: ps, xs, objs => match xs with
    | .s (.one (.ptr id 0)) :: xs => match look objs id with
      | some (.box cs) => match foldC t cs objs, foldOuts ps xs objs with
        | some (d, m, l), some A => some ⟨(d, A.d), id :: A.kept, m ++ A.moved, l ++ A.lent⟩
        | _, _ => none
      | _ => none
    | _ => none
  | .mut e :: ps, xs, objs => match xs with
    | .s (.one (.own id)) :: xs => match look objs id with
      | some (.arr e' ys) => match castL e' e ys, foldOuts ps xs objs with
        | some d, some A => some ⟨(d, A.d), id :: A.kept, A.moved, A.lent⟩
        | _, _ => none
      | _ => none
    | _ => none
  | .clos g n :: ps, xs, objs => match xs with
    | .s (.one (.clos g' caps)) :: xs => if g' = g ∧ caps.length = n then (foldOuts ps (ptrs caps ++ xs) objs).map fun A => ⟨A.d, A.kept, A.moved, A.lent⟩ else none
    | _ => none
  | .kv t agg :: ps, xs, objs => match xs with
    | x :: xs => match (cellsOf agg x).bind fun cs => foldC t cs objs, foldOuts ps xs objs with
      | some (d, m, l), some A => if m.length = t.owns then some ⟨(d, A.d), m ++ A.kept, A.moved, l ++ A.lent⟩ else none
      | _, _ => none
    | _ => none

def retK {R : Type} (T : Tab) (sg : Sig) (rv : List ResultVar) (k : ODen sg.ps × RDen sg.rs → Option R) (e : Ex) (st : St) : Option R :=
  match e with
  | .exit _ => none
  | _ => match retAVs T st rv with
    | some xs => match foldRes sg.rs xs st.objs, foldOuts sg.ps (slotVals sg.ps 0 0 st) st.objs with
      | some A, some B => if nodupN (B.kept ++ (B.moved ++ A.moved)) && disjN (A.lent ++ B.lent) (B.kept ++ (B.moved ++ A.moved)) then k (B.d, A.d) else none
      | _, _ => none
    | none => none

/-- what a function's body comes to, out of the data of its arguments -/
noncomputable def den {R : Type} (T : Tab) (Γ : Ctx) (ann : Nat → List Ghost) (N : Nat) (sg : Sig) (f : Func) (d : PDen sg.ps) (k : ODen sg.ps × RDen sg.rs → Option R) : Option R :=
  let x := initArgs sg.ps d [] 0
  match f.body with
  | some c => sx T Γ ann N c { env := enumEnv 0 x.1, objs := x.2.1, nx := x.2.2 } (retK T sg f.results.toList k)
  | none => none

/-- the parameters that are kept: their slots -/
def keptIx : List PTy → Nat → Nat → List Nat
  | [], _, _ => []
  | _ :: ps, i, k + 1 => keptIx ps i k
  | .v _ _ :: ps, i, 0 => keptIx ps (i + 1) 0
  | .box _ :: ps, i, 0 => i :: keptIx ps (i + 1) 0
  | .mut _ :: ps, i, 0 => i :: keptIx ps (i + 1) 0
  | .clos _ n :: ps, i, 0 => i :: keptIx ps (i + 1) n
  | .kv _ _ :: ps, i, 0 => i :: keptIx ps (i + 1) 0

/-- a closure's variables follow it as boxes -/
def boxesN : List PTy → Nat → Bool
  | _, 0 => true
  | .box _ :: ps, n + 1 => boxesN ps n
  | _, _ + 1 => false

def closOk : List PTy → Bool
  | [] => true
  | .clos _ n :: ps => boxesN ps n && closOk ps
  | .v _ _ :: ps => closOk ps
  | .box _ :: ps => closOk ps
  | .mut _ :: ps => closOk ps
  | .kv _ _ :: ps => closOk ps

end Go.Sx

/- The abstract machine: first laws of the relation to memory. -/
namespace Go.Sx
set_option linter.unusedVariables false

theorem EncL_len {α : Type} {R : α → List Value → Prop} {n : Nat} (h : ∀ x c, R x c → c.length = n) :
    ∀ (l : List α) (cs : List Value), EncL R l cs → cs.length = l.length * n
  | [], cs, e => by simp [EncL] at e; simp [e]
  | x :: l, cs, e => by
    obtain ⟨c1, c2, rfl, h1, h2⟩ := e
    have := EncL_len h l c2 h2
    rw [List.length_append, h _ _ h1, this, List.length_cons, Nat.succ_mul, Nat.add_comm]

theorem EncL_mono {α : Type} {R R' : α → List Value → Prop} (h : ∀ x c, R x c → R' x c) :
    ∀ (l : List α) (cs : List Value), EncL R l cs → EncL R' l cs
  | [], _, e => e
  | _ :: l, _, ⟨c1, c2, he, h1, h2⟩ => ⟨c1, c2, he, h _ _ h1, EncL_mono h l c2 h2⟩

theorem EncL_append {α : Type} {R : α → List Value → Prop} : ∀ (l l' : List α) (cs cs' : List Value), EncL R l cs → EncL R l' cs' → EncL R (l ++ l') (cs ++ cs')
  | [], _, cs, cs', e, e' => by simp [EncL] at e; subst e; simpa using e'
  | x :: l, l', _, cs', ⟨c1, c2, he, h1, h2⟩, e' => ⟨c1, c2 ++ cs', by simp [he], h1, EncL_append l l' c2 cs' h2 e'⟩

theorem EncL_nth {α : Type} {R : α → List Value → Prop} {n : Nat} (h : ∀ x c, R x c → c.length = n) :
    ∀ (l : List α) (cs : List Value) (i : Nat) (x : α), EncL R l cs → l[i]? = some x → R x ((cs.drop (i * n)).take n)
  | [], _, _, _, _, hi => by simp at hi
  | y :: l, cs, 0, x, ⟨c1, c2, he, h1, _⟩, hi => by
    simp at hi; subst hi
    have := h _ _ h1
    simp [he, ← this, h1]
  | y :: l, cs, i + 1, x, ⟨c1, c2, he, h1, h2⟩, hi => by
    have hl := h _ _ h1
    have := EncL_nth h l c2 i x h2 (by simpa using hi)
    rw [he, Nat.succ_mul, Nat.add_comm, ← List.drop_drop, List.drop_left' hl]
    exact this

theorem EncL_take {α : Type} {R : α → List Value → Prop} {n : Nat} (h : ∀ x c, R x c → c.length = n) :
    ∀ (l : List α) (cs : List Value) (m : Nat), EncL R l cs → EncL R (l.take m) (cs.take (m * n))
  | [], cs, m, e => by simp [EncL] at e; simp [e, EncL]
  | x :: l, cs, 0, _ => by simp [EncL]
  | x :: l, cs, m + 1, ⟨c1, c2, he, h1, h2⟩ => by
    have hl := h _ _ h1
    refine ⟨c1, c2.take (m * n), ?_, h1, EncL_take h l c2 m h2⟩
    rw [he, Nat.succ_mul, Nat.add_comm, ← hl, List.take_length_add_append]

theorem EncL_drop {α : Type} {R : α → List Value → Prop} {n : Nat} (h : ∀ x c, R x c → c.length = n) :
    ∀ (l : List α) (cs : List Value) (m : Nat), EncL R l cs → EncL R (l.drop m) (cs.drop (m * n))
  | [], cs, m, e => by simp [EncL] at e; simp [e, EncL]
  | x :: l, cs, 0, e => by simpa using e
  | x :: l, cs, m + 1, ⟨c1, c2, he, h1, h2⟩ => by
    have hl := h _ _ h1
    have := EncL_drop h l c2 m h2
    show EncL R (l.drop m) (cs.drop ((m + 1) * n))
    have e1 : (m + 1) * n = c1.length + m * n := by rw [Nat.succ_mul, hl, Nat.add_comm]
    rw [he, e1, ← List.drop_drop, List.drop_left]
    exact this

theorem EncL_set {α : Type} {R : α → List Value → Prop} {n : Nat} (h : ∀ x c, R x c → c.length = n) :
    ∀ (l : List α) (cs : List Value) (i : Nat) (x : α) (ds : List Value), EncL R l cs → i < l.length → R x ds →
      EncL R (l.set i x) (cs.take (i * n) ++ ds ++ cs.drop (i * n + n))
  | [], _, _, _, _, _, hi, _ => by simp at hi
  | y :: l, cs, 0, x, ds, ⟨c1, c2, he, h1, h2⟩, _, hx => by
    have hl := h _ _ h1
    refine ⟨ds, c2, ?_, hx, h2⟩
    simp [he, ← hl]
  | y :: l, cs, i + 1, x, ds, ⟨c1, c2, he, h1, h2⟩, hi, hx => by
    have hl := h _ _ h1
    refine ⟨c1, _, ?_, h1, EncL_set h l c2 i x ds h2 (by simpa using hi) hx⟩
    have e1 : (i + 1) * n = c1.length + i * n := by rw [Nat.succ_mul, hl, Nat.add_comm]
    rw [he, e1, List.take_length_add_append, Nat.add_assoc, ← List.drop_drop, List.drop_left]
    simp

theorem Enc_len {G : GH} : ∀ (t : Ty) (d : t.den) (cs : List Value), Enc G t d cs → cs.length = t.size
  | .int _, _, _, h => by simp [Enc] at h; simp [h, Ty.size]
  | .bool, _, _, h => by simp [Enc] at h; simp [h, Ty.size]
  | .str, _, _, h => by simp [Enc] at h; simp [h, Ty.size]
  | .slice _, _, _, h => by obtain ⟨v, rfl, _⟩ := h; simp [Ty.size]
  | .own _, _, _, h => h.elim
  | .prod a b, d, _, h => by
    obtain ⟨c1, c2, rfl, h1, h2⟩ := h
    rw [List.length_append, Enc_len a _ _ h1, Enc_len b _ _ h2, Ty.size]

def GLe (G G' : GH) : Prop := ∀ b o v, G b o = some v → G' b o = some v

theorem Stored_mono {G G' : GH} (h : GLe G G') {b o : Nat} {cs : List Value} (hs : Stored G b o cs) : Stored G' b o cs := fun j v hj => h _ _ _ (hs j v hj)

theorem Enc_mono {G G' : GH} (h : GLe G G') : ∀ (t : Ty) (d : t.den) (cs : List Value), Enc G t d cs → Enc G' t d cs
  | .int _, _, _, e => e
  | .bool, _, _, e => e
  | .str, _, _, e => e
  | .slice e, d, cs, hh => by
    obtain ⟨v, hv, hr⟩ := hh
    refine ⟨v, hv, ?_⟩
    rcases hr with hr | ⟨b, off, cap, cs', h1, h2, h3, h4, h5⟩ | hr
    · exact .inl hr
    rotate_left
    · exact .inr (.inr hr)
    · exact .inr <| .inl ⟨b, off, cap, cs', h1, h2, h3, EncL_mono (fun x c hx => Enc_mono h e x c hx) _ _ h4, Stored_mono h h5⟩
  | .own _, _, _, e => e
  | .prod a b, d, _, ⟨c1, c2, he, h1, h2⟩ => ⟨c1, c2, he, Enc_mono h a _ _ h1, Enc_mono h b _ _ h2⟩

/-- data without slices reads the same whatever the ghost memory -/
def Ty.flat : Ty → Bool
  | .slice _ => false
  | .own _ => false
  | .prod a b => a.flat && b.flat
  | _ => true

theorem split_len : ∀ (t : Ty) (d : t.den), (split t d).length = t.size
  | .int _, _ => rfl
  | .bool, _ => rfl
  | .str, _ => rfl
  | .slice _, _ => rfl
  | .own _, _ => rfl
  | .prod a b, d => by simp only [split, List.length_append, split_len a, split_len b, Ty.size]

section
variable {G : GH} {ν : Nat → Nu} {objs : Objs} {nx : Nat}

theorem CellsRel.nil : CellsRel G ν objs nx [] [] := ⟨rfl, fun j c v h => by simp at h⟩

theorem CellsRel.append {cs cs' : List Cell} {vs vs' : List Value} (h : CellsRel G ν objs nx cs vs) (h' : CellsRel G ν objs nx cs' vs') :
    CellsRel G ν objs nx (cs ++ cs') (vs ++ vs') := by
  refine ⟨by simp [h.1, h'.1], fun j c v hc hv => ?_⟩
  rw [List.getElem?_append] at hc hv
  rw [h.1] at hv
  split at hc
  · rename_i hlt; rw [if_pos hlt] at hv; exact h.2 j c v hc hv
  · rename_i hlt; rw [if_neg hlt] at hv; exact h'.2 _ c v hc hv

theorem CellsRel.take {cs : List Cell} {vs : List Value} (h : CellsRel G ν objs nx cs vs) (n : Nat) : CellsRel G ν objs nx (cs.take n) (vs.take n) := by
  refine ⟨by simp [h.1], fun j c v hc hv => ?_⟩
  rw [List.getElem?_take] at hc hv
  split at hc
  · rename_i hlt; rw [if_pos hlt] at hv; exact h.2 j c v hc hv
  · simp at hc

theorem CellsRel.drop {cs : List Cell} {vs : List Value} (h : CellsRel G ν objs nx cs vs) (n : Nat) : CellsRel G ν objs nx (cs.drop n) (vs.drop n) := by
  refine ⟨by simp [h.1], fun j c v hc hv => ?_⟩
  rw [List.getElem?_drop] at hc hv
  exact h.2 _ c v hc hv

theorem CellsRel.one {c : Cell} {v : Value} (h : CellRel G ν objs nx c v) (hv1 : v.oneCell' = true) : CellsRel G ν objs nx [c] [v] := by
  refine ⟨rfl, fun j c' v' hc hv => ?_⟩
  cases j with
  | zero => simp at hc hv; subst hc hv; exact ⟨h, hv1⟩
  | succ j => simp at hc

theorem split_rel : ∀ (t : Ty) (d : t.den) (vs : List Value), Enc G t d vs → CellsRel G ν objs nx (split t d) vs
  | .int k, d, vs, h => by have h' := h; simp only [Enc] at h'; subst h'; exact CellsRel.one h rfl
  | .bool, d, vs, h => by have h' := h; simp only [Enc] at h'; subst h'; exact CellsRel.one h rfl
  | .str, d, vs, h => by have h' := h; simp only [Enc] at h'; subst h'; exact CellsRel.one h rfl
  | .slice e, d, vs, h => by
    obtain ⟨v, rfl, hr⟩ := h
    refine CellsRel.one ⟨v, rfl, hr⟩ ?_
    rcases hr with ⟨rfl, _⟩ | ⟨_, _, _, _, rfl, _⟩ | ⟨_, _, rfl, _⟩ <;> rfl
  | .own _, _, _, h => h.elim
  | .prod a b, d, vs, ⟨c1, c2, he, h1, h2⟩ => by
    subst he
    exact (split_rel a _ _ h1).append (split_rel b _ _ h2)
end

/-- objects may be written or die, of the same length; new ones have numbers from nx on -/
def ObjsLe (nx : Nat) (objs objs' : Objs) : Prop := ∀ id, id < nx →
  (∀ e xs, look objs' id = some (.arr e xs) → ∃ ys : List e.den, look objs id = some (.arr e ys) ∧ ys.length = xs.length) ∧
  (∀ cs, look objs' id = some (.box cs) → ∃ ds, look objs id = some (.box ds))

theorem ObjsLe.refl (nx : Nat) (objs : Objs) : ObjsLe nx objs objs := fun _ _ => ⟨fun _ xs h => ⟨xs, h, rfl⟩, fun cs h => ⟨cs, h⟩⟩

theorem ObjsLe.trans {nx nx' : Nat} {a b c : Objs} (h : ObjsLe nx a b) (h' : ObjsLe nx' b c) (hn : nx ≤ nx') : ObjsLe nx a c := fun id hid => by
  obtain ⟨h1, h2⟩ := h id hid
  obtain ⟨h3, h4⟩ := h' id (Nat.lt_of_lt_of_le hid hn)
  refine ⟨fun e xs hx => ?_, fun cs hc => ?_⟩
  · obtain ⟨ys, hy, hl⟩ := h3 e xs hx
    obtain ⟨zs, hz, hl'⟩ := h1 e ys hy
    exact ⟨zs, hz, hl'.trans hl⟩
  · obtain ⟨ds, hd⟩ := h4 cs hc
    exact h2 ds hd

def NuEq (nx : Nat) (ν ν' : Nat → Nu) : Prop := ∀ id, id < nx → ν' id = ν id

section
variable {G G' : GH} {ν ν' : Nat → Nu} {objs objs' : Objs} {nx nx' : Nat}

theorem CellRel.mono (hg : GLe G G') (hn : NuEq nx ν ν') (ho : ObjsLe nx objs objs') (hx : nx ≤ nx') :
    ∀ (c : Cell) (v : Value), CellRel G ν objs nx c v → CellRel G' ν' objs' nx' c v
  | .val t d, v, h => Enc_mono hg t d _ h
  | .nils, _, h => h
  | .own id, v, ⟨h1, h2⟩ => ⟨Nat.lt_of_lt_of_le h1 hx, fun e xs h => by
      obtain ⟨ys, hy, _⟩ := (ho id h1).1 e xs h
      rw [hn id h1]; exact h2 e ys hy⟩
  | .aptr id, v, ⟨h1, h2⟩ => ⟨Nat.lt_of_lt_of_le h1 hx, fun e xs h => by
      obtain ⟨ys, hy, _⟩ := (ho id h1).1 e xs h
      rw [hn id h1]; exact h2 e ys hy⟩
  | .ptr id off, v, ⟨h1, h2⟩ => ⟨Nat.lt_of_lt_of_le h1 hx, fun cs h => by
      obtain ⟨ys, hy⟩ := (ho id h1).2 cs h
      rw [hn id h1]; exact h2 ys hy⟩
  | .eptr id i off, v, ⟨h1, h2⟩ => ⟨Nat.lt_of_lt_of_le h1 hx, fun e xs h => by
      obtain ⟨ys, hy, hl⟩ := (ho id h1).1 e xs h
      rw [hn id h1, ← hl]; exact h2 e ys hy⟩
  | .rptr t d off, v, ⟨b, o, cs, h1, h2, h3⟩ => ⟨b, o, cs, h1, Enc_mono hg t d _ h2, Stored_mono hg h3⟩
  | .clos f caps, v, ⟨vs, h1, h2, h3⟩ => ⟨vs, h1, h2, fun j id u hc hv => by
      obtain ⟨h4, h6, h5⟩ := h3 j id u hc hv
      refine ⟨Nat.lt_of_lt_of_le h4 hx, h6, fun cs h => ?_⟩
      obtain ⟨ys, hy⟩ := (ho id h4).2 cs h
      rw [hn id h4]; exact h5 ys hy⟩
  | .junk, _, _ => trivial

theorem CellsRel.mono (hg : GLe G G') (hn : NuEq nx ν ν') (ho : ObjsLe nx objs objs') (hx : nx ≤ nx') {cs : List Cell} {vs : List Value} (h : CellsRel G ν objs nx cs vs) : CellsRel G' ν' objs' nx' cs vs :=
  ⟨h.1, fun j c v hc hv => ⟨CellRel.mono hg hn ho hx c v (h.2 j c v hc hv).1, (h.2 j c v hc hv).2⟩⟩

theorem AvRel.mono (hg : GLe G G') (hn : NuEq nx ν ν') (ho : ObjsLe nx objs objs') (hx : nx ≤ nx') : ∀ (x : AV) (v : Value), AvRel G ν objs nx x v → AvRel G' ν' objs' nx' x v
  | .one c, v, h => ⟨CellRel.mono hg hn ho hx c v h.1, h.2⟩
  | .agg cs, v, ⟨vs, he, h⟩ => ⟨vs, he, h.mono hg hn ho hx⟩

theorem AValRel.mono (hg : GLe G G') (hn : NuEq nx ν ν') (ho : ObjsLe nx objs objs') (hx : nx ≤ nx') : ∀ (x : AVal) (v : Value), AValRel G ν objs nx x v → AValRel G' ν' objs' nx' x v
  | .s x, v, h => AvRel.mono hg hn ho hx x v h
  | .tup xs, v, ⟨vs, he, hl, h⟩ => ⟨vs, he, hl, fun j x u hx' hu => AvRel.mono hg hn ho hx x u (h j x u hx' hu)⟩
end

end Go.Sx

/- The abstract machine: the types' table; the operations that turn no memory. -/
namespace Go.Sx
set_option linter.unusedVariables false
set_option linter.unusedSimpArgs false

def zvals : Ty → List Value
  | .prod a b => zvals a ++ zvals b
  | .int k => [.int k 0]
  | .bool => [.bool false]
  | .str => [.string ⟨#[]⟩]
  | .slice _ => [.slice none 0 0]
  | .own _ => [.pointer none]

def rep {α : Type} (l : List α) : Nat → List α
  | 0 => []
  | n + 1 => l ++ rep l n

def TE.cells (te : TE) : List Value := match te.shape with
  | .arr n _ => rep (zvals te.ty) n
  | _ => zvals te.ty

def TE.size (te : TE) : Nat := match te.shape with
  | .arr n _ => n * te.ty.size
  | _ => te.ty.size

structure TEok (P : Program) (T : Tab) (t : TypeId) (te : TE) : Prop where
  und : match te.shape with
    | .basic => te.agg = false ∧ (match te.ty with
      | .int k => P.underlying t = some (.int k)
      | .bool => P.underlying t = some .bool
      | .str => P.underlying t = some .string
      | _ => False)
    | .slice e => te.agg = false ∧ P.underlying t = some (.slice e) ∧ ∃ te', look T e = some te' ∧ te.ty = .slice te'.ty
    | .struct fs => te.agg = true ∧ ∃ fields : Array Field, P.underlying t = some (.struct fields) ∧ fields.toList.map (fun f => (f.offset, f.type)) = fs ∧
        (∀ f ∈ fields, f.name ≠ "_") ∧ P.stoodInHeld t = false ∧ P.eqGuardType P.depth t = false
    | .ptr e => te.agg = false ∧ P.underlying t = some (.pointer e)
    | .arr n e => te.agg = true ∧ P.underlying t = some (.array n e) ∧ ∃ te', look T e = some te' ∧ te'.ty = te.ty ∧ ∀ m f, te'.shape ≠ .arr m f
  info : ∃ i z, P.info? t = some i ∧ i.size = te.size ∧ i.zero = some z ∧ z.cells.toList = te.cells ∧ i.bytes ≤ 4096

def TabOk (P : Program) (T : Tab) : Prop := ∀ t te, look T t = some te → TEok P T t te

theorem size_pos : ∀ t : Ty, 0 < t.size
  | .prod a b => by have := size_pos a; simp [Ty.size]; omega
  | .int _ | .bool | .str | .slice _ | .own _ => by simp [Ty.size]

section
variable {P : Program} {T : Tab} {w : World}

theorem run_underlying {t : TypeId} {d : TypeDesc} (h : P.underlying t = some d) : (underlying t).run P w = .ok d w := by
  simp [underlying, h]

theorem run_typeInfo {t : TypeId} {i : TypeInfo} (h : P.info? t = some i) : (typeInfo t).run P w = .ok i w := by
  simp [typeInfo, h]

theorem run_sizeOf {t : TypeId} {i : TypeInfo} (h : P.info? t = some i) : (sizeOf t).run P w = .ok i.size w := by
  simp [sizeOf, run_typeInfo h]

theorem TEok.sizeOf {t : TypeId} {te : TE} (h : TEok P T t te) : (sizeOf t).run P w = .ok te.size w := by
  obtain ⟨i, z, hi, hs, _⟩ := h.info
  rw [run_sizeOf hi, hs]

theorem TEok.isAgg {t : TypeId} {te : TE} (h : TEok P T t te) : (isAgg t).run P w = .ok te.agg w := by
  have hu := h.und
  obtain ⟨ty, agg, shape⟩ := te
  cases shape with
  | basic =>
    obtain ⟨ha, hu⟩ := hu
    cases ty <;> simp only at hu <;> first | exact hu.elim | (simp [Go.isAgg, run_underlying hu]; exact ha)
  | slice e => obtain ⟨ha, hu, _⟩ := hu; simp [Go.isAgg, run_underlying hu]; exact ha
  | struct fs => obtain ⟨ha, f, hu, _⟩ := hu; simp [Go.isAgg, run_underlying hu]; exact ha
  | ptr e => obtain ⟨ha, hu⟩ := hu; simp [Go.isAgg, run_underlying hu]; exact ha
  | arr n e => obtain ⟨ha, hu, _⟩ := hu; simp [Go.isAgg, run_underlying hu]; exact ha
end

theorem Addr_add (b o j : Nat) : (⟨b, o, none⟩ : Addr).add j = ⟨b, o + j, none⟩ := by
  unfold Addr.add
  split
  · rename_i h; subst h; rfl
  · rfl

section
variable {P : Program} {T : Tab} {w : World} {G : GH} {ν : Nat → Nu} {objs : Objs} {nx : Nat}

/-- a variable that is read: its cells lie in memory from cell `o` of block `b` on -/
theorem plain_size {te : TE} (h : te.plain = true) : te.size = te.ty.size := by
  unfold TE.plain at h; unfold TE.size; split at h <;> simp_all

theorem load_sound {t : TypeId} {te : TE} (hte : TEok P T t te) (hpl : te.plain = true) {b o off : Nat} {cs : List Cell} {us : List Value} {x : AVal}
    (hc : CellsRel G ν objs nx cs us) (hm : ∀ (j : Nat) (v : Value), us[j]? = some v → w.cell? ⟨b, o + j, none⟩ = some v)
    (hs : sub te.agg cs off te.ty.size = some x) :
    ∃ v, (loadVar t ⟨b, o + off, none⟩).run P w = .ok v w ∧ AValRel G ν objs nx x v := by
  have hsz : te.size = te.ty.size := plain_size hpl
  unfold sub at hs
  simp only [loadVar, Sem.run_bind, hte.isAgg, Result.andThen_ok]
  cases ha : te.agg with
  | true =>
    simp only [ha, if_true] at hs ⊢
    split at hs
    · rename_i hle
      injection hs with hs; subst hs
      have hlen : ((us.drop off).take te.ty.size).length = te.ty.size := by simp [hc.1]; omega
      have hr := run_loadCells_list (P := P) w ⟨b, o + off, none⟩ ((us.drop off).take te.ty.size) (fun j v hj => by
        rw [Addr_add, Nat.add_assoc]
        rw [List.getElem?_take] at hj
        split at hj
        · rw [List.getElem?_drop] at hj; exact hm _ _ hj
        · simp at hj)
      rw [hlen] at hr
      refine ⟨.agg ((us.drop off).take te.ty.size).toArray, ?_, _, rfl, (hc.drop off).take _⟩
      simp [hte.sizeOf, hsz, hr]
    · simp at hs
  | false =>
    simp only [ha] at hs ⊢
    cases hcs : cs[off]? with
    | none => simp [hcs] at hs
    | some c =>
      simp [hcs] at hs; subst hs
      have hlt : off < us.length := by rw [hc.1]; exact (List.getElem?_eq_some_iff.1 hcs).1
      have hu : us[off]? = some us[off] := List.getElem?_eq_getElem hlt
      refine ⟨us[off], ?_, hc.2 off c _ hcs hu⟩
      simp [hm _ _ hu]
end

section
variable {w0 : World} {F : Nat → Prop} {nt : Slots} {G0 G : GH} {ν : Nat → Nu} {st : St} {a : Act} {w : World} {P : Program} {T : Tab}

theorem one_cells {G : GH} : ∀ (t : Ty) (d : t.den) (v : Value), Enc G t d [v] → v.oneCell' = true
  | .int _, _, _, h => by simp [Enc] at h; simp [h, Value.oneCell']
  | .bool, _, _, h => by simp [Enc] at h; simp [h, Value.oneCell']
  | .str, _, _, h => by simp [Enc] at h; simp [h, Value.oneCell']
  | .slice _, _, _, h => by
    obtain ⟨v, hv, hr⟩ := h
    simp at hv; subst hv
    rcases hr with ⟨rfl, _⟩ | ⟨_, _, _, _, rfl, _⟩ | ⟨_, _, rfl, _⟩ <;> rfl
  | .own _, _, _, h => h.elim
  | .prod a b, d, v, h => by
    have := Enc_len _ _ _ h
    have h1 := size_pos a
    have h2 := size_pos b
    simp [Ty.size] at this; omega

theorem one_rel {t : Ty} {d : t.den} {v : Value} (h : Enc G t d [v]) : AValRel G ν st.objs st.nx (one t d) v :=
  ⟨h, one_cells t d v h⟩

theorem constCell_rel : ∀ (v : Value) (c : Cell), constCell v = some c → CellRel G ν st.objs st.nx c v ∧ v.oneCell' = true
  | .int k n, c, h => by simp [constCell] at h; subst h; exact ⟨rfl, rfl⟩
  | .bool b, c, h => by simp [constCell] at h; subst h; exact ⟨rfl, rfl⟩
  | .string s, c, h => by simp [constCell] at h; subst h; exact ⟨by simp [CellRel, Enc], rfl⟩
  | .slice none 0 0, c, h => by simp [constCell] at h; subst h; exact ⟨rfl, rfl⟩
  | .slice none 0 (n + 1), c, h => by simp [constCell] at h
  | .slice none (n + 1) _, c, h => by simp [constCell] at h
  | .slice (some _) _ _, c, h => by simp [constCell] at h
  | .pointer none, c, h => by simp [constCell] at h; subst h; exact ⟨trivial, rfl⟩
  | .nilFunc, c, h => by simp [constCell] at h; subst h; exact ⟨trivial, rfl⟩
  | .float _ _, _, h | .complex _ _ _, _, h | .pointer (some _), _, h | .map _, _, h | .chan _, _, h | .func _ _ _, _, h | .iface _ _, _, h | .nilIface, _, h | .agg _, _, h | .tuple _, _, h => by simp [constCell] at h

theorem mapM_rel : ∀ (vs : List Value) (cs : List Cell), vs.mapM constCell = some cs → CellsRel G ν st.objs st.nx cs vs
  | [], cs, h => by simp at h; subst h; exact CellsRel.nil
  | v :: vs, cs, h => by
    simp only [List.mapM_cons, Option.bind_eq_bind, Option.bind_eq_some_iff] at h
    obtain ⟨c, hc, ds, hd, he⟩ := h
    simp at he; subst he
    obtain ⟨h1, h2⟩ := constCell_rel (G := G) (ν := ν) (st := st) v c hc
    exact (CellsRel.one h1 h2).append (mapM_rel vs ds hd)

theorem ev_rel (h : Rel w0 F nt G0 G ν st a w) : ∀ (x : Operand) (av : AVal), ev st x = some av → AValRel G ν st.objs st.nx av (a.eval x)
  | .tmp t, av, he => by
    obtain ⟨v, hv, hr⟩ := h.env t av he
    simpa [Act.eval, hv] using hr
  | .const v, av, he => by
    simp only [ev, constAV] at he
    split at he
    · rename_i cs
      cases hm : cs.toList.mapM constCell with
      | none => simp [hm] at he
      | some l =>
        simp [hm] at he; subst he
        exact ⟨cs.toList, by simp [Act.eval], mapM_rel _ _ hm⟩
    · cases hm : constCell v with
      | none => simp [hm] at he
      | some c =>
        simp [hm] at he; subst he
        obtain ⟨h1, h2⟩ := constCell_rel (G := G) (ν := ν) (st := st) v c hm
        exact ⟨h1, h2⟩
  | .func f, av, he => by
    simp [ev] at he; subst he
    exact ⟨⟨[], rfl, rfl, fun j id u hj => by simp at hj⟩, rfl⟩
  | .global g, av, he => by simp [ev] at he


theorem asI_rel (av : AVal) (v : Value) (n : Int) (h : AValRel G ν st.objs st.nx av v) (he : asI av = some n) : ∃ k, v = .int k n := by
  unfold asI at he
  split at he
  · rename_i k m
    injection he with he; subst he
    obtain ⟨h1, _⟩ := h
    simp [CellRel, Enc] at h1
    exact ⟨k, h1⟩
  · simp at he

theorem asB_rel (av : AVal) (v : Value) (b : Bool) (h : AValRel G ν st.objs st.nx av v) (he : asB av = some b) : v = .bool b := by
  unfold asB at he
  split at he
  · injection he with he; subst he
    obtain ⟨h1, _⟩ := h
    simpa [CellRel, Enc] using h1
  · simp at he

/-- what an operation that turns no memory comes to -/
def Gives (P : Program) (G : GH) (ν : Nat → Nu) (st : St) (w : World) (s : Sem Value) (r : AVal) : Prop := ∃ v, s.run P w = .ok v w ∧ AValRel G ν st.objs st.nx r v

theorem Gives.one {s : Sem Value} {t : Ty} {d : t.den} {v : Value} (hr : s.run P w = .ok v w) (h : Enc G t d [v]) : Gives P G ν st w s (Sx.one t d) := ⟨v, hr, one_rel h⟩

theorem binI_sound {op : BinOp} {k : IntKind} {x y : Int} {r : AVal} (t : TypeId) (hs : op ≠ .shl) (hs' : op ≠ .shr) (h : binI op k x y = some (true, r)) :
    Gives P G ν st w (Go.binOp op t (.int k x) (.int k y)) r := by
  cases op <;> simp [binI, inz] at h <;> first
    | exact absurd rfl hs
    | exact absurd rfl hs'
    | (subst h; exact ⟨_, by simp only [Go.binOp, ne_eq, not_true_eq_false, if_false, ↓reduceIte, Op.intArith, Op.intBits, Op.intCmp] <;> rfl, one_rel rfl⟩)
    | (obtain ⟨hz, rfl⟩ := h; exact ⟨_, by simp [Go.binOp, Op.intDiv, hz, iquo, irem] <;> rfl, one_rel rfl⟩)

theorem binSh_sound {op : BinOp} {k yk : IntKind} {x y : Int} {r : AVal} (t : TypeId) (h : (op = .shl ∧ (true, r) = (inn y, Sx.one (.int k) (ishl k x y))) ∨ (op = .shr ∧ (true, r) = (inn y, Sx.one (.int k) (ishr k x y)))) :
    Gives P G ν st w (Go.binOp op t (.int k x) (.int yk y)) r := by
  rcases h with ⟨rfl, h⟩ | ⟨rfl, h⟩ <;> simp [inn] at h <;> obtain ⟨hn, rfl⟩ := h
  · exact ⟨_, by simp [Go.binOp, Op.shift, Int.not_lt.2 hn, ishl] <;> rfl, one_rel rfl⟩
  · exact ⟨_, by simp [Go.binOp, Op.shift, Int.not_lt.2 hn, ishr] <;> rfl, one_rel rfl⟩

theorem binS_sound {op : BinOp} {x y : List UInt8} {r : AVal} (t : TypeId) (h : binS op x y = some (true, r)) :
    Gives P G ν st w (Go.binOp op t (.string ⟨x.toArray⟩) (.string ⟨y.toArray⟩)) r := by
  cases op <;> simp [binS] at h
  · obtain ⟨hf, rfl⟩ := h
    simp [sfit] at hf
    refine ⟨.string ⟨(x ++ y).toArray⟩, ?_, one_rel rfl⟩
    have e : (ByteArray.mk x.toArray ++ ByteArray.mk y.toArray) = ⟨(x ++ y).toArray⟩ := by
      apply ByteArray.ext
      simp
    have hsz : ¬ ((((ByteArray.mk x.toArray).size + (ByteArray.mk y.toArray).size : Nat) : Int) > IntKind.i64.max) := by
      have hm : IntKind.i64.max = 9223372036854775807 := by decide
      simp only [ByteArray.size, List.size_toArray, hm]
      omega
    simp only [Go.binOp, Op.stringOp, if_neg hsz, e]
    rfl
  · subst h; exact ⟨_, by simp [Go.binOp, Op.stringOp] <;> rfl, one_rel rfl⟩
  · subst h; exact ⟨_, by simp [Go.binOp, Op.stringOp] <;> rfl, one_rel rfl⟩

theorem str_eq (x y : List UInt8) : ((ByteArray.mk x.toArray).toList == (ByteArray.mk y.toArray).toList) = seq x y := by simp [seq]

theorem cellEqT_sound {te : TE} {c d : Cell} {b : Bool} {u v : Value} {t : TypeId} (hte : TEok P T t te) (hc : CellRel G ν st.objs st.nx c u) (hd : CellRel G ν st.objs st.nx d v)
    (h : cellEqT te c d = some b) (n : Nat) : (Op.equalIn (n + 1) t u v).run P w = .ok b w ∧ te.agg = false := by
  have hu := hte.und
  unfold cellEqT at h
  split at h
  · split at h
    · rename_i hk; subst hk
      injection h with h; subst h
      simp only [CellRel, Enc, List.cons.injEq, and_true] at hc hd; subst hc hd
      exact ⟨run_equalIn_int w n t _ _ _ _ hu.2, rfl⟩
    · simp at h
  · injection h with h; subst h
    simp only [CellRel, Enc, List.cons.injEq, and_true] at hc hd; subst hc hd
    exact ⟨run_equalIn_bool' w n t _ _ hu.2, rfl⟩
  · injection h with h; subst h
    simp only [CellRel, Enc, List.cons.injEq, and_true] at hc hd; subst hc hd
    exact ⟨(run_equalIn_string w n t _ _ hu.2).trans (congrArg (Result.ok · w) (str_eq _ _)), rfl⟩
  · simp at h

theorem run_part {t : TypeId} {te : TE} (hte : TEok P T t te) (ha : te.agg = false) (cs : Array Value) (off : Nat) (v : Value) (h : cs[off]? = some v) : (part t cs off).run P w = .ok v w := by
  simp only [part, Sem.run_bind, hte.isAgg, Result.andThen_ok, ha]
  simp [h]

theorem eqFields_sound (hT : TabOk P T) (n : Nat) (xs ys : Array Value) : ∀ (fields : List Field) (k : Nat) (cs ds : List Cell) (b : Bool),
    (∀ f ∈ fields, f.name ≠ "_") → fields.map (·.offset) = List.range' k fields.length →
    (∀ (j : Nat) (c : Cell), cs[j]? = some c → ∃ v, xs[k + j]? = some v ∧ CellRel G ν st.objs st.nx c v) →
    (∀ (j : Nat) (c : Cell), ds[j]? = some c → ∃ v, ys[k + j]? = some v ∧ CellRel G ν st.objs st.nx c v) →
    cellsEq T (fields.map (·.type)) cs ds = some b → (Op.eqFields (n + 1) xs ys fields).run P w = .ok b w
  | [], k, [], [], b, _, _, _, _, h => by simp [cellsEq] at h; subst h; rfl
  | f :: fs, k, c :: cs, d :: ds, b, hn, ho, hx, hy, h => by
    simp only [List.map_cons, cellsEq] at h
    cases hl : look T f.type with
    | none => simp [hl] at h
    | some te =>
      simp only [hl] at h
      cases h1 : cellEqT te c d with
      | none => simp [h1] at h
      | some p =>
        cases h2 : cellsEq T (fs.map (·.type)) cs ds with
        | none => simp [h1, h2] at h
        | some q =>
          simp [h1, h2] at h; subst h
          obtain ⟨u, hu, hcu⟩ := hx 0 c rfl
          obtain ⟨v, hv, hdv⟩ := hy 0 d rfl
          obtain ⟨he, ha⟩ := cellEqT_sound (w := w) (hT _ _ hl) hcu hdv h1 n
          simp only [List.map_cons, List.length_cons, List.range'_succ, List.cons.injEq] at ho
          have ih := eqFields_sound hT n xs ys fs (k + 1) cs ds q (fun f hf => hn f (List.mem_cons_of_mem _ hf)) ho.2
            (fun j c hj => by have := hx (j + 1) c (by simpa using hj); rwa [Nat.add_assoc, Nat.add_comm 1 j])
            (fun j c hj => by have := hy (j + 1) c (by simpa using hj); rwa [Nat.add_assoc, Nat.add_comm 1 j]) h2
          simp only [Op.eqFields, if_pos (hn f (List.mem_cons_self ..)), Sem.run_bind, ho.1]
          rw [Nat.add_zero] at hu hv
          rw [run_part (hT _ _ hl) ha xs k u hu, Result.andThen_ok, run_part (hT _ _ hl) ha ys k v hv, Result.andThen_ok, he, Result.andThen_ok]
          cases p
          · simp
          · simpa using ih
  | [], _, _ :: _, _, _, _, _, _, _, h => by simp [cellsEq] at h
  | [], _, [], _ :: _, _, _, _, _, _, h => by simp [cellsEq] at h
  | _ :: _, _, [], _, _, _, _, _, _, h => by simp [cellsEq] at h
  | _ :: _, _, _ :: _, [], _, _, _, _, _, h => by simp [cellsEq] at h

theorem eqGuard_plain {op : BinOp} {t : TypeId} {x y : Operand} {u v : Value} (hu : ∀ cs, u ≠ .agg cs) (hn : u ≠ .nilIface) : (eqGuard op t x y u v).run P w = .ok () w := by
  unfold eqGuard
  cases op <;> simp <;> cases u <;> cases v <;> first | rfl | exact absurd rfl hn | exact absurd rfl (hu _)

theorem binOp_sound (hT : TabOk P T) {op : BinOp} {t : TypeId} {x y : AVal} {u v : Value} {r : AVal} (ox oy : Operand) (hx : AValRel G ν st.objs st.nx x u) (hy : AValRel G ν st.objs st.nx y v)
    (h : Sx.binOp T op t x y = some (true, r)) : Gives P G ν st w (do eqGuard op t ox oy u v; Go.binOp op t u v) r := by
  unfold Sx.binOp at h
  split at h
  · rename_i k m k' m'
    obtain ⟨hx, _⟩ := hx
    obtain ⟨hy, _⟩ := hy
    simp only [CellRel, Enc, List.cons.injEq, and_true] at hx hy; subst hx hy
    have hg : (eqGuard op t ox oy (.int k m) (.int k' m')).run P w = .ok () w := eqGuard_plain (by simp) (by simp)
    suffices hh : Gives P G ν st w (Go.binOp op t (.int k m) (.int k' m')) r by
      obtain ⟨z, h1, h2⟩ := hh
      exact ⟨z, by simp [hg, h1], h2⟩
    split at h
    · injection h with h; exact binSh_sound t (.inl ⟨rfl, h.symm⟩)
    · injection h with h; exact binSh_sound t (.inr ⟨rfl, h.symm⟩)
    · split at h
      · rename_i hk; subst hk
        exact binI_sound t (by assumption) (by assumption) h
      · simp at h
  · rename_i m m'
    obtain ⟨hx, _⟩ := hx
    obtain ⟨hy, _⟩ := hy
    simp only [CellRel, Enc, List.cons.injEq, and_true] at hx hy; subst hx hy
    obtain ⟨z, h1, h2⟩ := binS_sound (w := w) (P := P) (G := G) (ν := ν) (st := st) t h
    exact ⟨z, by simp [eqGuard_plain, h1], h2⟩
  · rename_i m m'
    obtain ⟨hx, _⟩ := hx
    obtain ⟨hy, _⟩ := hy
    simp only [CellRel, Enc, List.cons.injEq, and_true] at hx hy; subst hx hy
    split at h
    · rename_i hl
      have hu := (hT _ _ hl).und
      simp only [true_and] at hu
      have key : (Op.equalIn 10000 t (.bool m) (.bool m')).run P w = .ok (beq m m') w := run_equalIn_bool' w 9999 t m m' hu
      split at h <;> simp at h
      · subst h
        exact ⟨.bool (beq m m'), by simp [eqGuard_plain, Go.binOp, Op.equal, Op.maxDepth, key], one_rel rfl⟩
      · subst h
        exact ⟨.bool (!beq m m'), by simp [eqGuard_plain, Go.binOp, Op.equal, Op.maxDepth, key], one_rel rfl⟩
    · simp at h
  · rename_i cs ds
    obtain ⟨us, rfl, hcs⟩ := hx
    obtain ⟨vs, rfl, hds⟩ := hy
    split at h
    · rename_i fs hl
      obtain ⟨_, fields, hu, hfs, hnm, hst, hgd⟩ := (hT _ _ hl).und
      split at h
      · rename_i hr
        have hr := of_decide_eq_true hr
        have hfo : P.fieldsOf t = fields := by simp [Program.fieldsOf, hu]
        have key : ∀ b, cellsEq T (fs.map (·.2)) cs ds = some b → (Op.equalIn 10000 t (.agg us.toArray) (.agg vs.toArray)).run P w = .ok b w := fun b hb => by
          rw [run_equalIn_struct w 9999 t _ _ (by rw [hfo]; exact hu) hst, hfo]
          refine eqFields_sound (G := G) (ν := ν) (st := st) hT 9998 us.toArray vs.toArray fields.toList 0 cs ds b (fun f hf => hnm f (by simpa using hf)) ?_ ?_ ?_ ?_
          · rw [← hfs] at hr
            simpa [List.range_eq_range', Function.comp_def] using hr
          · intro j c hj
            have hlt : j < us.length := by rw [hcs.1]; exact (List.getElem?_eq_some_iff.1 hj).1
            exact ⟨us[j], by simp [hlt], (hcs.2 j c _ hj (List.getElem?_eq_getElem hlt)).1⟩
          · intro j c hj
            have hlt : j < vs.length := by rw [hds.1]; exact (List.getElem?_eq_some_iff.1 hj).1
            exact ⟨vs[j], by simp [hlt], (hds.2 j c _ hj (List.getElem?_eq_getElem hlt)).1⟩
          · rw [← hfs] at hb
            simpa [Function.comp_def] using hb
        split at h
        · rename_i b hb
          simp at h; subst h
          exact ⟨.bool b, by simp [run_eqGuard_agg w _ t ox oy _ _ hgd, run_eql_struct, key b hb], one_rel rfl⟩
        · rename_i b hb
          simp at h; subst h
          exact ⟨.bool (!b), by simp [run_eqGuard_agg w _ t ox oy _ _ hgd, run_neq_struct, key b hb], one_rel rfl⟩
        · simp at h
      · simp at h
    · simp at h
  · simp at h
end
end Go.Sx

/- The abstract machine: the other operations that turn no memory. -/
namespace Go.Sx
set_option linter.unusedVariables false
set_option linter.unusedSimpArgs false

section
variable {w0 : World} {F : Nat → Prop} {nt : Slots} {G0 G : GH} {ν : Nat → Nu} {st : St} {a : Act} {w : World} {P : Program} {T : Tab}

theorem val_int {k : IntKind} {n : Int} {v : Value} (h : AValRel G ν st.objs st.nx (.s (.one (.val (.int k) n))) v) : v = .int k n := by
  obtain ⟨h, _⟩ := h
  simpa [CellRel, Enc] using h

theorem val_bool {n : Bool} {v : Value} (h : AValRel G ν st.objs st.nx (.s (.one (.val .bool n))) v) : v = .bool n := by
  obtain ⟨h, _⟩ := h
  simpa [CellRel, Enc] using h

theorem val_str {s : List UInt8} {v : Value} (h : AValRel G ν st.objs st.nx (.s (.one (.val .str s))) v) : v = .string ⟨s.toArray⟩ := by
  obtain ⟨h, _⟩ := h
  simpa [CellRel, Enc] using h

theorem unOp_sound {op : UnOp} {x : AVal} {u : Value} {r : AVal} (hx : AValRel G ν st.objs st.nx x u) (h : Sx.unOp op x = some (true, r)) : Gives P G ν st w (Op.unary op u) r := by
  unfold Sx.unOp at h
  split at h
  · have := val_bool hx; subst this
    simp at h; subst h
    exact ⟨_, rfl, one_rel rfl⟩
  · have := val_int hx; subst this
    simp at h; subst h
    exact ⟨_, rfl, one_rel rfl⟩
  · simp at h

theorem own_hdr {id : Nat} {e : Ty} {xs : List e.den} (h : ObRel G ν st.objs st.nx w id (.arr e xs)) : ∃ a c, (ν id).hdr = .slice a xs.length c := by
  obtain ⟨hlen, hob⟩ := h
  unfold Nu.hdr
  cases hb : (ν id).blk with
  | none => simp only [hb] at hob; subst hob; exact ⟨_, _, rfl⟩
  | some b => rw [← hlen]; exact ⟨_, _, rfl⟩

theorem len_str {t ty : TypeId} (hu : P.underlying t = some .string) (s : List UInt8) : (Builtin.len_ #[t] ty #[.string ⟨s.toArray⟩]).run P w = .ok (.int .i64 (ilen s)) w := by
  have h1 : (Builtin.len_ #[t] ty #[.string ⟨s.toArray⟩]).run P w = .ok (goInt (ByteArray.mk s.toArray).size) w := by
    simp only [Builtin.len_]
    simp [run_underlying hu]
  rw [h1]; rfl

theorem lenOp_sound (hT : TabOk P T) (hh : HRel w0 F G ν st.objs st.nx w) {t ty : TypeId} {x : AVal} {u : Value} {r : AVal} (hx : AValRel G ν st.objs st.nx x u) (h : lenOp T st t x = some (true, r)) :
    Gives P G ν st w (Builtin.len_ #[t] ty #[u]) r := by
  unfold lenOp at h
  split at h
  · rename_i te e l _ hl
    simp at h; subst h
    have hu := (hT _ _ hl).und.2.1
    obtain ⟨⟨v, hv, hr⟩, _⟩ := hx
    simp at hv; subst hv
    rcases hr with ⟨rfl, hl'⟩ | ⟨b, off, cap, cs, rfl, _⟩ | ⟨a, cap, rfl, hl'⟩
    rotate_left 2
    · exact ⟨_, by simp [Builtin.len_, run_underlying hu] <;> rfl, one_rel (by rw [hl']; rfl)⟩
    · exact ⟨_, by simp [Builtin.len_, run_underlying hu] <;> rfl, one_rel (by rw [hl']; rfl)⟩
    · exact ⟨_, by simp [Builtin.len_, run_underlying hu] <;> rfl, one_rel rfl⟩
  · rename_i te e _ hl
    simp at h; subst h
    have hu := (hT _ _ hl).und.2.1
    obtain ⟨hv, _⟩ := hx
    simp only [CellRel] at hv; subst hv
    exact ⟨_, by simp [Builtin.len_, run_underlying hu] <;> rfl, one_rel rfl⟩
  · rename_i hl
    have hu := (hT _ _ hl).und.2.1
    split at h
    · rename_i e' xs ho
      simp at h; subst h
      obtain ⟨⟨_, hv⟩, _⟩ := hx
      have hv := hv _ _ ho; subst hv
      obtain ⟨a, c, hd⟩ := own_hdr (hh.ob _ _ ho)
      rw [hd]
      exact ⟨.int .i64 (ilen xs), by simp [Builtin.len_, run_underlying hu] <;> rfl, one_rel rfl⟩
    · simp at h
  · rename_i s hl
    simp at h; subst h
    have hu := (hT _ _ hl).und.2
    have := val_str hx; subst this
    exact ⟨.int .i64 (ilen (α := UInt8) s), len_str hu s, one_rel rfl⟩
  · simp at h

theorem fieldOff_ok (hT : TabOk P T) {t : TypeId} {f off : Nat} {te : TE} (h : fieldOff T t f = some (off, te)) :
    ∃ (fields : Array Field) (fd : Field), P.underlying t = some (.struct fields) ∧ fields[f]? = some fd ∧ fd.offset = off ∧ TEok P T fd.type te ∧ te.plain = true := by
  unfold fieldOff at h
  split at h
  · rename_i fs hl
    obtain ⟨_, fields, hu, hfs, _⟩ := (hT _ _ hl).und
    split at h
    · rename_i o ft hf
      split at h
      · rename_i te' hl'
        split at h
        · rename_i hp
          injection h with h
          injection h with h1 h2
          subst h1 h2
          rw [← hfs] at hf
          simp only [List.getElem?_map, Array.getElem?_toList] at hf
          cases hfd : fields[f]? with
          | none => simp [hfd] at hf
          | some fd =>
            simp [hfd] at hf
            obtain ⟨h1, h2⟩ := hf
            subst h1 h2
            exact ⟨fields, fd, hu, hfd, rfl, hT _ _ hl', hp⟩
        · simp at h
      · simp at h
    · simp at h
  · simp at h

theorem fieldAt_run {t : TypeId} {f off : Nat} {te : TE} {b o : Nat} {fields : Array Field} {fd : Field} (hu : P.underlying t = some (.struct fields)) (hf : fields[f]? = some fd) (ho : fd.offset = off)
    (hte : TEok P T fd.type te) (hp : te.plain = true) : (Instr.fieldAt t (.pointer (some ⟨b, o, none⟩)) f).run P w = .ok (.pointer (some ⟨b, o + off, none⟩)) w := by
  have hsz : te.size ≠ 0 := by rw [plain_size hp]; have := size_pos te.ty; omega
  simp [Instr.fieldAt, run_underlying hu, hf, Instr.sureAddr, fieldPlace, hte.sizeOf, hsz, Addr_add, ho]

theorem fieldAddrOp_sound (hT : TabOk P T) (hh : HRel w0 F G ν st.objs st.nx w) {t : TypeId} {f : Nat} {x : AVal} {u : Value} {r : AVal} (hx : AValRel G ν st.objs st.nx x u) (h : fieldAddrOp T st t x f = some (true, r)) :
    Gives P G ν st w (Instr.fieldAt t u f) r := by
  unfold fieldAddrOp at h
  split at h
  · rename_i off te id o hf
    obtain ⟨fields, fd, hu, hfd, ho, hte, hp⟩ := fieldOff_ok hT hf
    split at h
    · rename_i cs hob
      simp at h; subst h
      obtain ⟨⟨h1, h2⟩, _⟩ := hx
      obtain ⟨b, hb, rfl⟩ := h2 _ hob
      refine ⟨_, fieldAt_run hu hfd ho hte hp, ⟨h1, fun cs' hcs' => ⟨b, hb, rfl⟩⟩, rfl⟩
    · simp at h
  · rename_i off te id i o hf
    obtain ⟨fields, fd, hu, hfd, ho, hte, hp⟩ := fieldOff_ok hT hf
    split at h
    · rename_i e xs hob
      simp at h; subst h
      obtain ⟨⟨h1, h2⟩, _⟩ := hx
      obtain ⟨hlt, b, hb, rfl⟩ := h2 _ _ hob
      refine ⟨_, fieldAt_run hu hfd ho hte hp, ⟨h1, fun e' xs' hob' => ?_⟩, rfl⟩
      rw [hob] at hob'
      injection hob' with hob'
      injection hob' with he hx
      subst he
      have hx := eq_of_heq hx; subst hx
      exact ⟨hlt, b, hb, by rw [Nat.add_assoc]⟩
    · simp at h
  · rename_i off te t' d o hf
    obtain ⟨fields, fd, hu, hfd, ho, hte, hp⟩ := fieldOff_ok hT hf
    simp at h; subst h
    obtain ⟨⟨b, o', cs, rfl, h1, h2⟩, _⟩ := hx
    exact ⟨_, fieldAt_run hu hfd ho hte hp, ⟨b, o', cs, by rw [Nat.add_assoc], h1, h2⟩, rfl⟩
  · simp at h

theorem fieldOp_sound (hT : TabOk P T) {t : TypeId} {f : Nat} {x : AVal} {u : Value} {r : AVal} (hx : AValRel G ν st.objs st.nx x u) (h : fieldOp T t x f = some (true, r)) :
    Gives P G ν st w (Instr.field t u f) r := by
  unfold fieldOp at h
  split at h
  · rename_i off te cs hf
    obtain ⟨fields, fd, hu, hfd, ho, hte, hp⟩ := fieldOff_ok hT hf
    obtain ⟨us, rfl, hcs⟩ := hx
    cases hs : sub te.agg cs off te.ty.size with
    | none => simp [hs] at h
    | some y =>
      simp [hs] at h; subst h
      unfold sub at hs
      simp only [Gives, Instr.field, Sem.run_bind, run_underlying hu, Result.andThen_ok, hfd, asAgg, Sem.run_pure, part, hte.isAgg]
      cases ha : te.agg with
      | true =>
        simp only [ha, if_true] at hs ⊢
        split at hs
        · rename_i hle
          injection hs with hs; subst hs
          refine ⟨.agg ((us.drop off).take te.ty.size).toArray, ?_, _, rfl, (hcs.drop off).take _⟩
          simp [hte.sizeOf, plain_size hp, ho]
        · simp at hs
      | false =>
        simp only [ha] at hs ⊢
        cases hc : cs[off]? with
        | none => simp [hc] at hs
        | some c =>
          simp [hc] at hs; subst hs
          have hlt : off < us.length := by rw [hcs.1]; exact (List.getElem?_eq_some_iff.1 hc).1
          refine ⟨us[off], ?_, hcs.2 off c _ hc (List.getElem?_eq_getElem hlt)⟩
          simp [ho, hlt]
  · simp at h
end
end Go.Sx

/- The abstract machine: indices, cuts, conversions; all operations that turn no memory. -/
namespace Go.Sx
set_option linter.unusedVariables false
set_option linter.unusedSimpArgs false

section
variable {w0 : World} {F : Nat → Prop} {nt : Slots} {G0 G : GH} {ν : Nat → Nu} {st : St} {a : Act} {w : World} {P : Program} {T : Tab}

theorem EncL_getD {α : Type} {R : α → List Value → Prop} {n : Nat} (h : ∀ x c, R x c → c.length = n) (l : List α) (cs : List Value) (i : Nat) (d : α) (he : EncL R l cs) (hi : i < l.length) :
    R (l.getD i d) ((cs.drop (i * n)).take n) := EncL_nth h l cs i _ he (by simp [List.getD, hi])

theorem inb_iff {i : Int} {n : Nat} (h : inb i n = true) : 0 ≤ i ∧ i < n := by simpa [inb] using h

theorem indexAt_run {t et : TypeId} {te : TE} {k : IntKind} {n : Int} {b off len cap : Nat} (hu : P.underlying t = some (.slice et)) (hte : TEok P T et te) (hp : te.plain = true) (h0 : 0 ≤ n) (h1 : n < len) :
    (Instr.indexAt t (.slice (some ⟨b, off, none⟩) len cap) (.int k n)).run P w = .ok (.pointer (some ⟨b, off + n.toNat * te.ty.size, none⟩)) w := by
  simp [Instr.indexAt, asIntOf, run_underlying hu, h0, h1, hte.sizeOf, plain_size hp, Addr_add]

theorem indexAddrOp_sound (hT : TabOk P T) (hh : HRel w0 F G ν st.objs st.nx w) {t : TypeId} {x i : AVal} {u v : Value} {r : AVal} (hx : AValRel G ν st.objs st.nx x u) (hi : AValRel G ν st.objs st.nx i v)
    (h : indexAddrOp T st t x i = some (true, r)) : Gives P G ν st w (Instr.indexAt t u v) r := by
  unfold indexAddrOp at h
  split at h
  · rename_i ty ag et n hl hn
    obtain ⟨k, rfl⟩ := asI_rel _ _ _ hi hn
    have hu := (hT _ _ hl).und.2.1
    split at h
    · rename_i te hle
      split at h
      · rename_i hp
        split at h
        · rename_i e l
          split at h
          · rename_i he
            simp only [Option.some.injEq, Prod.mk.injEq] at h
            obtain ⟨hb, rfl⟩ := h
            obtain ⟨h0, h1⟩ := inb_iff hb
            obtain ⟨⟨z, hz, hr⟩, _⟩ := hx
            simp at hz; subst hz
            rcases hr with ⟨rfl, hl'⟩ | ⟨b, off, cap, cs, rfl, h2, h3, h4, h5⟩ | ⟨a, cap, rfl, hl'⟩
            rotate_left 2
            · rw [hl'] at h1; simp at h1; omega
            · rw [hl'] at h1; simp at h1; omega
            · have hlt : n.toNat < List.length l := by omega
              refine ⟨_, indexAt_run hu (hT _ _ hle) hp h0 h1, ⟨b, off + n.toNat * e.size, _, ?_, EncL_getD (fun x c hc => Enc_len e x c hc) l cs n.toNat e.dflt h4 hlt, ?_⟩, rfl⟩
              · rw [he]; rfl
              · intro j v hj
                rw [List.getElem?_take] at hj
                split at hj
                · rw [List.getElem?_drop] at hj
                  rw [Nat.add_assoc]
                  exact h5 _ _ hj
                · simp at hj
          · simp at h
        · simp at h
        · rename_i id
          split at h
          · rename_i e xs hob
            split at h
            · rename_i he
              simp only [Option.some.injEq, Prod.mk.injEq] at h
              obtain ⟨hb, rfl⟩ := h
              obtain ⟨h0, h1⟩ := inb_iff hb
              obtain ⟨⟨hid, hv⟩, _⟩ := hx
              have hv := hv _ _ hob; subst hv
              obtain ⟨hlen, ho⟩ := hh.ob _ _ hob
              unfold Nu.hdr
              cases hblk : (ν id).blk with
              | none => simp only [hblk] at ho; subst ho; simp at h1; omega
              | some b =>
                refine ⟨.pointer (some ⟨b, n.toNat * e.size, none⟩), ?_, ⟨hid, fun e' xs' hob' => ?_⟩, rfl⟩
                · have := indexAt_run (w := w) (k := k) (b := b) (off := 0) (len := (ν id).len) (cap := (ν id).cap) hu (hT _ _ hle) hp h0 (by rw [← hlen]; exact h1)
                  rw [Nat.zero_add, he] at this
                  exact this
                · rw [hob] at hob'
                  injection hob' with hob'
                  injection hob' with hee hxx
                  subst hee
                  have hxx := eq_of_heq hxx; subst hxx
                  exact ⟨by omega, b, hblk, by rw [Nat.add_zero]⟩
            · simp at h
          · simp at h
        · simp at h
      · simp at h
    · simp at h
  · rename_i ty ag m et n hl hn
    obtain ⟨k, rfl⟩ := asI_rel _ _ _ hi hn
    have hu := (hT _ _ hl).und.2.1
    split at h
    · rename_i te hle
      split at h
      · rename_i hp
        split at h
        · rename_i id
          split at h
          · rename_i e xs hob
            split at h
            · rename_i he
              simp only [Option.some.injEq, Prod.mk.injEq, Bool.and_eq_true, decide_eq_true_eq] at h
              obtain ⟨⟨hb, hm⟩, rfl⟩ := h
              obtain ⟨h0, h1⟩ := inb_iff hb
              obtain ⟨⟨hid, hv⟩, _⟩ := hx
              obtain ⟨b, hblk, rfl⟩ := hv _ _ hob
              refine ⟨.pointer (some ⟨b, n.toNat * e.size, none⟩), ?_, ⟨hid, fun e' xs' hob' => ?_⟩, rfl⟩
              · have : ((0 : Int) ≤ n ∧ n < (m : Int)) := ⟨h0, h1⟩
                simp only [Instr.indexAt, asIntOf, Sem.run_bind, Sem.run_pure, Result.andThen_ok, run_underlying hu, Instr.sureAddr, if_pos this, (hT _ _ hle).sizeOf, plain_size hp, Addr_add, he, Nat.zero_add]
              · rw [hob] at hob'
                injection hob' with hob'
                injection hob' with hee hxx
                subst hee
                have hxx := eq_of_heq hxx; subst hxx
                exact ⟨by omega, b, hblk, by rw [Nat.add_zero]⟩
            · simp at h
          · simp at h
        · simp at h
      · simp at h
    · simp at h
  · simp at h

theorem str_get (s : List UInt8) (n : Nat) (h : n < s.length) : (ByteArray.mk s.toArray)[n]? = some (s.getD n 0) := by
  rw [ByteArray.getElem?_lt' _ _ (by simpa [ByteArray.size] using h)]
  simp [ByteArray.getElem_eq_getElem_data, h]

theorem intsOf_rel {k : IntKind} : ∀ (cs : List Cell) (us : List Value) (l : List Int), intsOf k cs = some l → CellsRel G ν st.objs st.nx cs us → l.length = cs.length ∧ ∀ j, j < us.length → us[j]? = some (.int k (List.getD l j (0 : Int)))
  | [], us, l, h, hc => by
    simp only [intsOf] at h
    injection h with h; subst h
    have := hc.1
    simp at this
    subst this
    exact ⟨rfl, fun j hj => by simp at hj⟩
  | .val (.int k') d :: cs, us, l, h, hc => by
    simp only [intsOf] at h
    split at h
    · rename_i hk
      subst hk
      cases hi : intsOf k' cs with
      | none => rw [hi] at h; cases h
      | some l' =>
        rw [hi] at h
        simp only [Option.map_some] at h
        injection h with h; subst h
        cases us with
        | nil => have := hc.1; simp at this
        | cons u us =>
          have h0 := (hc.2 0 _ u rfl rfl).1
          have hu : u = .int k' d := by simpa [CellRel, Enc] using h0
          obtain ⟨h1, h2⟩ := intsOf_rel cs us l' hi ⟨by have := hc.1; simpa using this, fun j c v hj hv => hc.2 (j + 1) c v (by simpa using hj) (by simpa using hv)⟩
          refine ⟨by show l'.length + 1 = cs.length + 1; rw [h1], fun j hj => ?_⟩
          cases j with
          | zero => show some u = some (Value.int k' d); rw [hu]
          | succ j => exact h2 j (by simpa using hj)
    · cases h
  | .val .bool d :: cs, us, l, h, _ => by simp [intsOf] at h
  | .val .str d :: cs, us, l, h, _ => by simp [intsOf] at h
  | .val (.slice _) d :: cs, us, l, h, _ => by simp [intsOf] at h
  | .val (.own _) d :: cs, us, l, h, _ => by simp [intsOf] at h
  | .val (.prod _ _) d :: cs, us, l, h, _ => by simp [intsOf] at h
  | .nils :: cs, us, l, h, _ => by simp [intsOf] at h
  | .own _ :: cs, us, l, h, _ => by simp [intsOf] at h
  | .aptr _ :: cs, us, l, h, _ => by simp [intsOf] at h
  | .ptr _ _ :: cs, us, l, h, _ => by simp [intsOf] at h
  | .eptr _ _ _ :: cs, us, l, h, _ => by simp [intsOf] at h
  | .rptr _ _ _ :: cs, us, l, h, _ => by simp [intsOf] at h
  | .clos _ _ :: cs, us, l, h, _ => by simp [intsOf] at h
  | .junk :: cs, us, l, h, _ => by simp [intsOf] at h

theorem indexOp_sound (hT : TabOk P T) {t : TypeId} {x i : AVal} {u v : Value} {r : AVal} (hx : AValRel G ν st.objs st.nx x u) (hi : AValRel G ν st.objs st.nx i v)
    (h : indexOp T t x i = some (true, r)) : Gives P G ν st w (Instr.index t u v) r := by
  unfold indexOp at h
  split at h
  · rename_i s n hl hn
    obtain ⟨k, rfl⟩ := asI_rel _ _ _ hi hn
    have := val_str hx; subst this
    have hu := (hT _ _ hl).und.2
    simp only [Option.some.injEq, Prod.mk.injEq] at h
    obtain ⟨hb, rfl⟩ := h
    obtain ⟨h0, h1⟩ := inb_iff hb
    have hlt : n.toNat < List.length s := by omega
    refine ⟨.int .u8 ((List.getD s n.toNat 0).toNat : Int), ?_, one_rel rfl⟩
    simp only [Instr.index, asIntOf, Sem.run_bind, Sem.run_pure, Result.andThen_ok, run_underlying hu, if_pos h0, str_get s n.toNat hlt]
  · rename_i k ag m et cs n hl hn
    split at h
    · rename_i k' hle
      split at h
      · rename_i l hints
        split at h
        · rename_i hc
          obtain ⟨rfl, hm⟩ := hc
          obtain ⟨kk, rfl⟩ := asI_rel _ _ _ hi hn
          obtain ⟨us, rfl, hcs⟩ := hx
          simp only [Option.some.injEq, Prod.mk.injEq] at h
          obtain ⟨hb, rfl⟩ := h
          obtain ⟨h0, h1⟩ := inb_iff hb
          obtain ⟨hlen, hval⟩ := intsOf_rel _ _ _ hints hcs
          have hu := (hT _ _ hl).und.2.1
          have hta := hT _ _ hle
          have hag : (Go.isAgg et).run P w = .ok false w := hta.isAgg
          have hsz : (Go.sizeOf et).run P w = .ok 1 w := hta.sizeOf
          have hlt : n.toNat < us.length := by rw [hcs.1]; omega
          have hus : us[n.toNat]? = some (.int k' (List.getD l n.toNat (0 : Int))) := hval _ hlt
          refine ⟨.int k' (List.getD l n.toNat (0 : Int)), ?_, one_rel rfl⟩
          simp only [Instr.index, asIntOf, Sem.run_bind, Sem.run_pure, Result.andThen_ok, run_underlying hu, h0, h1, and_self, if_true, hsz, part, hag, Nat.mul_one]
          simp [hus]
        · simp at h
      · simp at h
    · simp at h
  · simp at h

theorem bound_run {k : IntKind} {n : Int} {y : Nat} {c : BoundsCode} (h0 : 0 ≤ n) (h1 : n ≤ y) : (Instr.sliceBound (.int k n) y c).run P w = .ok n.toNat w := by
  simp [Instr.sliceBound, asIntOf, h0, h1]

/-- the operand of a bound -/
inductive BRel : Option Int → Option Value → Prop where
  | none : BRel .none .none
  | some (k : IntKind) (n : Int) : BRel (.some n) (.some (.int k n))

theorem optI_rel (h : Rel w0 F nt G0 G ν st a w) (o : Option Operand) (r : Option Int) (he : optI st o = some r) : BRel r (o.map a.eval) := by
  cases o with
  | none => simp [optI] at he; subst he; exact .none
  | some x =>
    simp only [optI] at he
    cases hv : ev st x with
    | none => simp [hv] at he
    | some av =>
      simp only [hv, Option.bind_some] at he
      cases hi : asI av with
      | none => simp [hi] at he
      | some n =>
        simp [hi] at he; subst he
        obtain ⟨k, hk⟩ := asI_rel _ _ _ (ev_rel h x av hv) hi
        simp only [Option.map_some, hk]
        exact .some k n

theorem bounds_run {isSlice : Bool} {n cap : Nat} {lo hi : Option Int} {vl vh : Option Value} (hl : BRel lo vl) (hh : BRel hi vh) (hc : n ≤ cap) (hb : (bnds n lo hi).1 = true) :
    (Instr.sliceBounds isSlice n cap vl vh none).run P w = .ok ((bnds n lo hi).2.1, (bnds n lo hi).2.2, cap) w ∧ (bnds n lo hi).2.1 ≤ (bnds n lo hi).2.2 ∧ (bnds n lo hi).2.2 ≤ n := by
  cases hl <;> cases hh <;> simp only [bnds, Bool.and_eq_true, decide_eq_true_eq] at hb ⊢
  · simp [Instr.sliceBounds]
  · rename_i k h
    refine ⟨?_, by omega, by omega⟩
    simp only [Instr.sliceBounds, Sem.run_bind, Sem.run_pure, Result.andThen_ok]
    rw [bound_run hb.1 (by omega)]
    rfl
  · rename_i k l
    refine ⟨?_, by omega, by omega⟩
    simp only [Instr.sliceBounds, Sem.run_bind, Sem.run_pure, Result.andThen_ok]
    rw [bound_run hb.1 (by omega)]
    rfl
  · rename_i k l k' h
    obtain ⟨⟨⟨h1, h2⟩, h3⟩, h4⟩ := hb
    refine ⟨?_, by omega, by omega⟩
    simp only [Instr.sliceBounds, Sem.run_bind, Sem.run_pure, Result.andThen_ok]
    rw [bound_run h1 (by omega)]
    simp only [Result.andThen_ok]
    rw [bound_run h3 (by omega)]
    rfl

theorem cutL_eq {α : Type} (l : List α) (lo hi : Option Int) : cutL l lo hi = (l.take (bnds l.length lo hi).2.2).drop (bnds l.length lo hi).2.1 := by
  cases lo <;> cases hi <;> simp [cutL, bnds]

theorem str_cut (s : List UInt8) (l h : Nat) : (ByteArray.mk s.toArray).extract l h = ⟨((s.take h).drop l).toArray⟩ := by
  apply ByteArray.ext
  rw [ByteArray.data_extract]
  simp [List.extract_eq_take_drop, List.drop_take]

theorem slice_str {t : TypeId} {lo hi : Option Int} {vl vh : Option Value} (hu : P.underlying t = some .string) (s : List UInt8) (hl : BRel lo vl) (hh : BRel hi vh) (hb : (bnds s.length lo hi).1 = true) :
    (Instr.sliceAt t (.string ⟨s.toArray⟩) vl vh none).run P w = .ok (.string ⟨(cutL s lo hi).toArray⟩) w := by
  have hsz : (ByteArray.mk (List.toArray s)).size = List.length s := by simp [ByteArray.size]
  obtain ⟨hr, h3, h4⟩ := bounds_run (P := P) (w := w) (isSlice := false) (cap := List.length s) hl hh (Nat.le_refl _) hb
  simp only [Instr.sliceAt, Instr.slice, Sem.run_bind, run_underlying hu, Result.andThen_ok, Option.isSome_none, Bool.false_eq_true, if_false, Sem.run_pure, hsz, hr, str_cut, cutL_eq]

theorem slice_sl {t et : TypeId} {te : TE} {lo hi : Option Int} {vl vh : Option Value} {α : Type} {R : α → List Value → Prop} {n : Nat} (hR : ∀ x c, R x c → c.length = n) (hu : P.underlying t = some (.slice et)) (hte : TEok P T et te) (hp : te.plain = true) (hn : te.ty.size = n)
    (xs : List α) {v : Value} (hx : SlRel G R xs v) (hl : BRel lo vl) (hh : BRel hi vh) (hb : (bnds xs.length lo hi).1 = true) :
    ∃ v', (Instr.sliceAt t v vl vh none).run P w = .ok v' w ∧ SlRel G R (cutL xs lo hi) v' := by
  rcases hx with ⟨rfl, hnil⟩ | ⟨b, off, cap, cs, rfl, h3, h4, h5, h6⟩ | ⟨a, cap, rfl, hnil⟩
  rotate_left 2
  · subst hnil
    obtain ⟨hr, h3, h4⟩ := bounds_run (P := P) (w := w) (isSlice := true) (cap := cap) hl hh (Nat.zero_le _) hb
    have e1 : (bnds 0 lo hi).2.2 = 0 := by omega
    have e2 : (bnds 0 lo hi).2.1 = 0 := by omega
    rw [e1, e2] at hr
    refine ⟨.slice (some a) 0 cap, ?_, .inr (.inr ⟨a, cap, rfl, ?_⟩)⟩
    · simp only [Instr.sliceAt, Instr.slice, Sem.run_bind, run_underlying hu, Result.andThen_ok, hr, hte.sizeOf, Sem.run_pure, Option.map_some]
      simp [Addr.add]
    · rw [cutL_eq]; simp
  · subst hnil
    obtain ⟨hr, h3, h4⟩ := bounds_run (P := P) (w := w) (isSlice := true) (cap := 0) hl hh (Nat.le_refl _) hb
    refine ⟨.slice none 0 0, ?_, .inl ⟨rfl, ?_⟩⟩
    · have e1 : (bnds 0 lo hi).2.2 = 0 := by omega
      have e2 : (bnds 0 lo hi).2.1 = 0 := by omega
      rw [e1, e2] at hr
      simp [Instr.sliceAt, Instr.slice, run_underlying hu, hr, hte.sizeOf]
    · rw [cutL_eq]; simp
  · obtain ⟨hr, h7, h8⟩ := bounds_run (P := P) (w := w) (isSlice := true) (cap := cap) hl hh h3 hb
    have hcut := cutL_eq xs lo hi
    generalize (bnds xs.length lo hi).2.1 = p at *
    generalize (bnds xs.length lo hi).2.2 = q at *
    have hsz : te.size = n := by rw [plain_size hp, hn]
    have hlen : (cutL xs lo hi).length = q - p := by rw [hcut]; simp; omega
    refine ⟨.slice (some (if cap = p then ⟨b, off, none⟩ else ⟨b, off + p * n, none⟩)) (q - p) (cap - p), ?_, .inr (.inl ?_)⟩
    · simp only [Instr.sliceAt, Instr.slice, Sem.run_bind, run_underlying hu, Result.andThen_ok, hr, hte.sizeOf, Sem.run_pure, hsz, Option.map_some, Addr_add]
      split <;> rfl
    · by_cases hc : cap = p
      · have h0 : cutL xs lo hi = [] := List.eq_nil_of_length_eq_zero (by omega)
        refine ⟨b, off, cap - p, [], ?_, by omega, by omega, ?_, fun j v hj => by simp at hj⟩
        · rw [if_pos hc]; rw [hlen]
        · rw [h0]; rfl
      · refine ⟨b, off + p * n, cap - p, (cs.take (q * n)).drop (p * n), ?_, by omega, by omega, ?_, ?_⟩
        · rw [if_neg hc, hlen]
        · rw [hcut]
          exact EncL_drop hR _ _ p (EncL_take hR _ _ q h5)
        · intro j v hj
          rw [List.getElem?_drop, List.getElem?_take] at hj
          split at hj
          · rw [Nat.add_assoc]; exact h6 _ _ hj
          · simp at hj

theorem sliceOp_sound (hT : TabOk P T) {t : TypeId} {x : AVal} {u : Value} {vl vh : Option Value} {lo hi : Option Operand} {r : AVal} (hx : AValRel G ν st.objs st.nx x u)
    (hl : ∀ l, optI st lo = some l → BRel l vl) (hh : ∀ l, optI st hi = some l → BRel l vh)
    (h : sliceOp T st t x lo hi = some (true, r)) : Gives P G ν st w (Instr.sliceAt t u vl vh none) r := by
  unfold sliceOp at h
  split at h
  · rename_i s l h' htl h1 h2
    have := val_str hx; subst this
    simp only [Option.some.injEq, Prod.mk.injEq] at h
    obtain ⟨hb, rfl⟩ := h
    exact ⟨_, slice_str (hT _ _ htl).und.2 s (hl _ h1) (hh _ h2) hb, one_rel rfl⟩
  · rename_i ty ag et e xs l h' htl h1 h2
    have hu := (hT _ _ htl).und.2.1
    split at h
    · rename_i te hle
      split at h
      · rename_i hep
        obtain ⟨he, hp⟩ := hep
        simp only [Option.some.injEq, Prod.mk.injEq] at h
        obtain ⟨hb, rfl⟩ := h
        obtain ⟨⟨z, hz, hr⟩, _⟩ := hx
        simp at hz; subst hz
        obtain ⟨v', h3, h4⟩ := slice_sl (P := P) (T := T) (w := w) (fun x c hc => Enc_len e x c hc) hu (hT _ _ hle) hp (by rw [he]) xs hr (hl _ h1) (hh _ h2) hb
        exact ⟨v', h3, one_rel ⟨v', rfl, h4⟩⟩
      · simp at h
    · simp at h
  · simp at h
end
end Go.Sx

/- The abstract machine: every operation that turns no memory does what `pureOp` says. -/
namespace Go.Sx
set_option linter.unusedVariables false
set_option linter.unusedSimpArgs false

section
variable {w0 : World} {F : Nat → Prop} {nt : Slots} {G0 G : GH} {ν : Nat → Nu} {st : St} {a : Act} {w : World} {P : Program} {T : Tab}

theorem EncL_ints {k : IntKind} : ∀ (l : List Int) (cs : List Value), EncL (Enc G (.int k)) l cs → cs = l.map (Value.int k)
  | [], cs, h => h
  | x :: l, cs, ⟨c1, c2, he, h1, h2⟩ => by
    have := EncL_ints l c2 h2
    simp only [Enc] at h1
    rw [he, h1, this]; rfl

theorem bytes_run {t e : TypeId} {dst : TypeId} (hs : P.underlying t = some (.slice e)) (he : P.underlying e = some (.int .u8)) (hd : P.underlying dst = some .string) {b off cap : Nat} (l : List Int)
    (hm : ∀ j v, (l.map (Value.int .u8))[j]? = some v → w.cell? ⟨b, off + j, none⟩ = some v) :
    (convert t dst (.slice (some ⟨b, off, none⟩) l.length cap)).run P w = .ok (.string ⟨(toStr l).toArray⟩) w := by
  rw [run_convert_bytes_string w t dst e _ _ _ hs he hd]
  have h1 := run_loadCells_list (P := P) w ⟨b, off, none⟩ (l.map (Value.int .u8)) (fun j v hj => by rw [Addr_add]; exact hm j v hj)
  rw [List.length_map] at h1
  rw [run_bytesToString w _ _ _ l h1, foldl_push_bytes]
  congr 2
  apply ByteArray.ext
  simp [toStr]

theorem bytes_nil {t e : TypeId} {dst : TypeId} (hs : P.underlying t = some (.slice e)) (he : P.underlying e = some (.int .u8)) (hd : P.underlying dst = some .string) (l c : Nat) :
    (convert t dst (.slice none l c)).run P w = .ok (.string ⟨#[]⟩) w := by
  rw [run_convert_bytes_string w t dst e _ _ _ hs he hd]
  rfl

theorem bytes_nilA {t e : TypeId} {dst : TypeId} (hs : P.underlying t = some (.slice e)) (he : P.underlying e = some (.int .u8)) (hd : P.underlying dst = some .string) (a : Addr) (c : Nat) :
    (convert t dst (.slice (some a) 0 c)).run P w = .ok (.string ⟨#[]⟩) w := by
  rw [run_convert_bytes_string w t dst e _ _ _ hs he hd]
  have h1 := run_loadCells_list (P := P) w a ([].map (Value.int .u8)) (fun j v hj => by simp at hj)
  simp only [List.map_nil, List.length_nil] at h1
  rw [run_bytesToString w _ _ _ [] (by simpa using h1), foldl_push_bytes]
  rfl

theorem convOp_sound (hT : TabOk P T) (hh : HRel w0 F G ν st.objs st.nx w) {src dst : TypeId} {x : AVal} {u : Value} {r : AVal} (hx : AValRel G ν st.objs st.nx x u)
    (h : convOp T st src dst x = some (true, r)) : Gives P G ν st w (convert src dst u) r := by
  unfold convOp convO at h
  split at h
  · rename_i k0 k k1 n h1 h2
    have := val_int hx; subst this
    have hs := (hT _ _ h1).und.2
    have hd := (hT _ _ h2).und.2
    simp at h; subst h
    exact ⟨.int k (k.wrap n), by simp [convert, run_underlying hs, run_underlying hd, Conv.intToInt], one_rel rfl⟩
  · rename_i s h1 h2
    have := val_str hx; subst this
    have hs := (hT _ _ h1).und.2
    have hd := (hT _ _ h2).und.2
    simp at h; subst h
    exact ⟨_, by simp [convert, run_underlying hs, run_underlying hd] <;> rfl, one_rel rfl⟩
  · rename_i ty ag et c h1 h2
    have hs := (hT _ _ h1).und.2.1
    have hd := (hT _ _ h2).und.2
    split at h
    · rename_i h3
      have he := (hT _ _ h3).und.2
      split at h
      · rename_i l
        simp at h; subst h
        obtain ⟨⟨z, hz, hr⟩, _⟩ := hx
        simp at hz; subst hz
        rcases hr with ⟨rfl, hnil⟩ | ⟨b, off, cap, cs, rfl, h4, h5, h6, h7⟩ | ⟨a, cap, rfl, hnil⟩
        rotate_left 2
        · refine ⟨_, bytes_nilA hs he hd a _, one_rel ?_⟩
          rw [hnil]; rfl
        · refine ⟨_, bytes_nil hs he hd _ _, one_rel ?_⟩
          rw [hnil]; rfl
        · have hcs := EncL_ints _ _ h6
          exact ⟨_, bytes_run hs he hd l (fun j v hj => hh.g _ _ _ (h7 j v (by rw [hcs]; exact hj))), one_rel rfl⟩
      · simp at h; subst h
        obtain ⟨hv, _⟩ := hx
        simp only [CellRel] at hv; subst hv
        exact ⟨_, bytes_nil hs he hd _ _, one_rel rfl⟩
      · rename_i id
        split at h
        · rename_i xs hob
          simp at h; subst h
          obtain ⟨⟨hid, hv⟩, _⟩ := hx
          have hv := hv _ _ hob; subst hv
          obtain ⟨hlen, ho⟩ := hh.ob _ _ hob
          unfold Nu.hdr
          cases hblk : (ν id).blk with
          | none =>
            simp only [hblk] at ho
            refine ⟨_, bytes_nil hs he hd _ _, one_rel ?_⟩
            rw [ho]; rfl
          | some b =>
            simp only [hblk] at ho
            obtain ⟨TT, vs, cs, hb, h4, h5, h6, h7, h8⟩ := ho
            have hcs := EncL_ints _ _ h7
            rw [← hlen]
            refine ⟨_, bytes_run hs he hd xs (fun j v hj => ?_), one_rel rfl⟩
            rw [Nat.zero_add]
            obtain ⟨tl, htl⟩ := h8
            have : vs.toList[j]? = some v := by
              rw [← htl, hcs, List.getElem?_append_left (List.getElem?_eq_some_iff.1 hj).1]; exact hj
            rw [cell_of_row w b j vs TT (0, 0) hb]
            simpa using this
        · simp at h
      · simp at h
    · simp at h
  · simp at h

/-- the nil check leaves a pointer as it is -/
theorem nil_run {x : Operand} {o : Oper} (ho : o.op = .nilCheck x) {ρ : Operand → Value} {p : Addr} (h : ρ x = .pointer (some p)) : (execOp ρ o).run P w = .ok (.value (.pointer (some p))) w := by
  simp [execOp, ho, h]

theorem nilOp_ptr {x r : AVal} {u : Value} (hx : AValRel G ν st.objs st.nx x u) (h : nilOp st x = some (true, r)) : r = x ∧ ∃ p, u = .pointer (some p) := by
  unfold nilOp at h
  split at h
  · simp at h; subst h
    obtain ⟨⟨b, o, cs, rfl, _⟩, _⟩ := hx
    exact ⟨rfl, _, rfl⟩
  · split at h
    · rename_i hob
      simp at h; subst h
      obtain ⟨⟨_, h2⟩, _⟩ := hx
      obtain ⟨b, _, rfl⟩ := h2 _ hob
      exact ⟨rfl, _, rfl⟩
    · simp at h
  · split at h
    · rename_i hob
      simp at h; subst h
      obtain ⟨⟨_, h2⟩, _⟩ := hx
      obtain ⟨_, b, _, rfl⟩ := h2 _ _ hob
      exact ⟨rfl, _, rfl⟩
    · simp at h
  · split at h
    · rename_i hob
      simp at h; subst h
      obtain ⟨⟨_, h2⟩, _⟩ := hx
      obtain ⟨b, _, rfl⟩ := h2 _ _ hob
      exact ⟨rfl, _, rfl⟩
    · simp at h
  · simp at h

theorem capIds_rel (hr : Rel w0 F nt G0 G ν st a w) : ∀ (l : List Operand) (ids : List Nat), capIds st l = some ids →
    ids.length = l.length ∧ ∀ (j id : Nat) (u : Value), ids[j]? = some id → (l.map a.eval)[j]? = some u → id < st.nx ∧ u.oneCell' = true ∧ ∀ cs, look st.objs id = some (.box cs) → ∃ b, (ν id).blk = some b ∧ u = .pointer (some ⟨b, 0, none⟩)
  | [], ids, h => by simp [capIds] at h; subst h; exact ⟨rfl, fun j id u hj => by simp at hj⟩
  | o :: l, ids, h => by
    simp only [capIds] at h
    split at h
    · rename_i id r h1 h2
      injection h with h; subst h
      obtain ⟨h3, h4⟩ := capIds_rel hr l r h2
      refine ⟨by simp [h3], fun j i u hj hu => ?_⟩
      cases j with
      | zero =>
        simp at hj hu; subst hj hu
        obtain ⟨⟨g1, g2⟩, g3⟩ := ev_rel hr o _ h1
        exact ⟨g1, g3, g2⟩
      | succ j => exact h4 j i u (by simpa using hj) (by simpa using hu)
    · simp at h

theorem loadOp_sound (hT : TabOk P T) (hh : HRel w0 F G ν st.objs st.nx w) {t : TypeId} {x : AVal} {u : Value} {r : AVal} (hx : AValRel G ν st.objs st.nx x u) (h : loadOp T st t x = some r) :
    Gives P G ν st w (Instr.loadAt t u) r := by
  unfold loadOp at h
  split at h
  · rename_i te hl
    split at h
    · rename_i hp
      split at h
      · rename_i id off
        split at h
        · rename_i cs hob
          obtain ⟨⟨_, h2⟩, _⟩ := hx
          obtain ⟨b, hb, rfl⟩ := h2 _ hob
          obtain ⟨b', TT, vs, hb', hhp, hcs⟩ := hh.ob _ _ hob
          rw [hb] at hb'; injection hb' with hb'; subst hb'
          obtain ⟨v, h3, h4⟩ := load_sound (hT _ _ hl) hp hcs (o := 0) (fun j v hj => by rw [Nat.zero_add, cell_of_row w b j vs TT (0, 0) hhp]; simpa using hj) h
          rw [Nat.zero_add] at h3
          exact ⟨v, by simpa [Instr.loadAt, Instr.sureAddr] using h3, h4⟩
        · simp at h
      · rename_i id i off
        split at h
        · rename_i e xs hob
          obtain ⟨⟨_, h2⟩, _⟩ := hx
          obtain ⟨hlt, b, hb, rfl⟩ := h2 _ _ hob
          obtain ⟨hlen, ho⟩ := hh.ob _ _ hob
          simp only [hb] at ho
          obtain ⟨TT, vs, cs, hhp, h4, h5, h6, h7, h8⟩ := ho
          have hen := EncL_getD (fun x c hc => Enc_len e x c hc) xs cs i e.dflt h7 hlt
          obtain ⟨v, h9, h10⟩ := load_sound (hT _ _ hl) hp (split_rel (G := G) (ν := ν) (objs := st.objs) (nx := st.nx) e _ _ hen) (w := w) (b := b) (o := i * e.size) (fun j v hj => by
            rw [cell_of_row w b _ vs TT (0, 0) hhp]
            rw [List.getElem?_take] at hj
            split at hj
            · rw [List.getElem?_drop] at hj
              obtain ⟨tl, htl⟩ := h8
              have : vs.toList[i * e.size + j]? = some v := by
                rw [← htl, List.getElem?_append_left (List.getElem?_eq_some_iff.1 hj).1]; exact hj
              simpa using this
            · simp at hj) h
          exact ⟨v, by simpa [Instr.loadAt, Instr.sureAddr] using h9, h10⟩
        · simp at h
      · rename_i t' d off
        obtain ⟨⟨b, o, cs, rfl, h1, h2⟩, _⟩ := hx
        obtain ⟨v, h9, h10⟩ := load_sound (hT _ _ hl) hp (split_rel (G := G) (ν := ν) (objs := st.objs) (nx := st.nx) t' d _ h1) (w := w) (b := b) (o := o) (fun j v hj => hh.g _ _ _ (h2 j v hj)) h
        exact ⟨v, by simpa [Instr.loadAt, Instr.sureAddr] using h9, h10⟩
      · simp at h
    · simp at h
  · simp at h

theorem EncL_int {G : GH} {k : IntKind} : ∀ (xs : List Int) (cs : List Value), EncL (Enc G (.int k)) xs cs → cs = xs.map fun x => Value.int k x
  | [], cs, h => h
  | x :: xs, cs, ⟨c1, c2, h1, h2, h3⟩ => by
    have : c1 = [.int k x] := h2
    rw [h1, this, EncL_int xs c2 h3]
    rfl

theorem arrC_get {k : IntKind} {xs : List Int} : ∀ (n i j : Nat), (arrC k xs i n)[j]? = if j < n then some (.val (.int k) (xs.getD (i + j) (0 : Int))) else none
  | 0, i, j => by simp [arrC]
  | n + 1, i, j => by
    cases j with
    | zero => simp [arrC]
    | succ j =>
      rw [arrC, List.getElem?_cons_succ, arrC_get n (i + 1) j, show i + 1 + j = i + (j + 1) by omega]
      by_cases h : j < n
      · rw [if_pos h, if_pos (by omega)]
      · rw [if_neg h, if_neg (by omega)]

theorem arrC_len {k : IntKind} {xs : List Int} : ∀ (n i : Nat), (arrC k xs i n).length = n
  | 0, i => rfl
  | n + 1, i => by rw [arrC, List.length_cons, arrC_len n (i + 1)]

theorem loadArr_sound (hT : TabOk P T) (hh : HRel w0 F G ν st.objs st.nx w) {t : TypeId} {x : AVal} {u : Value} {r : AVal} (hx : AValRel G ν st.objs st.nx x u) (h : loadArr T st t x = some (true, r)) :
    Gives P G ν st w (Instr.loadAt t u) r := by
  unfold loadArr at h
  split at h
  · rename_i k n et hl
    split at h
    · rename_i id
      split at h
      · rename_i k' xs hob
        change List Int at xs
        split at h
        · rename_i hk
          subst hk
          simp only [Option.some.injEq, Prod.mk.injEq, decide_eq_true_eq] at h
          obtain ⟨hn, rfl⟩ := h
          obtain ⟨⟨_, h2⟩, _⟩ := hx
          obtain ⟨b, hb, rfl⟩ := h2 _ _ hob
          obtain ⟨hlen, ho⟩ := hh.ob _ _ hob
          simp only [hb] at ho
          obtain ⟨TT, vs, cs, hhp, h4, h5, h6, h7, h8⟩ := ho
          have hcs := EncL_int _ _ h7
          have hte := hT _ _ hl
          have hag : (Go.isAgg t).run P w = .ok true w := hte.isAgg
          have hsz : (Go.sizeOf t).run P w = .ok n w := by have := hte.sizeOf (w := w); simpa [TE.size, Ty.size] using this
          have hcl : cs.length = n := by rw [hcs, List.length_map]; exact hn
          have hr := run_loadCells_list (P := P) w ⟨b, 0, none⟩ cs (fun j v hj => by
            rw [Addr_add, Nat.zero_add, cell_of_row w b j vs TT (0, 0) hhp]
            obtain ⟨tl, htl⟩ := h8
            have : vs.toList[j]? = some v := by
              rw [← htl, List.getElem?_append_left (List.getElem?_eq_some_iff.1 hj).1]; exact hj
            simpa using this)
          rw [hcl] at hr
          refine ⟨.agg cs.toArray, ?_, cs, rfl, ?_, fun j c v hj hv => ?_⟩
          · simp only [Instr.loadAt, Instr.sureAddr, Sem.run_bind, Sem.run_pure, Result.andThen_ok, loadVar, hag, if_true, hsz, hr]
          · rw [arrC_len, hcl]
          · rw [arrC_get] at hj
            split at hj
            · rename_i hjn
              injection hj with hj; subst hj
              rw [hcs, List.getElem?_map] at hv
              have hjx : j < List.length xs := Nat.lt_of_lt_of_eq hjn hn.symm
              rw [List.getElem?_eq_getElem hjx] at hv
              simp only [Option.map_some] at hv
              injection hv with hv; subst hv
              refine ⟨?_, rfl⟩
              simp [CellRel, Enc, hjx]
            · cases hj
        · simp at h
      · simp at h
    · simp at h
  · simp at h

end

section
variable {w0 : World} {F : Nat → Prop} {nt : Slots} {G0 G : GH} {ν : Nat → Nu} {st : St} {a : Act} {w : World} {P : Program} {T : Tab}

theorem exec_of {o : Oper} {s : Sem Value} {r : AVal} (he : execOp a.eval o = (do pure (.value (← s)))) (h : Gives P G ν st w s r) :
    ∃ v, (execOp a.eval o).run P w = .ok (.value v) w ∧ AValRel G ν st.objs st.nx r v := by
  obtain ⟨v, h1, h2⟩ := h
  exact ⟨v, by rw [he]; simp [h1], h2⟩

theorem bind_true {α β : Type} {x : Option α} {f : α → Option (Bool × β)} {r : β} (h : x.bind f = some (true, r)) : ∃ y, x = some y ∧ f y = some (true, r) := by
  cases x with
  | none => simp at h
  | some y => exact ⟨y, rfl, h⟩

theorem pure_sound (hT : TabOk P T) (hr : Rel w0 F nt G0 G ν st a w) {o : Oper} {r : AVal} (h : pureOp T st o.op = some (true, r)) :
    ∃ v, (execOp a.eval o).run P w = .ok (.value v) w ∧ AValRel G ν st.objs st.nx r v := by
  obtain ⟨dst, op, type, pos, after, guard⟩ := o
  simp only at h
  unfold pureOp at h
  split at h
  · rename_i x
    cases hx : ev st x with
    | none => simp [hx] at h
    | some v => simp [hx] at h; subst h; exact ⟨_, rfl, ev_rel hr x _ hx⟩
  · rename_i x
    cases hx : ev st x with
    | none => simp [hx] at h
    | some v => simp [hx] at h; subst h; exact ⟨_, rfl, ev_rel hr x _ hx⟩
  · rename_i c x y
    split at h
    · rename_i p h1
      cases hc : ev st c with
      | none => simp [hc] at h1
      | some cv =>
        simp [hc] at h1
        have e1 := asB_rel _ _ _ (ev_rel hr c _ hc) h1
        split at h
        · rename_i m n h2 h3
          simp at h; subst h
          have e2 := val_bool (ev_rel hr x _ h2)
          have e3 := val_bool (ev_rel hr y _ h3)
          refine ⟨.bool (bif p then m else n), ?_, one_rel rfl⟩
          simp only [execOp, e1, e2, e3, asBool]
          cases p <;> rfl
        · cases p with
          | true =>
            cases hx : ev st x with
            | none => simp [hx] at h
            | some v => simp [hx] at h; subst h; exact ⟨a.eval x, by simp only [execOp, e1, asBool]; rfl, ev_rel hr x _ hx⟩
          | false =>
            cases hx : ev st y with
            | none => simp [hx] at h
            | some v => simp [hx] at h; subst h; exact ⟨a.eval y, by simp only [execOp, e1, asBool]; rfl, ev_rel hr y _ hx⟩
    · simp at h
  · rename_i t x
    obtain ⟨y, hy, h⟩ := bind_true h
    cases ha : loadArr T st t y with
    | some z => rw [ha] at h; simp only [] at h; injection h with h; subst h; exact exec_of rfl (loadArr_sound hT hr.h (ev_rel hr x _ hy) ha)
    | none =>
      rw [ha] at h
      cases hl : loadOp T st t y with
      | none => simp [hl] at h
      | some z => simp [hl] at h; subst h; exact exec_of rfl (loadOp_sound hT hr.h (ev_rel hr x _ hy) hl)
  · rename_i x
    obtain ⟨y, hy, h⟩ := bind_true h
    obtain ⟨rfl, p, hp⟩ := nilOp_ptr (ev_rel hr x _ hy) h
    exact ⟨_, nil_run rfl hp, by rw [← hp]; exact ev_rel hr x _ hy⟩
  · rename_i op t x y _
    split at h
    · rename_i u v h1 h2
      exact exec_of rfl (binOp_sound hT x y (ev_rel hr x _ h1) (ev_rel hr y _ h2) h)
    · simp at h
  · rename_i op t x
    obtain ⟨y, hy, h⟩ := bind_true h
    exact exec_of rfl (unOp_sound (ev_rel hr x _ hy) h)
  · rename_i src dst x
    obtain ⟨y, hy, h⟩ := bind_true h
    exact exec_of rfl (convOp_sound hT hr.h (ev_rel hr x _ hy) h)
  · rename_i t x lo hi
    obtain ⟨y, hy, h⟩ := bind_true h
    exact exec_of rfl (sliceOp_sound hT (ev_rel hr x _ hy) (fun l hl => optI_rel hr lo l hl) (fun l hl => optI_rel hr hi l hl) h)
  · rename_i s x f
    obtain ⟨y, hy, h⟩ := bind_true h
    exact exec_of rfl (fieldAddrOp_sound hT hr.h (ev_rel hr x _ hy) h)
  · rename_i s x f
    obtain ⟨y, hy, h⟩ := bind_true h
    exact exec_of rfl (fieldOp_sound hT (ev_rel hr x _ hy) h)
  · rename_i t x i
    split at h
    · rename_i u v h1 h2
      exact exec_of rfl (indexAddrOp_sound hT hr.h (ev_rel hr x _ h1) (ev_rel hr i _ h2) h)
    · simp at h
  · rename_i t x i
    split at h
    · rename_i u v h1 h2
      exact exec_of rfl (indexOp_sound hT (ev_rel hr x _ h1) (ev_rel hr i _ h2) h)
    · simp at h
  · rename_i t ix
    split at h
    · rename_i xs h1
      cases hx : xs[ix]? with
      | none => simp [hx] at h
      | some y =>
        simp [hx] at h; subst h
        obtain ⟨vs, hv, hl, hvs⟩ := ev_rel hr t _ h1
        have hlt : ix < vs.length := by rw [hl]; exact (List.getElem?_eq_some_iff.1 hx).1
        exact exec_of rfl ⟨vs[ix], by simp [hv, Instr.extract, hlt], hvs ix y _ hx (List.getElem?_eq_getElem hlt)⟩
    · simp at h
  · rename_i f first captured
    split at h
    · rename_i hf
      cases hc : capIds st captured.toList with
      | none => simp [hc] at h
      | some ids =>
        simp [hc] at h; subst h
        obtain ⟨h1, h2⟩ := capIds_rel hr _ _ hc
        have hfe : first = #[] := by simpa using hf
        subst hfe
        refine exec_of rfl ⟨.func (.func f) #[] (captured.map a.eval), by simp [Instr.makeFunc], ⟨captured.toList.map a.eval, ?_, ?_, h2⟩, rfl⟩
        · apply congrArg
          apply Array.ext'
          simp
        · simp [h1]
    · simp at h
  · rename_i c
    obtain ⟨callee, args, argTypes⟩ := c
    obtain ⟨args⟩ := args
    obtain ⟨argTypes⟩ := argTypes
    simp only at h
    split at h
    · rename_i x t
      obtain ⟨y, hy, h⟩ := bind_true h
      obtain ⟨v, h1, h2⟩ := lenOp_sound (ty := type) hT hr.h (ev_rel hr x _ hy) h
      refine ⟨v, ?_, h2⟩
      simp only [execOp, resolve, invoke, builtin, Sem.run_bind, Sem.run_pure, Result.andThen_ok, List.map_toArray, List.map_cons, List.map_nil, h1]
    · rename_i x y _ _
      split at h
      · rename_i k m k' n h1 h2
        split at h
        · rename_i hk; subst hk
          simp at h; subst h
          have e1 := val_int (ev_rel hr x _ h1)
          have e2 := val_int (ev_rel hr y _ h2)
          refine ⟨.int k (minI m n), ?_, one_rel rfl⟩
          simp only [execOp, resolve, invoke, builtin, Sem.run_bind, Sem.run_pure, Result.andThen_ok, List.map_toArray, List.map_cons, List.map_nil, e1, e2, Builtin.min_]
          rfl
        · simp at h
      · simp at h
    · rename_i x y _ _
      split at h
      · rename_i k m k' n h1 h2
        split at h
        · rename_i hk; subst hk
          simp at h; subst h
          have e1 := val_int (ev_rel hr x _ h1)
          have e2 := val_int (ev_rel hr y _ h2)
          refine ⟨.int k (maxI m n), ?_, one_rel rfl⟩
          simp only [execOp, resolve, invoke, builtin, Sem.run_bind, Sem.run_pure, Result.andThen_ok, List.map_toArray, List.map_cons, List.map_nil, e1, e2, Builtin.max_]
          rfl
        · simp at h
      · simp at h
    · simp at h
  · simp at h
end
end Go.Sx

/- The abstract machine: memory that turns. -/
namespace Go.Sx
set_option linter.unusedVariables false
set_option linter.unusedSimpArgs false

section
variable {w0 : World} {F : Nat → Prop} {nt : Slots} {G0 G G' : GH} {ν ν' : Nat → Nu} {objs objs' : Objs} {nx nx' : Nat} {w w' : World} {P : Program} {T : Tab}

theorem Live.of {id : Nat} {ob : Ob} (h : look objs id = some ob) (hd : ob ≠ .dead) : Live objs id := ⟨ob, h, hd⟩

theorem look_cons {α : Type} (k : Nat) (v : α) (l : List (Nat × α)) (i : Nat) : look ((k, v) :: l) i = if k = i then some v else look l i := by
  simp only [look]
  by_cases h : k = i
  · subst h; simp
  · have : Nat.beq k i = false := by
      cases hb : Nat.beq k i with
      | false => rfl
      | true => exact absurd (Nat.eq_of_beq_eq_true hb) h
    rw [this, if_neg h]

theorem look_append {α : Type} : ∀ (l m : List (Nat × α)) (i : Nat), look (l ++ m) i = match look l i with
    | some x => some x
    | none => look m i
  | [], m, i => rfl
  | (k, v) :: l, m, i => by
    rw [List.cons_append, look_cons, look_cons]
    split
    · rfl
    · exact look_append l m i

theorem ObRel.mono (hg : GLe G G') (hn : NuEq nx ν ν') (ho : ObjsLe nx objs objs') (hx : nx ≤ nx') {id : Nat} (hid : id < nx) {ob : Ob} (hb : ∀ b, (ν id).blk = some b → w'.heap[b]? = w.heap[b]?)
    (h : ObRel G ν objs nx w id ob) : ObRel G' ν' objs' nx' w' id ob := by
  cases ob with
  | dead => trivial
  | box cs =>
    obtain ⟨b, TT, vs, h1, h2, h3⟩ := h
    exact ⟨b, TT, vs, by rw [hn id hid]; exact h1, by rw [hb b h1]; exact h2, h3.mono hg hn ho hx⟩
  | arr e xs =>
    obtain ⟨h1, h2⟩ := h
    unfold ObRel
    rw [hn id hid]
    refine ⟨h1, ?_⟩
    cases hk : (ν id).blk with
    | none => simpa [hk] using h2
    | some b =>
      simp only [hk] at h2
      obtain ⟨TT, vs, cs, h3, h4, h5, h6, h7, h8⟩ := h2
      exact ⟨TT, vs, cs, by rw [hb b hk]; exact h3, h4, h5, h6, EncL_mono (fun x c hc => Enc_mono hg e x c hc) _ _ h7, h8⟩

theorem HRel.blk_lt (h : HRel w0 F G ν objs nx w) {id b : Nat} (hl : Live objs id) (hb : (ν id).blk = some b) : b < w.heap.size := by
  obtain ⟨ob, ho, hd⟩ := hl
  have := h.ob id ob ho
  cases ob with
  | dead => exact absurd rfl hd
  | box cs =>
    obtain ⟨b', _, _, h1, h2, _⟩ := this
    rw [hb] at h1; injection h1 with h1; subst h1
    exact (Array.getElem?_eq_some_iff.1 h2).1
  | arr e xs =>
    obtain ⟨_, h2⟩ := this
    simp only [hb] at h2
    obtain ⟨_, _, _, h3, _⟩ := h2
    exact (Array.getElem?_eq_some_iff.1 h3).1

theorem HRel.g_lt (h : HRel w0 F G ν objs nx w) {b o : Nat} {v : Value} (hg : G b o = some v) : b < w.heap.size := block_lt_of_cell (h.g b o v hg)

/-- the block `b` is one of the objects' own -/
def Owned (ν : Nat → Nu) (objs : Objs) (b : Nat) : Prop := ∃ id, Live objs id ∧ (ν id).blk = some b

/-- THE STEP: memory turned at most in blocks of objects; new blocks -/
theorem HRel.step (h : HRel w0 F G ν objs nx w) (hsz : w.heap.size ≤ w'.heap.size) (hos : w'.os = w.os) (hout : w'.output = w.output) (htape : w'.tape = w.tape)
    (hch : ∀ b, b < w.heap.size → ¬ Owned ν objs b → w'.heap[b]? = w.heap[b]?)
    (hob : ∀ id ob, look objs' id = some ob → ob ≠ .dead → ObRel G ν' objs' nx' w' id ob)
    (hlt : ∀ id, Live objs' id → id < nx')
    (hblk : ∀ id b, Live objs' id → (ν' id).blk = some b → Owned ν objs b ∨ w.heap.size ≤ b)
    (hinj : ∀ id id' b, Live objs' id → Live objs' id' → (ν' id).blk = some b → (ν' id').blk = some b → id = id') :
    HRel w0 F G ν' objs' nx' w' where
  g b o v hg := by
    have hb := h.g_lt hg
    have hno : ¬ Owned ν objs b := fun ⟨id, hl, hk⟩ => by rw [h.gf id b hl hk o] at hg; cases hg
    rw [World.cell?_of_block (w := w) (hch b hb hno)]
    exact h.g b o v hg
  ob id ob ho := by
    by_cases hd : ob = .dead
    · subst hd; trivial
    · exact hob id ob ho hd
  gf id b hl hk o := by
    rcases hblk id b hl hk with ⟨id0, hl0, hk0⟩ | hge
    · exact h.gf id0 b hl0 hk0 o
    · cases hg : G b o with
      | none => rfl
      | some v => have := h.g_lt hg; omega
  inj := hinj
  own id b hl hk := by
    rcases hblk id b hl hk with ⟨id0, hl0, hk0⟩ | hge
    · exact h.own id0 b hl0 hk0
    · exact .inl (Nat.le_trans h.size hge)
  lt := hlt
  frame b hb hF := by
    rw [← h.frame b hb hF]
    refine hch b (Nat.lt_of_lt_of_le hb h.size) (fun ⟨id, hl, hk⟩ => ?_)
    rcases h.own id b hl hk with h1 | h1
    · omega
    · exact hF h1
  size := Nat.le_trans h.size hsz
  os := hos.trans h.os
  output := hout.trans h.output
  tape := htape.trans h.tape

theorem HRel.drew (h : HRel w0 F G ν objs nx w) : HRel w0 F G ν objs nx w.drew where
  g := h.g
  ob id ob ho := by cases ob <;> exact h.ob id _ ho
  gf := h.gf
  inj := h.inj
  own := h.own
  lt := h.lt
  frame := h.frame
  size := h.size
  os := h.os
  output := h.output
  tape := h.tape

/-- an object dies: nothing turns -/
theorem HRel.kill (h : HRel w0 F G ν objs nx w) (id : Nat) : HRel w0 F G ν ((id, .dead) :: objs) nx w := by
  have hle : ObjsLe nx objs ((id, .dead) :: objs) := fun i _ => ⟨fun e xs hx => by
    rw [look_cons] at hx; split at hx
    · cases hx
    · exact ⟨xs, hx, rfl⟩, fun cs hx => by
    rw [look_cons] at hx; split at hx
    · cases hx
    · exact ⟨cs, hx⟩⟩
  have hlive : ∀ i, Live ((id, .dead) :: objs) i → Live objs i := fun i ⟨ob, ho, hd⟩ => by
    rw [look_cons] at ho; split at ho
    · injection ho with ho; exact absurd ho.symm hd
    · exact ⟨ob, ho, hd⟩
  exact h.step (Nat.le_refl _) rfl rfl rfl (fun _ _ _ => rfl)
    (fun i ob ho hd => by
      rw [look_cons] at ho; split at ho
      · injection ho with ho; exact absurd ho.symm hd
      · exact ObRel.mono (fun _ _ _ hh => hh) (fun _ _ => rfl) hle (Nat.le_refl _) (h.lt i ⟨ob, ho, hd⟩) (fun _ _ => rfl) (h.ob i ob ho))
    (fun i hl => h.lt i (hlive i hl)) (fun i b hl hk => .inl ⟨i, hlive i hl, hk⟩) (fun i j b hi hj h1 h2 => h.inj i j b (hlive i hi) (hlive j hj) h1 h2)

/-- a new object -/
theorem HRel.fresh (h : HRel w0 F G ν objs nx w) (ob : Ob) (nu : Nu) (hsz : w.heap.size ≤ w'.heap.size) (hos : w'.os = w.os) (hout : w'.output = w.output) (htape : w'.tape = w.tape)
    (hch : ∀ b, b < w.heap.size → w'.heap[b]? = w.heap[b]?) (hb : ∀ b, nu.blk = some b → w.heap.size ≤ b)
    (hν : NuEq nx ν ν') (hnu : ν' nx = nu)
    (hnew : ObRel G ν' ((nx, ob) :: objs) (nx + 1) w' nx ob) : HRel w0 F G ν' ((nx, ob) :: objs) (nx + 1) w' := by
  have hle : ObjsLe nx objs ((nx, ob) :: objs) := fun i hi => ⟨fun e xs hx => by
    rw [look_cons, if_neg (by omega)] at hx; exact ⟨xs, hx, rfl⟩, fun cs hx => by
    rw [look_cons, if_neg (by omega)] at hx; exact ⟨cs, hx⟩⟩
  have hlive : ∀ i, Live ((nx, ob) :: objs) i → i = nx ∨ Live objs i := fun i ⟨o, ho, hd⟩ => by
    rw [look_cons] at ho; split at ho
    · rename_i e; exact .inl e.symm
    · exact .inr ⟨o, ho, hd⟩
  have hk : ∀ i b, Live ((nx, ob) :: objs) i → (ν' i).blk = some b → (i = nx ∧ w.heap.size ≤ b) ∨ (Live objs i ∧ (ν i).blk = some b ∧ b < w.heap.size) := fun i b hl hkk => by
    rcases hlive i hl with rfl | hl'
    · exact .inl ⟨rfl, hb b (by rw [← hnu]; exact hkk)⟩
    · have : (ν i).blk = some b := by rw [← hν i (h.lt i hl')]; exact hkk
      exact .inr ⟨hl', this, h.blk_lt hl' this⟩
  refine h.step hsz hos hout htape (fun b hb _ => hch b hb) (fun i o ho hd => ?_) (fun i hl => ?_) (fun i b hl hkk => ?_) (fun i j b hi hj h1 h2 => ?_)
  · rw [look_cons] at ho; split at ho
    · rename_i e; subst e; injection ho with ho; subst ho; exact hnew
    · have hl : Live objs i := ⟨o, ho, hd⟩
      exact ObRel.mono (fun _ _ _ hh => hh) hν hle (Nat.le_succ _) (h.lt i hl) (fun b hbb => hch b (h.blk_lt hl hbb)) (h.ob i o ho)
  · rcases hlive i hl with rfl | hl'
    · exact Nat.lt_succ_self _
    · exact Nat.lt_succ_of_lt (h.lt i hl')
  · rcases hk i b hl hkk with ⟨_, hge⟩ | ⟨hl', hb', _⟩
    · exact .inr hge
    · exact .inl ⟨i, hl', hb'⟩
  · rcases hk i b hi h1 with ⟨e1, g1⟩ | ⟨l1, k1, g1⟩ <;> rcases hk j b hj h2 with ⟨e2, g2⟩ | ⟨l2, k2, g2⟩
    · rw [e1, e2]
    · omega
    · omega
    · exact h.inj i j b l1 l2 k1 k2

theorem fresh_le (ob : Ob) : ObjsLe nx objs ((nx, ob) :: objs) := fun i hi => ⟨fun e xs hx => by
    rw [look_cons, if_neg (by omega)] at hx; exact ⟨xs, hx, rfl⟩, fun cs hx => by
    rw [look_cons, if_neg (by omega)] at hx; exact ⟨cs, hx⟩⟩

/-- an object is written in place -/
theorem HRel.turn (h : HRel w0 F G ν objs nx w) {id b : Nat} {ob ob' : Ob} (ho : look objs id = some ob) (hd : ob ≠ .dead) (hk : (ν id).blk = some b)
    (hsz : w'.heap.size = w.heap.size) (hos : w'.os = w.os) (hout : w'.output = w.output) (htape : w'.tape = w.tape) (hch : ∀ k, k ≠ b → w'.heap[k]? = w.heap[k]?)
    (hle : ObjsLe nx objs ((id, ob') :: objs)) (hnew : ObRel G ν ((id, ob') :: objs) nx w' id ob') : HRel w0 F G ν ((id, ob') :: objs) nx w' := by
  have hl0 : Live objs id := ⟨ob, ho, hd⟩
  have hlive : ∀ i, Live ((id, ob') :: objs) i → Live objs i := fun i ⟨o, hoo, hdd⟩ => by
    rw [look_cons] at hoo; split at hoo
    · rename_i e; subst e; exact hl0
    · exact ⟨o, hoo, hdd⟩
  refine h.step (by rw [hsz]; exact Nat.le_refl _) hos hout htape (fun k _ hno => hch k (fun e => hno ⟨id, hl0, by rw [e]; exact hk⟩)) (fun i o hoo hdd => ?_)
    (fun i hl => h.lt i (hlive i hl)) (fun i b hl hk => .inl ⟨i, hlive i hl, hk⟩) (fun i j b hi hj h1 h2 => h.inj i j b (hlive i hi) (hlive j hj) h1 h2)
  rw [look_cons] at hoo; split at hoo
  · rename_i e; subst e; injection hoo with hoo; subst hoo; exact hnew
  · rename_i hne
    have hl : Live objs i := ⟨o, hoo, hdd⟩
    exact ObRel.mono (fun _ _ _ hh => hh) (fun _ _ => rfl) hle (Nat.le_refl _) (h.lt i hl) (fun k hkk => hch k (fun e => hne (h.inj i id b hl hl0 (by rw [← e]; exact hkk) hk).symm)) (h.ob i o hoo)
end

/-! ### the frame's slots -/

section
variable {w0 : World} {F : Nat → Prop} {nt : Slots} {G0 G G' : GH} {ν ν' : Nat → Nu} {st : St} {a : Act} {w w' : World} {P : Program} {T : Tab}

theorem Rel.put (h : Rel w0 F nt G0 G ν st a w) {dst : Option Tmp} (hd : ∀ d, dst = some d → nt.Ok d) {x : AVal} {v : Value} (hx : AValRel G ν st.objs st.nx x v) : Rel w0 F nt G0 G ν (st.put dst x) (a.put dst v) w := by
  cases dst with
  | none => exact h
  | some d =>
    have hlt : d < a.tmps.size := by rw [h.ntm]; exact (hd d rfl).1
    refine ⟨h.defers, by simpa [Act.put] using h.ntm, fun p hp => ?_, fun i y hy => ?_, h.h, h.gx⟩
    · simp only [Act.put]; rw [Array.getElem?_setIfInBounds_ne (fun e => (hd d rfl).2 p hp e.symm)]; exact h.par p hp
    simp only [St.put] at hy
    rw [look_cons] at hy
    split at hy
    · rename_i e; subst e; injection hy with hy; subst hy
      exact ⟨v, by simp [Act.put, hlt], hx⟩
    · rename_i hne
      obtain ⟨u, hu, hr⟩ := h.env i y hy
      exact ⟨u, by simp only [Act.put]; rw [Array.getElem?_setIfInBounds_ne hne]; exact hu, hr⟩

/-- the frame stands, memory went on -/
theorem Rel.on (h : Rel w0 F nt G0 G ν st a w) {objs' : Objs} {nx' : Nat} (hg : GLe G G') (hn : NuEq st.nx ν ν') (ho : ObjsLe st.nx st.objs objs') (hx : st.nx ≤ nx')
    (hh : HRel w0 F G' ν' objs' nx' w') (gx : GExt w0.heap.size F G0 G') : Rel w0 F nt G0 G' ν' { env := st.env, objs := objs', nx := nx' } a w' :=
  ⟨h.defers, h.ntm, h.par, fun i y hy => by
    obtain ⟨u, hu, hr⟩ := h.env i y hy
    exact ⟨u, hu, AValRel.mono hg hn ho hx y u hr⟩, hh, gx⟩

def upd (ν : Nat → Nu) (i : Nat) (n : Nu) : Nat → Nu := fun j => if j = i then n else ν j
theorem upd_eq (ν : Nat → Nu) (i : Nat) (n : Nu) : NuEq i ν (upd ν i n) := fun j hj => by simp [upd]; omega
theorem upd_at (ν : Nat → Nu) (i : Nat) (n : Nu) : upd ν i n i = n := by simp [upd]

/-- a new object, and a slot that refers to it -/
theorem Rel.new (h : Rel w0 F nt G0 G ν st a w) {dst : Option Tmp} (hd : ∀ d, dst = some d → nt.Ok d) (ob : Ob) (nu : Nu) (x : AVal) (v : Value)
    (hsz : w.heap.size ≤ w'.heap.size) (hos : w'.os = w.os) (hout : w'.output = w.output) (htape : w'.tape = w.tape)
    (hch : ∀ b, b < w.heap.size → w'.heap[b]? = w.heap[b]?) (hb : ∀ b, nu.blk = some b → w.heap.size ≤ b)
    (hnew : ObRel G (upd ν st.nx nu) ((st.nx, ob) :: st.objs) (st.nx + 1) w' st.nx ob)
    (hv : AValRel G (upd ν st.nx nu) ((st.nx, ob) :: st.objs) (st.nx + 1) x v) :
    Rel w0 F nt G0 G (upd ν st.nx nu) (st.new dst ob x) (a.put dst v) w' := by
  have h1 := h.h.fresh ob nu hsz hos hout htape hch hb (upd_eq ν st.nx nu) (upd_at ν st.nx nu) hnew
  have h2 := h.on (fun _ _ _ hh => hh) (upd_eq ν st.nx nu) (fresh_le ob) (Nat.le_succ _) h1 h.gx
  exact h2.put hd hv
end
end Go.Sx

/- The abstract machine: new variables, literals, make, store. -/
namespace Go.Sx
set_option linter.unusedVariables false
set_option linter.unusedSimpArgs false

theorem cells_one {v : Value} (h : v.oneCell' = true) : v.cells = #[v] := by
  cases v <;> first | rfl | simp [Value.oneCell'] at h

section
variable {w0 : World} {F : Nat → Prop} {nt : Slots} {G0 G : GH} {ν : Nat → Nu} {objs : Objs} {nx : Nat} {st : St} {a : Act} {w w' : World} {P : Program} {T : Tab}

theorem zenc : ∀ (t : Ty), t.data = true → Enc G t t.dflt (zvals t)
  | .int _, _ => rfl
  | .bool, _ => rfl
  | .str, _ => rfl
  | .slice e, _ => ⟨_, rfl, .inl ⟨rfl, rfl⟩⟩
  | .own _, h => by simp [Ty.data] at h
  | .prod a b, h => by
    simp only [Ty.data, Bool.and_eq_true] at h
    exact ⟨_, _, rfl, zenc a h.1, zenc b h.2⟩

theorem zrel : ∀ (t : Ty), CellsRel G ν objs nx (zcells t) (zvals t)
  | .int _ => CellsRel.one rfl rfl
  | .bool => CellsRel.one rfl rfl
  | .str => CellsRel.one rfl rfl
  | .slice e => CellsRel.one rfl rfl
  | .own _ => CellsRel.one trivial rfl
  | .prod a b => (zrel a).append (zrel b)

theorem zvals_len : ∀ (t : Ty), (zvals t).length = t.size
  | .int _ | .bool | .str | .slice _ | .own _ => rfl
  | .prod a b => by simp [zvals, zvals_len a, zvals_len b, Ty.size]

theorem rep_len {α : Type} (l : List α) : ∀ n, (rep l n).length = n * l.length
  | 0 => by simp [rep]
  | n + 1 => by rw [rep, List.length_append, rep_len l n, Nat.succ_mul, Nat.add_comm]

theorem rep_enc {e : Ty} (h : e.data = true) : ∀ n, EncL (Enc G e) (List.replicate n e.dflt) (rep (zvals e) n)
  | 0 => rfl
  | n + 1 => ⟨_, _, rfl, zenc e h, rep_enc h n⟩

theorem run_zero {t : TypeId} {te : TE} (hte : TEok P T t te) : ∃ z, (zeroValue t).run P w = .ok z w ∧ z.cells.toList = te.cells := by
  obtain ⟨i, z, hi, _, hz, hc, _⟩ := hte.info
  exact ⟨z, by simp [zeroValue, run_typeInfo hi, hz], hc⟩

theorem plain_cells {te : TE} (h : te.plain = true) : te.cells = zvals te.ty := by
  unfold TE.plain at h; unfold TE.cells; split at h <;> simp_all

theorem heap_new (w : World) (o : Obj) : (w.alloc o).heap[w.heap.size]? = some o := heap_alloc_new w o

/-- a new box -/
theorem new_box (h : Rel w0 F nt G0 G ν st a w) {dst : Option Tmp} (hd : ∀ d, dst = some d → nt.Ok d) {cs : List Cell} {vs : Array Value} {t : TypeId} (hc : CellsRel G ν st.objs st.nx cs vs.toList) :
    ∃ ν', Rel w0 F nt G0 G ν' (st.new dst (.box cs) (.s (.one (.ptr st.nx 0)))) (a.put dst (.pointer (some ⟨w.heap.size, 0, none⟩))) (w.alloc (.cells vs t)) := by
  refine ⟨upd ν st.nx ⟨some w.heap.size, 0, 0⟩, h.new hd (.box cs) _ _ _ (by simp) rfl rfl rfl (fun b hb => heap_alloc_old w _ hb) (fun b hb => by injection hb with hb; omega) ?_ ?_⟩
  · exact ⟨w.heap.size, t, vs, by rw [upd_at], heap_new w _, hc.mono (fun _ _ _ hh => hh) (upd_eq _ _ _) (fresh_le _) (Nat.le_succ _)⟩
  · exact ⟨⟨Nat.lt_succ_self _, fun cs' _ => ⟨w.heap.size, by rw [upd_at], rfl⟩⟩, rfl⟩

/-- a new array of one's own -/
theorem new_arr (h : Rel w0 F nt G0 G ν st a w) {dst : Option Tmp} (hd : ∀ d, dst = some d → nt.Ok d) {e : Ty} {xs : List e.den} {cap : Nat} {vs : Array Value} {t : TypeId} {cs : List Value} (hx : xs.length ≤ cap) (hcap : cap ≤ maxLen)
    (hsz : vs.size = cap * e.size) (hc : EncL (Enc G e) xs cs) (hp : cs <+: vs.toList) (wd : World) (hwd : wd.heap = w.heap) (hos : wd.os = w.os) (hout : wd.output = w.output) (htape : wd.tape = w.tape) :
    (∃ ν', Rel w0 F nt G0 G ν' (st.new dst (.arr e xs) (.s (.one (.own st.nx)))) (a.put dst (.slice (some ⟨w.heap.size, 0, none⟩) xs.length cap)) (wd.alloc (.cells vs t))) ∧
    (∃ ν', Rel w0 F nt G0 G ν' (st.new dst (.arr e xs) (.s (.one (.aptr st.nx)))) (a.put dst (.pointer (some ⟨w.heap.size, 0, none⟩))) (wd.alloc (.cells vs t))) := by
  have key : ∀ (x : AVal) (v : Value), AValRel G (upd ν st.nx ⟨some w.heap.size, xs.length, cap⟩) ((st.nx, .arr e xs) :: st.objs) (st.nx + 1) x v →
      ∃ ν', Rel w0 F nt G0 G ν' (st.new dst (.arr e xs) x) (a.put dst v) (wd.alloc (.cells vs t)) := fun x v hv => by
    refine ⟨upd ν st.nx ⟨some w.heap.size, xs.length, cap⟩, h.new hd (.arr e xs) _ x v (by simp [hwd]) hos hout htape (fun b hb => by rw [← hwd] at hb ⊢; exact heap_alloc_old wd _ hb) (fun b hb => by injection hb with hb; omega) ?_ hv⟩
    refine ⟨by rw [upd_at], ?_⟩
    rw [upd_at]
    exact ⟨t, vs, cs, by rw [← hwd]; exact heap_new wd _, hx, hcap, hsz, hc, hp⟩
  refine ⟨key _ _ ⟨⟨Nat.lt_succ_self _, fun e' xs' hl => ?_⟩, rfl⟩, key _ _ ⟨⟨Nat.lt_succ_self _, fun e' xs' hl => ⟨w.heap.size, by rw [upd_at], rfl⟩⟩, rfl⟩⟩
  rw [upd_at]; rfl

theorem boxed_rel {x : AVal} {v : Value} {cs : List Cell} (hx : AValRel G ν objs nx x v) (hb : boxed x = some cs) : CellsRel G ν objs nx cs v.cells.toList ∧ ∀ u ∈ v.cells.toList, u.oneCell' = true := by
  cases x with
  | tup xs => simp [boxed] at hb
  | s y =>
    cases y with
    | one c =>
      simp [boxed] at hb; subst hb
      obtain ⟨h1, h2⟩ := hx
      rw [cells_one h2]
      exact ⟨CellsRel.one h1 h2, fun u hu => by simp at hu; subst hu; exact h2⟩
    | agg ds =>
      simp [boxed] at hb; subst hb
      obtain ⟨vs, rfl, h1⟩ := hx
      refine ⟨by simpa [Value.cells] using h1, fun u hu => ?_⟩
      simp [Value.cells] at hu
      obtain ⟨j, hj⟩ := List.getElem?_of_mem hu
      have hlt : j < ds.length := by rw [← h1.1]; exact (List.getElem?_eq_some_iff.1 hj).1
      exact (h1.2 j _ u (List.getElem?_eq_getElem hlt) hj).2

theorem run_newRow (t : TypeId) (vs : Array Value) : (newRow t vs).run P w = .ok ⟨w.heap.size, 0, none⟩ (w.alloc (.cells vs t)) := rfl

theorem splice_len {cs ds : List Cell} {off : Nat} (h : off + ds.length ≤ cs.length) : (splice cs off ds).length = cs.length := by
  simp [splice]; omega

theorem splice_rel {cs ds : List Cell} {vs us : List Value} {off : Nat} (hc : CellsRel G ν objs nx cs vs) (hd : CellsRel G ν objs nx ds us) :
    CellsRel G ν objs nx (splice cs off ds) (vs.take off ++ us ++ vs.drop (off + us.length)) := by
  rw [hd.1]
  exact ((hc.take off).append hd).append (hc.drop _)

/-! a literal -/
theorem foldl_set (us : List Value) : ∀ (off k : Nat) (cs : Array Value), off + k + us.length ≤ cs.size →
    ((us.zipIdx k).foldl (fun cs (c, j) => cs.setIfInBounds (off + j) c) cs).toList = cs.toList.take (off + k) ++ us ++ cs.toList.drop (off + k + us.length) := by
  induction us with
  | nil => intro off k cs h; simp
  | cons u us ih =>
    intro off k cs h
    simp only [List.zipIdx_cons, List.foldl_cons, List.length_cons] at h ⊢
    rw [ih off (k + 1) _ (by simp; omega)]
    have hlt : off + k < cs.toList.length := by simp; omega
    simp only [Array.toList_setIfInBounds]
    generalize cs.toList = l at *
    have e1 : (l.set (off + k) u).take (off + (k + 1)) = l.take (off + k) ++ [u] := by
      rw [← Nat.add_assoc, List.take_succ_eq_append_getElem (by simpa using hlt), List.take_set_of_le (Nat.le_refl _)]
      simp
    have e2 : (l.set (off + k) u).drop (off + (k + 1) + us.length) = l.drop (off + k + (us.length + 1)) := by
      rw [List.drop_set_of_lt (by omega)]
      congr 1; omega
    rw [e1, e2]
    simp
end
end Go.Sx

/- The abstract machine: the steps that make or turn memory, one by one. -/
namespace Go.Sx
set_option linter.unusedVariables false
set_option linter.unusedSimpArgs false

section
variable {w0 : World} {F : Nat → Prop} {nt : Slots} {G0 G : GH} {ν : Nat → Nu} {objs : Objs} {nx : Nat} {st st' : St} {a : Act} {w w' : World} {P : Program} {T : Tab}

/-- the state `st'` describes what is when the operation has been done -/
def Done (P : Program) (w0 : World) (F : Nat → Prop) (nt : Slots) (G0 : GH) (o : Oper) (a : Act) (w : World) (st' : St) : Prop :=
  ∃ n v w' G' ν', (execOp a.eval o).run P w = .ok n w' ∧ (n = .value v ∨ (n = .skip ∧ v = undef)) ∧ Rel w0 F nt G0 G' ν' st' (a.put o.dst v) w'

theorem parts_rel (hr : Rel w0 F nt G0 G ν st a w) : ∀ (l : List (Nat × Operand)) (ps : List (Nat × AVal)), evParts st l = some ps →
    ps.length = l.length ∧ ∀ (j : Nat) (p : Nat × AVal) (q : Nat × Operand), ps[j]? = some p → l[j]? = some q → p.1 = q.1 ∧ AValRel G ν st.objs st.nx p.2 (a.eval q.2)
  | [], ps, h => by simp [evParts] at h; subst h; exact ⟨rfl, fun j p q hp => by simp at hp⟩
  | (i, x) :: l, ps, h => by
    simp only [evParts] at h
    split at h
    · rename_i y ys h1 h2
      injection h with h; subst h
      obtain ⟨h3, h4⟩ := parts_rel hr l ys h2
      refine ⟨by simp [h3], fun j p q hp hq => ?_⟩
      cases j with
      | zero => simp at hp hq; subst hp hq; exact ⟨rfl, ev_rel hr x _ h1⟩
      | succ j => exact h4 j p q (by simpa using hp) (by simpa using hq)
    · simp at h

/-- what `fill` makes of parts, held against `fillC` -/
theorem fill_sound (hT : TabOk P T) {fs : List (Nat × TypeId)} {place : Nat → Option (Nat × Nat)}
    (hpl : ∀ (i off : Nat) (ft : TypeId) (te : TE), fs[i]? = some (off, ft) → look T ft = some te → place i = some (off, te.size)) (hpp : ∀ (i off : Nat) (ft : TypeId) (te : TE), fs[i]? = some (off, ft) → look T ft = some te → te.plain = true) :
    ∀ (l : List (Nat × AVal)) (ps : List (Nat × Value)) (cs cs' : List Cell) (vs : Array Value), CellsRel G ν objs nx cs vs.toList → ps.length = l.length →
      (∀ (j : Nat) (p : Nat × AVal) (q : Nat × Value), l[j]? = some p → ps[j]? = some q → p.1 = q.1 ∧ AValRel G ν objs nx p.2 q.2) → fillC T fs l cs = some cs' →
      ∃ vs', Instr.fill place vs ps = some vs' ∧ CellsRel G ν objs nx cs' vs'.toList
  | [], [], cs, cs', vs, hc, _, _, h => by simp [fillC] at h; subst h; exact ⟨vs, rfl, hc⟩
  | (i, x) :: l, [], _, _, _, _, hl, _, _ => by simp at hl
  | [], _ :: _, _, _, _, _, hl, _, _ => by simp at hl
  | (i, x) :: l, (i', v) :: ps, cs, cs', vs, hc, hl, hp, h => by
    obtain ⟨he, hx⟩ := hp 0 _ _ rfl rfl
    simp only at he hx; subst he
    simp only [fillC] at h
    split at h
    · rename_i off ft hf
      split at h
      · rename_i te ds hte hds
        split at h
        · rename_i hcond
          simp only [Bool.and_eq_true, decide_eq_true_eq] at hcond
          obtain ⟨h1, h2⟩ := hcond
          obtain ⟨h3, _⟩ := boxed_rel hx hds
          have hsz : v.cells.size = ds.length := by have := h3.1; simpa using this
          have hvs : vs.size = cs.length := by have := hc.1; simpa using this
          have hpte := hpp _ _ _ _ hf hte
          have hfold := foldl_set v.cells.toList off 0 vs (by simp; omega)
          simp only [Nat.add_zero, Array.length_toList] at hfold
          have hc' : CellsRel G ν objs nx (splice cs off ds) (v.cells.toList.zipIdx.foldl (fun cs (c, j) => cs.setIfInBounds (off + j) c) vs).toList := by
            rw [hfold]
            have := splice_rel (off := off) hc h3
            simpa using this
          obtain ⟨vs', h4, h5⟩ := fill_sound hT hpl hpp l ps _ cs' _ hc' (by simpa using hl) (fun j p q hj hq => hp (j + 1) p q (by simpa using hj) (by simpa using hq)) h
          refine ⟨vs', ?_, h5⟩
          simp only [Instr.fill, hpl _ _ _ _ hf hte]
          rw [if_neg (by rw [plain_size hpte]; simp; omega)]
          rw [← h4]
          congr 1
          rw [← Array.foldl_toList]
          simp
        · simp at h
      · simp at h
    · simp at h

theorem run_mapM_list {α β : Type} (f : α → Sem β) (g : α → β) : ∀ (l : List α), (∀ x ∈ l, (f x).run P w = .ok (g x) w) → (l.mapM f).run P w = .ok (l.map g) w
  | [], _ => by simp
  | x :: l, h => by
    simp only [List.mapM_cons, Sem.run_bind, h x (List.mem_cons_self ..), Result.andThen_ok, run_mapM_list f g l (fun y hy => h y (List.mem_cons_of_mem _ hy)), Sem.run_pure, List.map_cons]

theorem run_mapM_arr {α β : Type} (f : α → Sem β) (g : α → β) (l : Array α) (h : ∀ x ∈ l, (f x).run P w = .ok (g x) w) : (l.mapM f).run P w = .ok (l.map g) w := by
  rw [Array.mapM_eq_mapM_toList]
  simp only [Sem.run_map, run_mapM_list f g l.toList (fun x hx => h x (by simpa using hx)), Result.andThen_ok]
  congr 1
  apply Array.ext'
  simp

theorem build_done (hT : TabOk P T) (hr : Rel w0 F nt G0 G ν st a w) {o : Oper} (hd : ∀ d, o.dst = some d → nt.Ok d) {t : TypeId} {parts : Array (Nat × Operand)} (ho : o.op = .build t parts)
    {ty : Ty} {fs : List (Nat × TypeId)} {ps : List (Nat × AVal)} {cs : List Cell} (hl : look T t = some ⟨ty, true, .struct fs⟩) (hps : evParts st parts.toList = some ps) (hf : fillC T fs ps (zcells ty) = some cs)
    (hpl : ∀ f ∈ fs, ∃ te, look T f.2 = some te ∧ te.plain = true) :
    Done P w0 F nt G0 o a w (st.put o.dst (.s (.agg cs))) := by
  have hte := hT _ _ hl
  obtain ⟨_, fields, hu, hfs, _⟩ := hte.und
  obtain ⟨z, hz, hzc⟩ := run_zero (w := w) hte
  obtain ⟨h1, h2⟩ := parts_rel hr _ _ hps
  have hsz : ∀ f ∈ fields, ∃ te, look T f.type = some te ∧ te.plain = true := fun f hf => hpl (f.offset, f.type) (by rw [← hfs]; exact List.mem_map.2 ⟨f, by simpa using hf, rfl⟩)
  let sz : Field → Nat := fun f => match look T f.type with | some te => te.size | none => 0
  have hrun : (fields.mapM fun f => (do pure (f.offset, ← sizeOf f.type) : Sem (Nat × Nat))).run P w = .ok (fields.map fun f => (f.offset, sz f)) w := by
    refine run_mapM_arr _ (fun f => (f.offset, sz f)) fields (fun f hf => ?_)
    obtain ⟨te, hl', _⟩ := hsz f hf
    simp [sz, (hT _ _ hl').sizeOf, hl']
  have hplace : ∀ (i off : Nat) (ft : TypeId) (te : TE), fs[i]? = some (off, ft) → look T ft = some te → (fields.map fun f => (f.offset, sz f))[i]? = some (off, te.size) := fun i off ft te hi hl' => by
    rw [← hfs] at hi
    simp only [List.getElem?_map, Array.getElem?_toList] at hi
    cases hfd : fields[i]? with
    | none => simp [hfd] at hi
    | some fd =>
      simp [hfd] at hi
      obtain ⟨e1, e2⟩ := hi
      subst e1 e2
      simp [hfd, sz, hl']
  have hzrel : CellsRel G ν st.objs st.nx (zcells ty) z.cells.toList := by
    rw [hzc]; exact zrel ty
  obtain ⟨vs', h3, h4⟩ := fill_sound hT hplace (fun i off ft te hi hl' => by
      obtain ⟨te', h5, h6⟩ := hpl _ (List.mem_of_getElem? hi)
      simp only at h5
      rw [h5] at hl'; injection hl' with hl'; subst hl'; exact h6) ps (parts.toList.map fun p => (p.1, a.eval p.2)) _ cs z.cells hzrel (by simp [h1]) (fun j p q hp hq => by
      simp only [List.getElem?_map] at hq
      cases hq' : parts.toList[j]? with
      | none => simp only [Array.getElem?_toList] at hq'; simp [hq'] at hq
      | some q' =>
        rw [hq'] at hq
        simp at hq; subst hq
        exact h2 j p q' hp hq') hf
  refine ⟨.value (.agg vs'), .agg vs', w, G, ν, ?_, .inl rfl, hr.put hd ⟨vs'.toList, by simp, h4⟩⟩
  simp only [execOp, ho, Instr.build, Sem.run_bind, hz, Result.andThen_ok, run_underlying hu, hrun]
  have : (parts.map fun x => match x with | (i, x) => (i, a.eval x)).toList = parts.toList.map fun p => (p.1, a.eval p.2) := by simp
  rw [this, h3]
  rfl

theorem alloc_done (hT : TabOk P T) (hr : Rel w0 F nt G0 G ν st a w) {o : Oper} (hd : ∀ d, o.dst = some d → nt.Ok d) {t : TypeId} (ho : o.op = .alloc t) {te : TE} (hl : look T t = some te) (hp : te.plain = true) :
    Done P w0 F nt G0 o a w (st.new o.dst (.box (zcells te.ty)) (.s (.one (.ptr st.nx 0)))) := by
  obtain ⟨z, hz, hzc⟩ := run_zero (w := w) (hT _ _ hl)
  obtain ⟨ν', h⟩ := new_box (t := t) (vs := z.cells) hr hd (cs := zcells te.ty) (by rw [hzc, plain_cells hp]; exact zrel _)
  refine ⟨_, _, _, G, ν', ?_, .inl rfl, h⟩
  simp only [execOp, ho, Instr.alloc, Sem.run_bind, hz, Result.andThen_ok, newVar, run_newRow, Sem.run_pure]

theorem allocArr_done (hT : TabOk P T) (hr : Rel w0 F nt G0 G ν st a w) {o : Oper} (hd : ∀ d, o.dst = some d → nt.Ok d) {t : TypeId} (ho : o.op = .alloc t) {e : Ty} {n : Nat} {et : TypeId} (hl : look T t = some ⟨e, true, .arr n et⟩) (hdata : e.data = true) (hroom : room n = true) :
    Done P w0 F nt G0 o a w (st.new o.dst (.arr e (List.replicate n e.dflt)) (.s (.one (.aptr st.nx)))) := by
  obtain ⟨z, hz, hzc⟩ := run_zero (w := w) (hT _ _ hl)
  have hn : n ≤ maxLen := by simp [room] at hroom; unfold maxLen; omega
  have hlen : z.cells.size = n * e.size := by
    rw [← Array.length_toList, hzc]
    simp only [TE.cells, rep_len, zvals_len]
  obtain ⟨_, ν', h⟩ := new_arr (t := t) (vs := z.cells) hr hd (e := e) (xs := List.replicate n e.dflt) (cap := n) (cs := rep (zvals e) n) (by simp) hn hlen (rep_enc hdata n) (by rw [hzc]; exact List.prefix_refl _) w rfl rfl rfl rfl
  refine ⟨_, _, _, G, ν', ?_, .inl rfl, h⟩
  simp only [execOp, ho, Instr.alloc, Sem.run_bind, hz, Result.andThen_ok, newVar, run_newRow, Sem.run_pure]

theorem box_done (hr : Rel w0 F nt G0 G ν st a w) {o : Oper} (hd : ∀ d, o.dst = some d → nt.Ok d) {t : TypeId} {x : Operand} (ho : o.op = .box t x) {v : AVal} {cs : List Cell} (hv : ev st x = some v) (hb : boxed v = some cs) :
    Done P w0 F nt G0 o a w (st.new o.dst (.box cs) (.s (.one (.ptr st.nx 0)))) := by
  obtain ⟨h1, _⟩ := boxed_rel (ev_rel hr x _ hv) hb
  obtain ⟨ν', h⟩ := new_box (t := t) hr hd h1
  refine ⟨_, _, _, G, ν', ?_, .inl rfl, h⟩
  simp only [execOp, ho, Instr.box, Sem.run_bind, Result.andThen_ok, newVar, run_newRow, Sem.run_pure]

theorem pure_done (hT : TabOk P T) (hr : Rel w0 F nt G0 G ν st a w) {o : Oper} (hd : ∀ d, o.dst = some d → nt.Ok d) {r : AVal} (h : pureOp T st o.op = some (true, r)) : Done P w0 F nt G0 o a w (st.put o.dst r) := by
  obtain ⟨v, h1, h2⟩ := pure_sound hT hr h
  exact ⟨_, v, w, G, ν, h1, .inl rfl, hr.put hd h2⟩
end
end Go.Sx

/- The abstract machine: data with memory of its own, at values; what cells hold as data. -/
namespace Go.Sx
set_option linter.unusedVariables false
set_option linter.unusedSimpArgs false

/-- an array of one's own at a header -/
def NuOwn (G : GH) (w : World) (nu : Nu) (e : Ty) (xs : List e.den) : Prop :=
  xs.length = nu.len ∧ match nu.blk with
    | none => xs = []
    | some b => ∃ T vs cs, w.heap[b]? = some (.cells vs T (0, 0)) ∧ xs.length ≤ nu.cap ∧ nu.cap ≤ maxLen ∧ vs.size = nu.cap * e.size ∧
        EncL (Enc G e) xs cs ∧ cs <+: vs.toList

def TyRel (G : GH) (w : World) : (t : Ty) → t.den → List Value → List Nu → Prop
  | .own e, xs, vs, ns => ∃ nu, ns = [nu] ∧ vs = [nu.hdr] ∧ NuOwn G w nu e xs
  | .prod a b, d, vs, ns => ∃ v1 v2 n1 n2, vs = v1 ++ v2 ∧ ns = n1 ++ n2 ∧ TyRel G w a d.1 v1 n1 ∧ TyRel G w b d.2 v2 n2
  | .int k, d, vs, ns => ns = [] ∧ Enc G (.int k) d vs
  | .bool, d, vs, ns => ns = [] ∧ Enc G .bool d vs
  | .str, d, vs, ns => ns = [] ∧ Enc G .str d vs
  | .slice e, d, vs, ns => ns = [] ∧ Enc G (.slice e) d vs

theorem TyRel_data {G : GH} {w : World} : ∀ (t : Ty) (d : t.den) (vs : List Value) (ns : List Nu), t.data = true → TyRel G w t d vs ns → Enc G t d vs ∧ ns = []
  | .own e, xs, vs, ns, h, _ => by simp [Ty.data] at h
  | .prod a b, d, vs, ns, h, ⟨v1, v2, n1, n2, h1, h2, h3, h4⟩ => by
    simp only [Ty.data, Bool.and_eq_true] at h
    obtain ⟨e1, e2⟩ := TyRel_data a _ _ _ h.1 h3
    obtain ⟨e3, e4⟩ := TyRel_data b _ _ _ h.2 h4
    exact ⟨⟨v1, v2, h1, e1, e3⟩, by rw [h2, e2, e4]; rfl⟩
  | .int k, d, vs, ns, _, h => ⟨h.2, h.1⟩
  | .bool, d, vs, ns, _, h => ⟨h.2, h.1⟩
  | .str, d, vs, ns, _, h => ⟨h.2, h.1⟩
  | .slice e, d, vs, ns, _, h => ⟨h.2, h.1⟩

theorem TyRel_len {G : GH} {w : World} : ∀ (t : Ty) (d : t.den) (vs : List Value) (ns : List Nu), TyRel G w t d vs ns → vs.length = t.size
  | .own e, xs, vs, ns, ⟨nu, _, h, _⟩ => by rw [h]; rfl
  | .prod a b, d, vs, ns, ⟨v1, v2, n1, n2, h1, h2, h3, h4⟩ => by
    rw [h1, List.length_append, TyRel_len a _ _ _ h3, TyRel_len b _ _ _ h4]; rfl
  | .int k, d, vs, ns, h => Enc_len _ _ _ h.2
  | .bool, d, vs, ns, h => Enc_len _ _ _ h.2
  | .str, d, vs, ns, h => Enc_len _ _ _ h.2
  | .slice e, d, vs, ns, h => Enc_len _ _ _ h.2

def blks (ns : List Nu) : List Nat := ns.filterMap (·.blk)

theorem castTo_some {t t' : Ty} {d : t.den} {d' : t'.den} (h : castTo t t' d = some d') : ∃ e : t = t', e ▸ d = d' := by
  unfold castTo at h
  split at h
  · rename_i e; injection h with h; exact ⟨e, h⟩
  · simp at h

section
variable {G G' : GH} {ν : Nat → Nu} {objs : Objs} {nx : Nat} {w : World}

/-- what is lent of the objects can be read as memory that stands still -/
def Lent (G' : GH) (ν : Nat → Nu) (objs : Objs) (l : List Nat) : Prop := ∀ id ∈ l, ∀ e xs, look objs id = some (.arr e xs) → ∀ b, (ν id).blk = some b → ∃ cs, EncL (Enc G' e) xs cs ∧ Stored G' b 0 cs

theorem Lent.mono {l m : List Nat} (h : Lent G' ν objs m) (hs : ∀ i ∈ l, i ∈ m) : Lent G' ν objs l := fun id hid => h id (hs id hid)

theorem NuOwn.mono {nu : Nu} {e : Ty} {xs : List e.den} (hg : GLe G G') (h : NuOwn G w nu e xs) : NuOwn G' w nu e xs := by
  obtain ⟨h1, h2⟩ := h
  refine ⟨h1, ?_⟩
  cases hk : nu.blk with
  | none => simpa [hk] using h2
  | some b =>
    simp only [hk] at h2
    obtain ⟨TT, vs, cs, h3, h4, h5, h6, h7, h8⟩ := h2
    exact ⟨TT, vs, cs, h3, h4, h5, h6, EncL_mono (fun x c hc => Enc_mono hg e x c hc) _ _ h7, h8⟩

theorem own_slice (hg : GLe G G') {id : Nat} {e : Ty} {xs : List e.den} (ho : ObRel G ν objs nx w id (.arr e xs)) (hl : Lent G' ν objs [id]) (hk : look objs id = some (.arr e xs)) : SlRel G' (Enc G' e) xs (ν id).hdr := by
  obtain ⟨h1, h2⟩ := ho
  unfold Nu.hdr
  cases hb : (ν id).blk with
  | none => simp only [hb] at h2; exact .inl ⟨rfl, h2⟩
  | some b =>
    simp only [hb] at h2
    obtain ⟨TT, vs, cs, h3, h4, h5, h6, h7, h8⟩ := h2
    obtain ⟨cs', h9, h10⟩ := hl id (by simp) e xs hk b hb
    exact .inr <| .inl ⟨b, 0, (ν id).cap, cs', by rw [h1], h4, h5, h9, h10⟩

theorem CellsRel.single {c : Cell} {vs : List Value} (h : CellsRel G ν objs nx [c] vs) : ∃ v, vs = [v] ∧ CellRel G ν objs nx c v ∧ v.oneCell' = true := by
  obtain ⟨h1, h2⟩ := h
  match vs, h1 with
  | [v], _ => exact ⟨v, rfl, h2 0 c v rfl rfl⟩

theorem foldS_rel {t : Ty} {c : Cell} {d : t.den} {v : Value} (hg : GLe G G') (h : CellRel G ν objs nx c v) (hf : foldS t c = some d) : Enc G' t d [v] := by
  unfold foldS at hf
  split at hf
  · obtain ⟨e, hd⟩ := castTo_some hf
    subst e
    simp only at hd; subst hd
    exact Enc_mono hg _ _ _ h
  · simp at hf

theorem foldC_rel (hg : GLe G G') (hob : ∀ id ob, look objs id = some ob → ObRel G ν objs nx w id ob) : ∀ (t : Ty) (cs : List Cell) (vs : List Value) (d : t.den) (m l : List Nat), CellsRel G ν objs nx cs vs → Lent G' ν objs l →
    foldC t cs objs = some (d, m, l) → ∃ ns, TyRel G' w t d vs ns ∧ blks ns = m.filterMap (fun id => (ν id).blk) ∧ (∀ i ∈ m, Live objs i) ∧ (∀ i ∈ l, Live objs i)
  | .prod a b, cs, vs, d, m, l, hc, hl, h => by
    simp only [foldC] at h
    split at h
    · rename_i x m1 l1 y m2 l2 h1 h2
      simp only [Option.some.injEq, Prod.mk.injEq] at h
      obtain ⟨rfl, rfl, rfl⟩ := h
      obtain ⟨n1, h3, h4, h5, h5'⟩ := foldC_rel hg hob a _ (vs.take a.size) x m1 l1 (hc.take _) (hl.mono (by simp; intro i hi; exact .inl hi)) h1
      obtain ⟨n2, h6, h7, h8, h8'⟩ := foldC_rel hg hob b _ (vs.drop a.size) y m2 l2 (hc.drop _) (hl.mono (by simp; intro i hi; exact .inr hi)) h2
      refine ⟨n1 ++ n2, ⟨_, _, n1, n2, (List.take_append_drop a.size vs).symm, rfl, h3, h6⟩, ?_, ?_, ?_⟩
      · simp only [blks, List.filterMap_append] at h4 h7 ⊢; rw [h4, h7]
      · intro i hi; rcases List.mem_append.1 hi with hi | hi
        · exact h5 i hi
        · exact h8 i hi
      · intro i hi; rcases List.mem_append.1 hi with hi | hi
        · exact h5' i hi
        · exact h8' i hi
    · simp at h
  | .own e, cs, vs, d, m, l, hc, hl, h => by
    simp only [foldC] at h
    split at h
    · rename_i id
      split at h
      · rename_i e' xs ho
        cases hcast : castTo (.own e') (.own e) xs with
        | none => simp [hcast] at h
        | some ys =>
          simp only [hcast, Option.map_some, Option.some.injEq, Prod.mk.injEq] at h
          obtain ⟨rfl, rfl, rfl⟩ := h
          obtain ⟨he, hy⟩ := castTo_some hcast
          injection he with he; subst he
          simp only at hy; subst hy
          obtain ⟨v, rfl, ⟨_, hv⟩, _⟩ := hc.single
          have hv := hv _ _ ho; subst hv
          refine ⟨[ν id], ⟨ν id, rfl, rfl, NuOwn.mono hg (hob _ _ ho)⟩, ?_, ?_, by simp⟩
          · simp [blks, List.filterMap_cons]
          · intro i hi; simp at hi; subst hi; exact ⟨_, ho, by simp⟩
      · simp at h
    · simp only [Option.some.injEq, Prod.mk.injEq] at h
      obtain ⟨rfl, rfl, rfl⟩ := h
      obtain ⟨v, rfl, hv, _⟩ := hc.single
      simp only [CellRel] at hv; subst hv
      exact ⟨[⟨none, 0, 0⟩], ⟨_, rfl, rfl, rfl, rfl⟩, rfl, by simp, by simp⟩
    · simp at h
  | .slice e, cs, vs, d, m, l, hc, hl, h => by
    simp only [foldC] at h
    split at h
    · rename_i id
      split at h
      · rename_i e' xs ho
        cases hcast : castTo (.slice e') (.slice e) xs with
        | none => simp [hcast] at h
        | some ys =>
          simp only [hcast, Option.map_some, Option.some.injEq, Prod.mk.injEq] at h
          obtain ⟨rfl, rfl, rfl⟩ := h
          obtain ⟨he, hy⟩ := castTo_some hcast
          injection he with he; subst he
          simp only at hy; subst hy
          obtain ⟨v, rfl, ⟨_, hv⟩, _⟩ := hc.single
          have hv := hv _ _ ho; subst hv
          refine ⟨[], ⟨rfl, _, rfl, own_slice hg (hob _ _ ho) hl ho⟩, rfl, by simp, ?_⟩
          intro i hi; simp at hi; subst hi; exact ⟨_, ho, by simp⟩
      · simp at h
    · simp only [Option.some.injEq, Prod.mk.injEq] at h
      obtain ⟨rfl, rfl, rfl⟩ := h
      obtain ⟨v, rfl, hv, _⟩ := hc.single
      simp only [CellRel] at hv; subst hv
      exact ⟨[], ⟨rfl, _, rfl, .inl ⟨rfl, rfl⟩⟩, rfl, by simp, by simp⟩
    · rename_i c _ _
      cases hf : foldS (.slice e) c with
      | none => simp [hf] at h
      | some x =>
        simp only [hf, Option.map_some, Option.some.injEq, Prod.mk.injEq] at h
        obtain ⟨rfl, rfl, rfl⟩ := h
        obtain ⟨v, rfl, hv, _⟩ := hc.single
        exact ⟨[], ⟨rfl, foldS_rel hg hv hf⟩, rfl, by simp, by simp⟩
    · simp at h
  | .int k, cs, vs, d, m, l, hc, hl, h => by
    simp only [foldC] at h
    split at h
    · rename_i c
      cases hf : foldS (.int k) c with
      | none => simp [hf] at h
      | some x =>
        simp only [hf, Option.map_some, Option.some.injEq, Prod.mk.injEq] at h
        obtain ⟨rfl, rfl, rfl⟩ := h
        obtain ⟨v, rfl, hv, _⟩ := hc.single
        exact ⟨[], ⟨rfl, foldS_rel hg hv hf⟩, rfl, by simp, by simp⟩
    · simp at h
  | .bool, cs, vs, d, m, l, hc, hl, h => by
    simp only [foldC] at h
    split at h
    · rename_i c
      cases hf : foldS .bool c with
      | none => simp [hf] at h
      | some x =>
        simp only [hf, Option.map_some, Option.some.injEq, Prod.mk.injEq] at h
        obtain ⟨rfl, rfl, rfl⟩ := h
        obtain ⟨v, rfl, hv, _⟩ := hc.single
        exact ⟨[], ⟨rfl, foldS_rel hg hv hf⟩, rfl, by simp, by simp⟩
    · simp at h
  | .str, cs, vs, d, m, l, hc, hl, h => by
    simp only [foldC] at h
    split at h
    · rename_i c
      cases hf : foldS .str c with
      | none => simp [hf] at h
      | some x =>
        simp only [hf, Option.map_some, Option.some.injEq, Prod.mk.injEq] at h
        obtain ⟨rfl, rfl, rfl⟩ := h
        obtain ⟨v, rfl, hv, _⟩ := hc.single
        exact ⟨[], ⟨rfl, foldS_rel hg hv hf⟩, rfl, by simp, by simp⟩
    · simp at h

theorem foldC_enc (hob : ∀ id ob, look objs id = some ob → ObRel G ν objs nx w id ob) {t : Ty} {cs : List Cell} {vs : List Value} {d : t.den} (hc : CellsRel G ν objs nx cs vs) (ht : t.data = true) (h : foldC t cs objs = some (d, [], [])) : Enc G t d vs := by
  obtain ⟨ns, h1, _⟩ := foldC_rel (G' := G) (fun _ _ _ hh => hh) hob t cs vs d [] [] hc (fun id hid => by simp at hid) h
  exact (TyRel_data t d vs ns ht h1).1
end
end Go.Sx

/- The abstract machine: memory that is read alone from now on. -/
namespace Go.Sx
set_option linter.unusedVariables false
set_option linter.unusedSimpArgs false

section
variable {w0 : World} {F : Nat → Prop} {nt : Slots} {G0 G G' : GH} {ν ν' : Nat → Nu} {objs objs' : Objs} {nx nx' : Nat} {st st' : St} {a : Act} {w w' : World} {P : Program} {T : Tab} {Γ : Ctx}

theorem elemN_iff' (i : Nat) : ∀ (l : List Nat), elemN i l = true ↔ i ∈ l
  | [] => by simp [elemN]
  | j :: l => by
    simp only [elemN, Bool.or_eq_true, elemN_iff' i l, List.mem_cons]
    constructor
    · rintro (h | h)
      · exact .inl (Nat.eq_of_beq_eq_true h)
      · exact .inr h
    · rintro (h | h)
      · exact .inl (by subst h; exact Nat.beq_refl i)
      · exact .inr h

/-- memory that is never turned again: what a slice of one's own holds is from now on read alone -/
theorem HRel.freeze (h : HRel w0 F G ν objs nx w) (gx : GExt w0.heap.size F G0 G) {id : Nat} {e : Ty} {xs : List e.den} (ho : look objs id = some (.arr e xs)) :
    ∃ G1, GLe G G1 ∧ HRel w0 F G1 ν ((id, .dead) :: objs) nx w ∧ GExt w0.heap.size F G0 G1 ∧ SlRel G1 (Enc G1 e) xs (ν id).hdr := by
  have hlive : Live objs id := ⟨_, ho, by simp⟩
  obtain ⟨G1, hG1⟩ : ∃ G1 : GH, G1 = fun b off => if (ν id).blk = some b then w.cell? ⟨b, off, none⟩ else G b off := ⟨_, rfl⟩
  have hgle : GLe G G1 := fun b off v hv => by
    rw [hG1]; simp only
    split
    · rename_i hb; rw [h.gf id b hlive hb off] at hv; cases hv
    · exact hv
  have hg : ∀ b off v, G1 b off = some v → w.cell? ⟨b, off, none⟩ = some v := fun b off v hv => by
    rw [hG1] at hv; simp only at hv
    split at hv
    · exact hv
    · exact h.g b off v hv
  have hl : ∀ j ob, look ((id, Ob.dead) :: objs) j = some ob → ob ≠ .dead → j ≠ id ∧ look objs j = some ob := fun j ob hj hd => by
    rw [look_cons] at hj
    split at hj
    · injection hj with hj; exact absurd hj.symm hd
    · rename_i hne; exact ⟨fun e => hne e.symm, hj⟩
  have hll : ∀ j, Live ((id, Ob.dead) :: objs) j → j ≠ id ∧ Live objs j := fun j ⟨ob, h1, h2⟩ => let ⟨h3, h4⟩ := hl j ob h1 h2; ⟨h3, ob, h4, h2⟩
  have hle : ObjsLe nx objs ((id, Ob.dead) :: objs) := fun j _ => by
    refine ⟨fun e xs hj => ?_, fun cs hj => ?_⟩
    · exact ⟨xs, (hl j _ hj (by simp)).2, rfl⟩
    · exact ⟨cs, (hl j _ hj (by simp)).2⟩
  refine ⟨G1, hgle, ?_, ?_, ?_⟩
  · exact {
      g := hg
      ob := fun j ob hj => by
        by_cases hd : ob = .dead
        · subst hd; trivial
        · obtain ⟨hne, hj⟩ := hl j ob hj hd
          exact ObRel.mono hgle (fun _ _ => rfl) hle (Nat.le_refl _) (h.lt j ⟨ob, hj, hd⟩) (fun b hb => rfl) (h.ob j ob hj)
      gf := fun j b hj hb off => by
        obtain ⟨hne, hj⟩ := hll j hj
        rw [hG1]; simp only
        rw [if_neg (fun hb' => hne (h.inj j id b hj hlive hb hb'))]
        exact h.gf j b hj hb off
      inj := fun j j' b hj hj' => h.inj j j' b (hll j hj).2 (hll j' hj').2
      own := fun j b hj => h.own j b (hll j hj).2
      lt := fun j hj => h.lt j (hll j hj).2
      frame := h.frame
      size := h.size
      os := h.os
      output := h.output
      tape := h.tape }
  · refine ⟨fun b o v hv => hgle b o v (gx.le b o v hv), fun b o v hv => ?_⟩
    rw [hG1] at hv; simp only at hv
    split at hv
    · rename_i hb; exact .inr (h.own id b hlive hb)
    · exact gx.new b o v hv
  · refine own_slice hgle (h.ob id _ ho) (fun i hi e' ys hlo b hb => ?_) ho
    simp at hi; subst hi
    obtain ⟨_, hoo⟩ := h.ob _ _ hlo
    simp only [hb] at hoo
    obtain ⟨TT, us, cs, h3, h4, h5, h6, h7, h8⟩ := hoo
    refine ⟨cs, EncL_mono (fun x c hc => Enc_mono hgle e' x c hc) _ _ h7, fun j v hj => ?_⟩
    rw [hG1]; simp only
    rw [if_pos hb, Nat.zero_add, cell_of_row w b j us TT (0, 0) h3]
    obtain ⟨tl, htl⟩ := h8
    have : us.toList[j]? = some v := by rw [← htl, List.getElem?_append_left (List.getElem?_eq_some_iff.1 hj).1]; exact hj
    simpa using this

theorem kill_le (id : Nat) : ObjsLe nx objs ((id, Ob.dead) :: objs) := fun j _ => by
  have hl : ∀ ob, look ((id, Ob.dead) :: objs) j = some ob → ob ≠ .dead → look objs j = some ob := fun ob hj hd => by
    rw [look_cons] at hj
    split at hj
    · injection hj with hj; exact absurd hj.symm hd
    · exact hj
  exact ⟨fun e xs hj => ⟨xs, hl _ hj (by simp), rfl⟩, fun cs hj => ⟨cs, hl _ hj (by simp)⟩⟩

theorem kill_look : ∀ (l : List Nat) (id : Nat) (ob : Ob), look (kill objs l) id = some ob → ob ≠ .dead → look objs id = some ob
  | [], _, _, h, _ => h
  | i :: l, id, ob, h, hd => by
    simp only [kill] at h
    rw [look_cons] at h
    split at h
    · injection h with h; exact absurd h.symm hd
    · exact kill_look l id ob h hd

theorem kill_leL (l : List Nat) : ObjsLe nx objs (kill objs l) := fun j _ =>
  ⟨fun e xs hj => ⟨xs, kill_look l j _ hj (by simp), rfl⟩, fun cs hj => ⟨cs, kill_look l j _ hj (by simp)⟩⟩

theorem SlRel.mono {e : Ty} {xs : List e.den} {v : Value} (hg : GLe G G') (h : SlRel G (Enc G e) xs v) : SlRel G' (Enc G' e) xs v := by
  obtain ⟨u, hu, hr⟩ := Enc_mono hg (.slice e) xs [v] ⟨v, rfl, h⟩
  injection hu with hu; subst hu; exact hr

theorem HRel.freezeL (h : HRel w0 F G ν objs nx w) (gx : GExt w0.heap.size F G0 G) : ∀ (l : List Nat), ∃ G1, GLe G G1 ∧ HRel w0 F G1 ν (Sx.kill objs l) nx w ∧ GExt w0.heap.size F G0 G1 ∧
    ∀ id ∈ l, ∀ (e : Ty) (xs : List e.den), look objs id = some (.arr e xs) → SlRel G1 (Enc G1 e) xs (ν id).hdr
  | [] => ⟨G, fun _ _ _ hh => hh, h, gx, by simp⟩
  | i :: l => by
    obtain ⟨G1, h1, h2, h3, h4⟩ := HRel.freezeL h gx l
    simp only [Sx.kill]
    have hcase : (∃ (e : Ty) (xs : List e.den), look (Sx.kill objs l) i = some (.arr e xs)) ∨ ∀ (e : Ty) (xs : List e.den), look (Sx.kill objs l) i ≠ some (.arr e xs) := by
      cases hl : look (Sx.kill objs l) i with
      | none => exact .inr fun e xs hh => by cases hh
      | some ob =>
        cases ob with
        | arr e xs => exact .inl ⟨e, xs, rfl⟩
        | box cs => exact .inr fun e xs hh => by cases hh
        | dead => exact .inr fun e xs hh => by cases hh
    rcases hcase with ⟨e, xs, hl⟩ | hn
    · obtain ⟨G2, g1, g2, g3, g4⟩ := h2.freeze h3 hl
      refine ⟨G2, fun b o v hv => g1 b o v (h1 b o v hv), g2, g3, fun id hid e' xs' hl' => ?_⟩
      by_cases hm : id ∈ l
      · exact (h4 id hm e' xs' hl').mono g1
      · rcases List.mem_cons.1 hid with rfl | hid
        · have := kill_look l id _ hl (by simp)
          rw [this] at hl'
          injection hl' with hl'
          injection hl' with he hx
          subst he
          have hx := eq_of_heq hx; subst hx
          exact g4
        · exact absurd hid hm
    · refine ⟨G1, h1, h2.kill i, h3, fun id hid e' xs' hl' => ?_⟩
      by_cases hm : id ∈ l
      · exact h4 id hm e' xs' hl'
      · rcases List.mem_cons.1 hid with rfl | hid
        · have key : ∀ (l : List Nat), id ∉ l → look (Sx.kill objs l) id = look objs id := by
            intro l
            induction l with
            | nil => intro _; rfl
            | cons j l ih =>
              intro hm
              simp only [Sx.kill]
              rw [look_cons, if_neg (fun e => hm (by rw [e]; exact List.mem_cons_self ..))]
              exact ih fun hh => hm (List.mem_cons_of_mem _ hh)
          exact absurd ((key l hm).trans hl') (hn e' xs')
        · exact absurd hid hm

/-- what a freeze gives -/
structure Frz (w0 : World) (F : Nat → Prop) (nt : Slots) (G0 G : GH) (ν : Nat → Nu) (st : St) (l : List Nat) (a : Act) (w : World) (G1 : GH) : Prop where
  le : GLe G G1
  rel : Rel w0 F nt G0 G1 ν { env := st.env, objs := kill st.objs l, nx := st.nx } a w
  sl : ∀ id ∈ l, ∀ (e : Ty) (xs : List e.den), look st.objs id = some (.arr e xs) → SlRel G1 (Enc G1 e) xs (ν id).hdr

theorem Rel.frz (h : Rel w0 F nt G0 G ν st a w) (l : List Nat) : ∃ G1, Frz w0 F nt G0 G ν st l a w G1 := by
  obtain ⟨G1, h1, h2, h3, h4⟩ := h.h.freezeL h.gx l
  exact ⟨G1, h1, h.on h1 (fun _ _ => rfl) (kill_leL l) (Nat.le_refl _) h2 h3, h4⟩

theorem Frz.cell {l : List Nat} {G1 : GH} (h : Frz w0 F nt G0 G ν st l a w G1) : ∀ (c : Cell) (v : Value), CellRel G ν st.objs st.nx c v → CellRel G1 ν (kill st.objs l) st.nx (frzCell st.objs l c) v := by
  have mono := fun c v (hc : CellRel G ν st.objs st.nx c v) => CellRel.mono (G' := G1) (ν' := ν) (objs' := kill st.objs l) (nx' := st.nx) h.le (fun _ _ => rfl) (kill_leL l) (Nat.le_refl _) c v hc
  intro c v hc
  cases c with
  | own id =>
    simp only [frzCell]
    cases he : elemN id l with
    | false => exact mono _ v hc
    | true =>
      simp only [cond_true]
      have hm := (elemN_iff' id l).1 he
      split
      · rename_i e xs ho
        obtain ⟨_, hv⟩ := hc
        rw [hv e xs ho]
        exact ⟨_, rfl, h.sl id hm e xs ho⟩
      · trivial
  | val t d => exact mono _ v hc
  | nils => exact mono _ v hc
  | aptr id => exact mono _ v hc
  | ptr id off => exact mono _ v hc
  | eptr id i off => exact mono _ v hc
  | rptr t d off => exact mono _ v hc
  | clos f caps => exact mono _ v hc
  | junk => trivial

theorem Frz.val {l : List Nat} {G1 : GH} (h : Frz w0 F nt G0 G ν st l a w G1) : ∀ (x : AVal) (v : Value), AValRel G ν st.objs st.nx x v → AValRel G1 ν (kill st.objs l) st.nx (frzVal st.objs l x) v
  | .s (.one c), v, hx => ⟨h.cell c v hx.1, hx.2⟩
  | .s (.agg cs), v, ⟨vs, he, h1, h2⟩ => by
    refine ⟨vs, he, by simp [h1], fun j c u hc hu => ?_⟩
    rw [List.getElem?_map] at hc
    obtain ⟨d, hd, rfl⟩ := Option.map_eq_some_iff.1 hc
    exact ⟨h.cell d u (h2 j d u hd hu).1, (h2 j d u hd hu).2⟩
  | .tup xs, v, hx => AValRel.mono h.le (fun _ _ => rfl) (kill_leL l) (Nat.le_refl _) (.tup xs) v hx
end
end Go.Sx

/- The abstract machine: slices: literals, make, cut, append; stores. -/
namespace Go.Sx
set_option linter.unusedVariables false
set_option linter.unusedSimpArgs false

theorem rep_get {α : Type} (l : List α) (d : α) : ∀ (n i : Nat), i < n * l.length → (rep l n)[i]? = some (l.getD (i % l.length) d)
  | 0, i, h => by simp at h
  | n + 1, i, h => by
    rw [rep]
    by_cases hi : i < l.length
    · rw [List.getElem?_append_left hi, Nat.mod_eq_of_lt hi]; simp [List.getD, hi]
    · have hge : l.length ≤ i := by omega
      rw [List.getElem?_append_right hge, rep_get l d n (i - l.length) (by rw [Nat.succ_mul] at h; omega)]
      rw [Nat.mod_eq_sub_mod hge]

theorem made_rep (z : Array Value) (n : Nat) : ((Array.range (n * z.size)).map fun i => z[i % z.size]!).toList = rep z.toList n := by
  apply List.ext_getElem?
  intro i
  by_cases hi : i < n * z.size
  · rw [rep_get z.toList default n i (by simpa using hi)]
    have hpos : 0 < z.size := Nat.pos_of_ne_zero (fun h => by rw [h] at hi; simp at hi)
    have hm : i % z.size < z.size := Nat.mod_lt _ hpos
    simp [hi, List.getD, hm]
  · have h1 : n * z.size ≤ i := by omega
    rw [List.getElem?_eq_none (by simp; exact h1), List.getElem?_eq_none (by rw [rep_len]; simp; exact h1)]

section
variable {w0 : World} {F : Nat → Prop} {nt : Slots} {G0 G : GH} {ν : Nat → Nu} {objs : Objs} {nx : Nat} {st st' : St} {a : Act} {w w' : World} {P : Program} {T : Tab}

theorem fillL_sound (hob : ∀ id ob, look objs id = some ob → ObRel G ν objs nx w id ob) {e : Ty} (he : e.data = true) :
    ∀ (l : List (Nat × AVal)) (ps : List (Nat × Value)) (xs ys : List e.den) (vs : Array Value), EncL (Enc G e) xs vs.toList → ps.length = l.length →
      (∀ (j : Nat) (p : Nat × AVal) (q : Nat × Value), l[j]? = some p → ps[j]? = some q → p.1 = q.1 ∧ AValRel G ν objs nx p.2 q.2) → fillL e objs l xs = some ys →
      ∃ vs', Instr.fill (fun i => some (i * e.size, e.size)) vs ps = some vs' ∧ EncL (Enc G e) ys vs'.toList ∧ ys.length = xs.length
  | [], [], xs, ys, vs, hc, _, _, h => by simp [fillL] at h; subst h; exact ⟨vs, rfl, hc, rfl⟩
  | (i, x) :: l, [], _, _, _, _, hl, _, _ => by simp at hl
  | [], _ :: _, _, _, _, _, hl, _, _ => by simp at hl
  | (i, x) :: l, (i', v) :: ps, xs, ys, vs, hc, hl, hp, h => by
    obtain ⟨hi, hx⟩ := hp 0 _ _ rfl rfl
    simp only at hi hx; subst hi
    simp only [fillL] at h
    split at h
    · rename_i ds hds
      split at h
      · rename_i d hf
        split at h
        · rename_i hlt
          obtain ⟨h1, _⟩ := boxed_rel hx hds
          have henc := foldC_enc hob h1 he hf
          have hlen : v.cells.toList.length = e.size := Enc_len _ _ _ henc
          have hvs : vs.toList.length = xs.length * e.size := EncL_len (fun x c hc => Enc_len e x c hc) _ _ hc
          have hfit : i * e.size + e.size ≤ xs.length * e.size := by rw [← Nat.succ_mul]; exact Nat.mul_le_mul_right _ hlt
          have hfold := foldl_set v.cells.toList (i * e.size) 0 vs (by simp at hlen hvs ⊢; omega)
          simp only [Nat.add_zero] at hfold
          have hset := EncL_set (fun x c hc => Enc_len e x c hc) xs vs.toList i d v.cells.toList hc hlt henc
          obtain ⟨vs', h4, h5, h6⟩ := fillL_sound hob he l ps (xs.set i d) ys _ (by rw [hfold, hlen]; exact hset) (by simpa using hl) (fun j p q hj hq => hp (j + 1) p q (by simpa using hj) (by simpa using hq)) h
          refine ⟨vs', ?_, h5, by rw [h6]; simp⟩
          simp only [Instr.fill]
          rw [if_neg (by simp at hlen hvs ⊢; omega)]
          rw [← h4]
          congr 1
          rw [← Array.foldl_toList]
          simp
        · simp at h
      · simp at h
    · simp at h

theorem buildSlice_done (hT : TabOk P T) (hr : Rel w0 F nt G0 G ν st a w) {o : Oper} (hd : ∀ d, o.dst = some d → nt.Ok d) {t : TypeId} {n : Nat} {parts : Array (Nat × Operand)} (ho : o.op = .buildSlice t n parts)
    {ty : Ty} {et : TypeId} {te : TE} {ps : List (Nat × AVal)} {xs : List te.ty.den} (hl : look T t = some ⟨ty, false, .slice et⟩) (hle : look T et = some te)
    (h1 : ps.length = parts.toList.length) (h2 : ∀ (j : Nat) (p : Nat × AVal) (q : Nat × Operand), ps[j]? = some p → parts.toList[j]? = some q → p.1 = q.1 ∧ AValRel G ν st.objs st.nx p.2 (a.eval q.2))
    (hf : fillL te.ty st.objs ps (List.replicate n te.ty.dflt) = some xs) (hsz : n * te.ty.size ≤ 16777216) (hdata : te.ty.data = true) (hp : te.plain = true) :
    Done P w0 F nt G0 o a w (st.new o.dst (.arr te.ty xs) (.s (.one (.own st.nx)))) := by
  have hu := (hT _ _ hl).und.2.1
  obtain ⟨z, hz, hzc⟩ := run_zero (w := w) (hT _ _ hle)
  rw [plain_cells hp] at hzc
  have hzs : z.cells.size = te.ty.size := by rw [← Array.length_toList, hzc, zvals_len]
  have hmade := made_rep z.cells n
  rw [hzs, hzc] at hmade
  obtain ⟨vs', h3, h4, h5⟩ := fillL_sound (w := w) hr.h.ob hdata ps (parts.toList.map fun p => (p.1, a.eval p.2)) _ xs ((Array.range (n * te.ty.size)).map fun i => z.cells[i % te.ty.size]!) (by rw [hmade]; exact rep_enc hdata n) (by simp [h1]) (fun j p q hp hq => by
      simp only [List.getElem?_map] at hq
      cases hq' : parts.toList[j]? with
      | none => simp only [Array.getElem?_toList] at hq'; simp [hq'] at hq
      | some q' =>
        rw [hq'] at hq
        simp at hq; subst hq
        exact h2 j p q' hp hq') hf
  have hxl : xs.length = n := by rw [h5]; simp
  have hpos := size_pos te.ty
  have hn : n ≤ 16777216 := Nat.le_trans (Nat.le_mul_of_pos_right n hpos) hsz
  have hvl : vs'.size = n * te.ty.size := by
    rw [← Array.length_toList, EncL_len (fun x c hc => Enc_len te.ty x c hc) _ _ h4, hxl]
  obtain ⟨⟨ν', h6⟩, _⟩ := new_arr (t := et) (vs := vs') hr hd (e := te.ty) (xs := xs) (cap := n) (cs := vs'.toList) (by omega) (by unfold maxLen; omega) hvl h4 (List.prefix_refl _) w rfl rfl rfl rfl
  rw [hxl] at h6
  refine ⟨_, _, _, G, ν', ?_, .inl rfl, h6⟩
  have hparts : (parts.map fun x => match x with | (i, x) => (i, a.eval x)).toList = parts.toList.map fun p => (p.1, a.eval p.2) := by simp
  simp only [execOp, ho, Instr.buildSlice, Sem.run_bind, run_underlying hu, Result.andThen_ok, (hT _ _ hle).sizeOf, plain_size hp, if_neg (show ¬ n * te.ty.size > 2 ^ 24 by omega), Sem.run_pure]
  by_cases h0 : n * te.ty.size = 0
  · have hn0 : n = 0 := by rcases Nat.mul_eq_zero.1 h0 with h | h <;> omega
    have e1 : ((Array.range (n * te.ty.size)).map fun i => z.cells[i % te.ty.size]!) = #[] := by rw [h0]; simp
    rw [e1] at h3
    have e2 : ∀ zz : Array Value, ((Array.range (n * te.ty.size)).map fun i => zz[i % zz.size]!) = #[] := fun zz => by rw [h0]; simp
    simp only [if_pos h0, Sem.run_pure, Result.andThen_ok, e2, hparts, h3, run_newRow]
    rfl
  · simp only [if_neg h0, Sem.run_bind, hz, Result.andThen_ok, Sem.run_pure, hzs, hparts, h3, run_newRow]

theorem makeSlice_done (hT : TabOk P T) (hr : Rel w0 F nt G0 G ν st a w) {o : Oper} (hd : ∀ d, o.dst = some d → nt.Ok d) {t : TypeId} {n c : Operand} (ho : o.op = .makeSlice t n c)
    {ty : Ty} {et : TypeId} {te : TE} {n' c' : Int} {k k' : IntKind} (hl : look T t = some ⟨ty, false, .slice et⟩) (hle : look T et = some te) (hn : a.eval n = .int k n') (hc : a.eval c = .int k' c')
    (h0 : 0 ≤ n') (h1 : n' ≤ c') (h2 : room c'.toNat = true) (hdata : te.ty.data = true) (hp : te.plain = true) :
    Done P w0 F nt G0 o a w (st.new o.dst (.arr te.ty (List.replicate n'.toNat te.ty.dflt)) (.s (.one (.own st.nx)))) := by
  have hu := (hT _ _ hl).und.2.1
  obtain ⟨i, z, hi, hs, hz, hzc, hby⟩ := (hT _ _ hle).info
  rw [plain_cells hp] at hzc
  rw [plain_size hp] at hs
  have hzs : z.cells.size = te.ty.size := by rw [← Array.length_toList, hzc, zvals_len]
  have hroom : c'.toNat ≤ 1073741824 := by simpa [room] using h2
  have hmade := made_rep z.cells c'.toNat
  rw [hzs, hzc] at hmade
  have hpre : rep (zvals te.ty) n'.toNat <+: rep (zvals te.ty) c'.toNat := by
    have : ∀ (l : List Value) (p q : Nat), rep l p <+: rep l (p + q) := fun l p q => by
      induction p with
      | zero => exact List.nil_prefix
      | succ p ih => rw [Nat.succ_add]; simp only [rep]; exact (List.prefix_append_right_inj _).2 ih
    have h := this (zvals te.ty) n'.toNat (c'.toNat - n'.toNat)
    rwa [show n'.toNat + (c'.toNat - n'.toNat) = c'.toNat by omega] at h
  have hb : (i.bytes : Int) * c' ≤ 281474976710656 := by
    have h3 : (i.bytes : Int) * c' ≤ 4096 * c' := Int.mul_le_mul_of_nonneg_right (by omega) (by omega)
    omega
  have hm : madeCells z.cells (c'.toNat * i.size) = (Array.range (c'.toNat * te.ty.size)).map fun i => z.cells[i % te.ty.size]! := by
    rw [hs, ← hzs]; rfl
  obtain ⟨⟨ν', h6⟩, _⟩ := new_arr (t := et) (vs := (Array.range (c'.toNat * te.ty.size)).map fun i => z.cells[i % te.ty.size]!) hr hd (e := te.ty) (xs := List.replicate n'.toNat te.ty.dflt) (cap := c'.toNat) (cs := rep (zvals te.ty) n'.toNat) (by simp; omega) (by unfold maxLen; omega)
    (by simp) (rep_enc hdata _) (by rw [hmade]; exact hpre) w rfl rfl rfl rfl
  rw [List.length_replicate] at h6
  refine ⟨_, _, _, G, ν', ?_, .inl rfl, h6⟩
  simp only [execOp, ho, hn, hc, Sem.run_bind, run_make (P := P) w t et i z hu hi hz k k' n' c' h0 h1 hb (by omega), Result.andThen_ok, hm, Sem.run_pure]

/-! ### stores -/

theorem storeVar_run {t : TypeId} {te : TE} (hte : TEok P T t te) {b off : Nat} {v : Value} {cur : Array Value} {TT : TypeId} (hg : w.heap[b]? = some (.cells cur TT (0, 0))) (hsz : te.size = v.cells.size) (hfit : off + v.cells.size ≤ cur.size) (h1 : ∀ u ∈ v.cells.toList, u.oneCell' = true) :
    (storeVar t ⟨b, off, none⟩ v).run P w = .ok () (w.setRow b (cur.toList.take off ++ v.cells.toList ++ cur.toList.drop (off + v.cells.size)).toArray) := by
  have h := run_storeCells_at P b off TT v.cells.toList 0 cur w hg (by simpa using hfit) h1
  simp only [Nat.add_zero, Array.length_toList] at h
  simp [storeVar, hte.sizeOf, hsz, h]

theorem store_done (hT : TabOk P T) (hr : Rel w0 F nt G0 G ν st a w) {o : Oper} {t : TypeId} {x y : Operand} (ho : o.op = .store t x y) (hdst : o.dst = none) {p v : AVal} (hx : AValRel G ν st.objs st.nx p (a.eval x)) (hy : AValRel G ν st.objs st.nx v (a.eval y))
    (h : storeOp T st t p v = some st') : Done P w0 F nt G0 o a w st' := by
  unfold storeOp at h
  split at h
  · rename_i te id off ds hl hds
    obtain ⟨hds1, hds2⟩ := boxed_rel hy hds
    split at h
    · rename_i cs hob
      split at h
      · rename_i hcond
        simp only [Bool.and_eq_true, decide_eq_true_eq] at hcond
        obtain ⟨⟨hs, hpl⟩, hfit⟩ := hcond
        injection h with h; subst h
        obtain ⟨⟨_, h2⟩, _⟩ := hx
        obtain ⟨b, hb, hpe⟩ := h2 _ hob
        obtain ⟨b', TT, vs, hb', hhp, hcs⟩ := hr.h.ob _ _ hob
        rw [hb] at hb'; injection hb' with hb'; subst hb'
        have hlen : (a.eval y).cells.size = ds.length := by have := hds1.1; simpa using this
        have hvl : vs.size = cs.length := by have := hcs.1; simpa using this
        have hrun := storeVar_run (w := w) (hT _ _ hl) (b := b) (off := off) (v := a.eval y) hhp (by rw [plain_size hpl, hlen]; exact hs) (by omega) hds2
        have hle : ObjsLe st.nx st.objs ((id, .box (splice cs off ds)) :: st.objs) := fun i hi => ⟨fun e xs hh => by
            rw [look_cons] at hh; split at hh
            · cases hh
            · exact ⟨xs, hh, rfl⟩, fun cs' hh => by
            rw [look_cons] at hh; split at hh
            · rename_i e; subst e; exact ⟨cs, hob⟩
            · exact ⟨cs', hh⟩⟩
        have hnew : HRel w0 F G ν ((id, .box (splice cs off ds)) :: st.objs) st.nx (w.setRow b (vs.toList.take off ++ (a.eval y).cells.toList ++ vs.toList.drop (off + (a.eval y).cells.size)).toArray) := by
          refine hr.h.turn hob (by simp) hb (by simp) rfl rfl rfl (fun k hk => setRow_other w b k _ hk) hle ?_
          refine ⟨b, TT, _, hb, setRow_heap w b vs _ TT (0, 0) hhp, ?_⟩
          have := splice_rel (off := off) hcs hds1
          rw [Array.length_toList] at this
          exact this.mono (fun _ _ _ hh => hh) (fun _ _ => rfl) hle (Nat.le_refl _)
        generalize w.setRow b (vs.toList.take off ++ (a.eval y).cells.toList ++ vs.toList.drop (off + (a.eval y).cells.size)).toArray = W at hrun hnew
        refine ⟨.skip, undef, W, G, ν, ?_, .inr ⟨rfl, rfl⟩, ?_⟩
        · simp only [execOp, ho, hpe, Instr.storeAt, Instr.sureAddr, Sem.run_bind, Sem.run_pure, Result.andThen_ok, hrun]
        · rw [hdst]
          exact hr.on (fun _ _ _ hh => hh) (fun _ _ => rfl) hle (Nat.le_refl _) hnew hr.gx
      · simp at h
    · simp at h
  · rename_i te id i off ds hl hds
    obtain ⟨hds1, hds2⟩ := boxed_rel hy hds
    split at h
    · rename_i e xs hob
      split at h
      · rename_i hcond
        simp only [Bool.and_eq_true, decide_eq_true_eq] at hcond
        obtain ⟨⟨⟨hs, hpl⟩, hfit⟩, hdata⟩ := hcond
        split at h
        · rename_i d hf
          injection h with h; subst h
          obtain ⟨⟨_, h2⟩, _⟩ := hx
          obtain ⟨hlt, b, hb, hpe⟩ := h2 _ _ hob
          obtain ⟨hxl, hoo⟩ := hr.h.ob _ _ hob
          simp only [hb] at hoo
          obtain ⟨TT, vs, cs, hhp, h4, h5, h6, h7, h8⟩ := hoo
          have hlen : (a.eval y).cells.toList.length = ds.length := hds1.1
          have hcl : cs.length = xs.length * e.size := EncL_len (fun x c hc => Enc_len e x c hc) _ _ h7
          have hie : i * e.size + e.size ≤ xs.length * e.size := by rw [← Nat.succ_mul]; exact Nat.mul_le_mul_right _ hlt
          obtain ⟨tl, htl⟩ := h8
          have hvl : cs.length + tl.length = vs.size := by rw [← List.length_append, htl, Array.length_toList]
          have hen := EncL_getD (fun x c hc => Enc_len e x c hc) xs cs i e.dflt h7 hlt
          have hspl := splice_rel (off := off) (split_rel (G := G) (ν := ν) (objs := st.objs) (nx := st.nx) e _ _ hen) hds1
          have henc := foldC_enc hr.h.ob hspl hdata hf
          have hset := EncL_set (fun x c hc => Enc_len e x c hc) xs cs i d _ h7 hlt henc
          have hrun := storeVar_run (w := w) (hT _ _ hl) (b := b) (off := i * e.size + off) (v := a.eval y) hhp (by rw [plain_size hpl]; simp at hlen; omega) (by simp at hlen; omega) hds2
          have hle : ObjsLe st.nx st.objs ((id, .arr e (xs.set i d)) :: st.objs) := fun j hj => ⟨fun e' xs' hh => by
              rw [look_cons] at hh; split at hh
              · rename_i e1; subst e1
                injection hh with hh
                injection hh with he hx
                subst he
                have hx := eq_of_heq hx; subst hx
                exact ⟨xs, hob, by simp⟩
              · exact ⟨xs', hh, rfl⟩, fun cs' hh => by
              rw [look_cons] at hh; split at hh
              · cases hh
              · exact ⟨cs', hh⟩⟩
          have hcells : vs.toList.take (i * e.size + off) ++ (a.eval y).cells.toList ++ vs.toList.drop (i * e.size + off + (a.eval y).cells.size) =
              (cs.take (i * e.size) ++ (((cs.drop (i * e.size)).take e.size).take off ++ (a.eval y).cells.toList ++ ((cs.drop (i * e.size)).take e.size).drop (off + (a.eval y).cells.toList.length)) ++ cs.drop (i * e.size + e.size)) ++ tl := by
            have hl' : (a.eval y).cells.size = ds.length := by simpa using hlen
            rw [← htl, hlen, hl']
            rw [List.take_append_of_le_length (by omega), List.drop_append_of_le_length (by omega)]
            have e1 : cs.take (i * e.size + off) = cs.take (i * e.size) ++ ((cs.drop (i * e.size)).take e.size).take off := by
              rw [List.take_take, Nat.min_eq_left (by omega), ← List.take_add]
            have e2 : cs.drop (i * e.size + off + ds.length) = ((cs.drop (i * e.size)).take e.size).drop (off + ds.length) ++ cs.drop (i * e.size + e.size) := by
              rw [List.drop_take, List.drop_drop]
              have : cs.drop (i * e.size + e.size) = (cs.drop (i * e.size + (off + ds.length))).drop (e.size - (off + ds.length)) := by rw [List.drop_drop]; congr 1; omega
              rw [this, List.take_append_drop]
              congr 1; omega
            rw [e1, e2]
            simp
          have hnew : HRel w0 F G ν ((id, .arr e (xs.set i d)) :: st.objs) st.nx (w.setRow b (vs.toList.take (i * e.size + off) ++ (a.eval y).cells.toList ++ vs.toList.drop (i * e.size + off + (a.eval y).cells.size)).toArray) := by
            refine hr.h.turn hob (by simp) hb (by simp) rfl rfl rfl (fun k hk => setRow_other w b k _ hk) hle ?_
            refine ⟨by simpa using hxl, ?_⟩
            simp only [hb]
            refine ⟨TT, _, _, setRow_heap w b vs _ TT (0, 0) hhp, by simpa using h4, h5, ?_, hset, ?_⟩
            · have hl' : (a.eval y).cells.size = ds.length := by simpa using hlen
              rw [← h6]
              simp
              omega
            · rw [hcells]
              exact ⟨tl, rfl⟩
          generalize w.setRow b (vs.toList.take (i * e.size + off) ++ (a.eval y).cells.toList ++ vs.toList.drop (i * e.size + off + (a.eval y).cells.size)).toArray = W at hrun hnew
          refine ⟨.skip, undef, W, G, ν, ?_, .inr ⟨rfl, rfl⟩, ?_⟩
          · simp only [execOp, ho, hpe, Instr.storeAt, Instr.sureAddr, Sem.run_bind, Sem.run_pure, Result.andThen_ok, hrun]
          · rw [hdst]
            exact hr.on (fun _ _ _ hh => hh) (fun _ _ => rfl) hle (Nat.le_refl _) hnew hr.gx
        · simp at h
      · simp at h
    · simp at h
  · simp at h
end
end Go.Sx

/- The abstract machine: append, and cuts of one's own. -/
namespace Go.Sx
set_option linter.unusedVariables false
set_option linter.unusedSimpArgs false

theorem Enc_one {G : GH} (t : Ty) (d : t.den) (cs : List Value) (h : Enc G t d cs) : ∀ u ∈ cs, u.oneCell' = true := fun u hu => by
  obtain ⟨j, hj⟩ := List.getElem?_of_mem hu
  have hc := split_rel (ν := fun _ => ⟨none, 0, 0⟩) (objs := []) (nx := 0) t d cs h
  have hlt : j < (split t d).length := by rw [← hc.1]; exact (List.getElem?_eq_some_iff.1 hj).1
  exact (hc.2 j _ u (List.getElem?_eq_getElem hlt) hj).2

theorem EncL_one {G : GH} {t : Ty} : ∀ (l : List t.den) (cs : List Value), EncL (Enc G t) l cs → ∀ u ∈ cs, u.oneCell' = true
  | [], cs, h, u, hu => by simp [EncL] at h; subst h; simp at hu
  | x :: l, cs, ⟨c1, c2, he, h1, h2⟩, u, hu => by
    subst he
    rcases List.mem_append.1 hu with hu | hu
    · exact Enc_one t x c1 h1 u hu
    · exact EncL_one l c2 h2 u hu

section
variable {w0 : World} {F : Nat → Prop} {nt : Slots} {G0 G : GH} {ν : Nat → Nu} {objs : Objs} {nx : Nat} {st st' : St} {a : Act} {w w' : World} {P : Program} {T : Tab}

/-- what append takes its elements from -/
structure Src (G : GH) (w : World) (e : Ty) (l : List e.den) (v : Value) (news : List Value) : Prop where
  enc : EncL (Enc G e) l news
  rd : (v = .slice none 0 0 ∧ l = []) ∨ ∃ (p : Addr) (c : Nat), v = .slice (some p) l.length c ∧ ∀ (j : Nat) (u : Value), news[j]? = some u → w.cell? (p.add j) = some u

theorem own_src {id : Nat} {e : Ty} {xs : List e.den} (h : ObRel G ν objs nx w id (.arr e xs)) : ∃ news, Src G w e xs (ν id).hdr news := by
  obtain ⟨h1, h2⟩ := h
  unfold Nu.hdr
  cases hb : (ν id).blk with
  | none => simp only [hb] at h2; subst h2; exact ⟨[], rfl, .inl ⟨rfl, rfl⟩⟩
  | some b =>
    simp only [hb] at h2
    obtain ⟨TT, vs, cs, h3, h4, h5, h6, h7, h8⟩ := h2
    refine ⟨cs, h7, .inr ⟨⟨b, 0, none⟩, (ν id).cap, by rw [h1], fun j u hj => ?_⟩⟩
    rw [Addr_add, Nat.zero_add, cell_of_row w b j vs TT (0, 0) h3]
    obtain ⟨tl, htl⟩ := h8
    have : vs.toList[j]? = some u := by rw [← htl, List.getElem?_append_left (List.getElem?_eq_some_iff.1 hj).1]; exact hj
    simpa using this

theorem castL_some {e e' : Ty} {d : List e.den} {d' : List e'.den} (h : castL e e' d = some d') : ∃ he : e = e', he ▸ d = d' := by
  unfold castL at h
  split at h
  · rename_i he; injection h with h; exact ⟨he, h⟩
  · simp at h

theorem readL_src (hr : Rel w0 F nt G0 G ν st a w) {e : Ty} {x : AVal} {u : Value} {l : List e.den} (hx : AValRel G ν st.objs st.nx x u) (h : readL st e x = some l) : ∃ news, Src G w e l u news := by
  unfold readL at h
  split at h
  · rename_i e' d'
    obtain ⟨he, hd⟩ := castL_some h
    subst he
    simp only at hd
    subst hd
    obtain ⟨⟨v, hv, hs⟩, _⟩ := hx
    simp at hv; subst hv
    rcases hs with ⟨rfl, hn⟩ | ⟨b, off, cap, cs, rfl, h1, h2, h3, h4⟩ | ⟨a', cap, rfl, hn⟩
    rotate_left 2
    · exact ⟨[], by rw [hn]; rfl, .inr ⟨a', cap, by rw [hn]; rfl, fun j u hj => by simp at hj⟩⟩
    · exact ⟨[], by rw [hn]; rfl, .inl ⟨rfl, hn⟩⟩
    · exact ⟨cs, h3, .inr ⟨⟨b, off, none⟩, cap, rfl, fun j u hj => by rw [Addr_add]; exact hr.h.g _ _ _ (h4 j u hj)⟩⟩
  · injection h with h; subst h
    obtain ⟨hv, _⟩ := hx
    simp only [CellRel] at hv; subst hv
    exact ⟨[], rfl, .inl ⟨rfl, rfl⟩⟩
  · rename_i id
    split at h
    · rename_i e' xs ho
      obtain ⟨he, hd⟩ := castL_some h
      subst he
      simp only at hd
      subst hd
      obtain ⟨⟨_, hv⟩, _⟩ := hx
      have hv := hv _ _ ho; subst hv
      exact own_src (hr.h.ob _ _ ho)
    · simp at h
  · simp at h

theorem Rel.kill (hr : Rel w0 F nt G0 G ν st a w) (id : Nat) : Rel w0 F nt G0 G ν (st.turn id .dead) a w :=
  hr.on (fun _ _ _ hh => hh) (fun _ _ => rfl) (fun i _ => ⟨fun e xs hx => by
    rw [look_cons] at hx; split at hx
    · cases hx
    · exact ⟨xs, hx, rfl⟩, fun cs hx => by
    rw [look_cons] at hx; split at hx
    · cases hx
    · exact ⟨cs, hx⟩⟩) (Nat.le_refl _) (hr.h.kill id) hr.gx

theorem new_nil (hr : Rel w0 F nt G0 G ν st a w) {dst : Option Tmp} (hd : ∀ d, dst = some d → nt.Ok d) (e : Ty) :
    ∃ ν', Rel w0 F nt G0 G ν' (st.new dst (.arr e []) (.s (.one (.own st.nx)))) (a.put dst (.slice none 0 0)) w := by
  refine ⟨upd ν st.nx ⟨none, 0, 0⟩, hr.new hd (.arr e []) _ _ _ (Nat.le_refl _) rfl rfl rfl (fun b hb => rfl) (fun b hb => by cases hb) ⟨by rw [upd_at]; rfl, by rw [upd_at]⟩ ⟨⟨Nat.lt_succ_self _, fun e' xs' _ => by rw [upd_at]; rfl⟩, rfl⟩⟩

theorem append_room_run (t ty e TT : TypeId) (i : TypeInfo) (ht : P.underlying t = some (.slice e)) (hi : P.info? e = some i)
    (g sLen sCap : Nat) (cur : Array Value) (hg : w.heap[g]? = some (.cells cur TT (0, 0)))
    (p : Addr) (m c : Nat) (news : List Value) (hl : news.length = m * i.size) (hnews : ∀ j u, news[j]? = some u → w.cell? (p.add j) = some u) (h1 : ∀ u ∈ news, u.oneCell' = true)
    (hroom : sLen + m ≤ sCap) (hfit : sLen * i.size + news.length ≤ cur.size) :
    (Builtin.append_ #[t, t] ty #[.slice (some ⟨g, 0, none⟩) sLen sCap, .slice (some p) m c]).run P w =
      .ok (.slice (some ⟨g, 0, none⟩) (sLen + m) sCap) (w.setRow g (cur.toList.take (sLen * i.size) ++ news ++ cur.toList.drop (sLen * i.size + news.length)).toArray) := by
  have hf := run_firstCells_some (P := P) w i.size m p m c news hl hnews
  have hst := run_storeCells_at P g (sLen * i.size) TT news 0 cur w hg (by simpa using hfit) h1
  simp only [Nat.add_zero] at hst
  simp [Builtin.append_, run_underlying ht, sizeOf, typeInfo, hi, Builtin.lenOf, hroom, hf, Addr.add_lit, hst]

theorem append_none_run (t ty e : TypeId) (i : TypeInfo) (ht : P.underlying t = some (.slice e)) (hi : P.info? e = some i) (base : Option Addr) (n cap : Nat) (h : n ≤ cap) :
    (Builtin.append_ #[t, t] ty #[.slice base n cap, .slice none 0 0]).run P w = .ok (.slice base n cap) w := by
  cases base <;> simp [Builtin.append_, run_underlying ht, sizeOf, typeInfo, hi, Builtin.lenOf, h, Builtin.firstCells, storeCells]

theorem append_zero_run (t ty e : TypeId) (i : TypeInfo) (ht : P.underlying t = some (.slice e)) (hi : P.info? e = some i) (p : Addr) (c : Nat) :
    (Builtin.append_ #[t, t] ty #[.slice none 0 0, .slice (some p) 0 c]).run P w = .ok (.slice none 0 0) w := by
  simp [Builtin.append_, run_underlying ht, sizeOf, typeInfo, hi, Builtin.lenOf, Builtin.firstCells, loadCells, loadCellsFrom]

theorem call_append {o : Oper} {c : Call} (ho : o.op = .call c) {s x : Operand} {t : TypeId} (hc : c.callee = .builtin .append) (ha : c.args.toList = [s, x]) (hat : c.argTypes.toList = [t, t]) {v : Value}
    (hrun : (Builtin.append_ #[t, t] o.type #[a.eval s, a.eval x]).run P w = .ok v w') : (execOp a.eval o).run P w = .ok (.value v) w' := by
  obtain ⟨callee, args, argTypes⟩ := c
  obtain ⟨args⟩ := args
  obtain ⟨argTypes⟩ := argTypes
  simp only at hc ha hat
  subst hc ha hat
  simp only [execOp, ho, resolve, invoke, builtin, Sem.run_bind, Sem.run_pure, Result.andThen_ok, List.map_toArray, List.map_cons, List.map_nil, hrun]

theorem cap_ok (w : World) (need old : Nat) (e : TypeId) (h : room need = true) : need ≤ grownCap w need old e ∧ grownCap w need old e ≤ maxLen :=
  ⟨grownCap_ge w need old e, grownCap_le_maxLen w need old e (by simp [room] at h; unfold maxLen; omega)⟩

/-- append makes a new block -/
theorem grown_done (hr : Rel w0 F nt G0 G ν st a w) {dst : Option Tmp} (hd : ∀ d, dst = some d → nt.Ok d) {e : Ty} {xs : List e.den} {cs : List Value} (hc : EncL (Enc G e) xs cs) {cap : Nat} (hcap : xs.length ≤ cap) (hcm : cap ≤ maxLen) (z : Array Value) (hz : z.size = e.size) (t : TypeId) :
    ∃ ν', Rel w0 F nt G0 G ν' (st.new dst (.arr e xs) (.s (.one (.own st.nx)))) (a.put dst (.slice (some ⟨w.heap.size, 0, none⟩) xs.length cap)) (w.drew.alloc (.cells (cs.toArray ++ Builtin.zeroCells z (cap - xs.length)) t)) := by
  have hl : cs.length = xs.length * e.size := EncL_len (fun x c hc => Enc_len e x c hc) _ _ hc
  refine (new_arr hr hd (e := e) (xs := xs) (cap := cap) (cs := cs) (vs := cs.toArray ++ Builtin.zeroCells z (cap - xs.length)) (t := t) hcap hcm ?_ hc ?_ w.drew rfl rfl rfl rfl).1
  · simp only [Array.size_append, List.size_toArray, size_zeroCells, hz, hl, ← Nat.add_mul]
    congr 1; omega
  · simp

theorem append_done (hT : TabOk P T) (hr : Rel w0 F nt G0 G ν st a w) {o : Oper} (hd : ∀ d, o.dst = some d → nt.Ok d) {c : Call} {s x : Operand} {t t2 : TypeId} {sv xv : AVal} {R : Type} {k : St → Option R} {r : R}
    (ho : o.op = .call c) (hc : c.callee = .builtin .append) (ha : c.args.toList = [s, x]) (hat : c.argTypes.toList = [t, t2]) (hs : ev st s = some sv) (hx : ev st x = some xv)
    (h : appendOp T st t t2 sv xv (fun x objs nx => k (({ env := st.env, objs := objs, nx := nx } : St).put o.dst x)) = some r) : ∃ st', k st' = some r ∧ Done P w0 F nt G0 o a w st' := by
  unfold appendOp at h
  split at h
  · rename_i ty et _ hl _
    have hu := (hT _ _ hl).und.2.1
    split at h
    · rename_i te hle
      split at h
      · rename_i hcond
        obtain ⟨rfl, hp, hdata⟩ := hcond
        obtain ⟨i, z, hi, hsz, hz, hzc, hby⟩ := (hT _ _ hle).info
        rw [plain_size hp] at hsz
        rw [plain_cells hp] at hzc
        have hzs : z.cells.size = te.ty.size := by rw [← Array.length_toList, hzc, zvals_len]
        have hpos := size_pos te.ty
        split at h
        · rename_i l hl'
          cases hroom : room l.length with
          | false => simp [hroom] at h
          | true =>
            simp [hroom] at h
            refine ⟨_, h, ?_⟩
            have hrm : l.length ≤ 1073741824 := by simpa [room] using hroom
            obtain ⟨hsv, _⟩ := ev_rel hr s _ hs
            simp only [CellRel] at hsv
            obtain ⟨news, henc, hrd⟩ := readL_src hr (ev_rel hr x _ hx) hl'
            rcases hrd with ⟨hxe, hnil⟩ | ⟨pa, cc, hxe, hcell⟩
            · subst hnil
              obtain ⟨ν', hh⟩ := new_nil hr hd te.ty
              exact ⟨_, _, _, G, ν', call_append ho hc ha hat (by rw [hsv, hxe]; exact append_none_run t _ et i hu hi none 0 0 (Nat.le_refl _)), .inl rfl, hh⟩
            · by_cases h0 : l.length = 0
              · have hnil : l = [] := List.eq_nil_of_length_eq_zero h0
                subst hnil
                obtain ⟨ν', hh⟩ := new_nil hr hd te.ty
                exact ⟨_, _, _, G, ν', call_append ho hc ha hat (by rw [hsv, hxe]; exact append_zero_run t _ et i hu hi _ _), .inl rfl, hh⟩
              · obtain ⟨hc1, hc2⟩ := cap_ok w l.length 0 et hroom
                obtain ⟨ν', hh⟩ := grown_done hr hd henc hc1 hc2 z.cells hzs et
                have hnl : news.length = l.length * i.size := by rw [hsz]; exact EncL_len (fun x c hc => Enc_len te.ty x c hc) _ _ henc
                have hb4 : l.length * i.bytes ≤ 281474976710656 := by
                  have := Nat.mul_le_mul hrm hby
                  omega
                refine ⟨_, _, _, G, ν', call_append ho hc ha hat ?_, .inl rfl, hh⟩
                rw [hsv, hxe]
                exact run_append_nil (P := P) w t _ et i z hu hi hz pa l.length cc news hnl (fun j v hj => hcell j v hj) (by omega) (by omega) hb4
        · rename_i id l hl'
          split at h
          · rename_i e0 xs hob
            split at h
            · rename_i ys hcast
              obtain ⟨he, hy⟩ := castTo_some hcast
              injection he with he; subst he
              simp only at hy; subst hy
              cases hroom : room (List.length xs + l.length) with
              | false => simp [hroom] at h
              | true =>
                simp [hroom] at h
                refine ⟨_, h, ?_⟩
                have hrm : xs.length + l.length ≤ 1073741824 := by simpa [room] using hroom
                obtain ⟨⟨hid, hsv⟩, _⟩ := ev_rel hr s _ hs
                have hsv := hsv _ _ hob
                obtain ⟨news, henc, hrd⟩ := readL_src hr (ev_rel hr x _ hx) hl'
                have hkill := hr.kill id
                obtain ⟨hxl, hoo⟩ := hr.h.ob _ _ hob
                unfold Nu.hdr at hsv
                cases hblk : (ν id).blk with
                | none =>
                  simp only [hblk] at hoo hsv
                  subst hoo
                  have happ : List.append ([] : List te.ty.den) l = l := rfl
                  rcases hrd with ⟨hxe, hnil⟩ | ⟨pa, cc, hxe, hcell⟩
                  · subst hnil
                    obtain ⟨ν', hh⟩ := new_nil hkill hd te.ty
                    exact ⟨_, _, _, G, ν', call_append ho hc ha hat (by rw [hsv, hxe]; exact append_none_run t _ et i hu hi none 0 0 (Nat.le_refl _)), .inl rfl, hh⟩
                  · by_cases h0 : l.length = 0
                    · have hnil : l = [] := List.eq_nil_of_length_eq_zero h0
                      subst hnil
                      obtain ⟨ν', hh⟩ := new_nil hkill hd te.ty
                      exact ⟨_, _, _, G, ν', call_append ho hc ha hat (by rw [hsv, hxe]; exact append_zero_run t _ et i hu hi _ _), .inl rfl, hh⟩
                    · have hroom' : room l.length = true := by simpa [room] using hrm
                      obtain ⟨hc1, hc2⟩ := cap_ok w l.length 0 et hroom'
                      obtain ⟨ν', hh⟩ := grown_done hkill hd henc hc1 hc2 z.cells hzs et
                      have hnl : news.length = l.length * i.size := by rw [hsz]; exact EncL_len (fun x c hc => Enc_len te.ty x c hc) _ _ henc
                      have hb4 : l.length * i.bytes ≤ 281474976710656 := by
                        have := Nat.mul_le_mul (show l.length ≤ 1073741824 by simpa using hrm) hby
                        omega
                      refine ⟨_, _, _, G, ν', call_append ho hc ha hat ?_, .inl rfl, hh⟩
                      rw [hsv, hxe]
                      exact run_append_nil (P := P) w t _ et i z hu hi hz pa l.length cc news hnl (fun j v hj => hcell j v hj) (by omega) (by simp at hrm; omega) hb4
                | some g =>
                  simp only [hblk] at hoo hsv
                  obtain ⟨TT, vs, cs, hhp, h4, h5, h6, h7, h8⟩ := hoo
                  have hcl : cs.length = xs.length * te.ty.size := EncL_len (fun x c hc => Enc_len te.ty x c hc) _ _ h7
                  have hnl : news.length = l.length * te.ty.size := EncL_len (fun x c hc => Enc_len te.ty x c hc) _ _ henc
                  have hall : EncL (Enc G te.ty) (List.append xs l) (cs ++ news) := EncL_append xs l cs news h7 henc
                  have hlen : (List.append xs l).length = xs.length + l.length := List.length_append
                  obtain ⟨tl, htl⟩ := h8
                  have hvl : cs.length + tl.length = vs.size := by rw [← List.length_append, htl, Array.length_toList]
                  -- in place: the block stays, the object is a new one
                  have inplace : ∀ (W : World) (cur' : Array Value), W.heap[g]? = some (.cells cur' TT (0, 0)) → W.heap.size = w.heap.size → W.os = w.os → W.output = w.output → W.tape = w.tape → (∀ k, k ≠ g → W.heap[k]? = w.heap[k]?) →
                      xs.length + l.length ≤ (ν id).cap → cur'.size = (ν id).cap * te.ty.size → (cs ++ news) <+: cur'.toList →
                      ∃ ν', Rel w0 F nt G0 G ν' ((st.turn id .dead).new o.dst (.arr te.ty (List.append xs l)) (.s (.one (.own st.nx)))) (a.put o.dst (.slice (some ⟨g, 0, none⟩) (xs.length + l.length) (ν id).cap)) W := by
                    intro W cur' hW hWs hWo hWu hWt hWk hfit hcs hpre
                    refine ⟨upd ν st.nx ⟨some g, xs.length + l.length, (ν id).cap⟩, ?_⟩
                    have hle : ObjsLe st.nx st.objs ((st.nx, .arr te.ty (List.append xs l)) :: (id, .dead) :: st.objs) := (show ObjsLe st.nx st.objs ((id, .dead) :: st.objs) from fun j _ => ⟨fun e xs hx => by
                        rw [look_cons] at hx; split at hx
                        · cases hx
                        · exact ⟨xs, hx, rfl⟩, fun cs hx => by
                        rw [look_cons] at hx; split at hx
                        · cases hx
                        · exact ⟨cs, hx⟩⟩).trans (fresh_le _) (Nat.le_refl _)
                    have hlive : ∀ j, Live ((st.nx, .arr te.ty (List.append xs l)) :: (id, .dead) :: st.objs) j → j = st.nx ∨ (j ≠ id ∧ Live st.objs j) := fun j ⟨ob, hj, hdd⟩ => by
                      rw [look_cons] at hj; split at hj
                      · rename_i e1; exact .inl e1.symm
                      · rw [look_cons] at hj; split at hj
                        · injection hj with hj; exact absurd hj.symm hdd
                        · rename_i e1; exact .inr ⟨fun e2 => e1 e2.symm, ob, hj, hdd⟩
                    have hl0 : Live st.objs id := ⟨_, hob, by simp⟩
                    have hH : HRel w0 F G (upd ν st.nx ⟨some g, xs.length + l.length, (ν id).cap⟩) ((st.nx, .arr te.ty (List.append xs l)) :: (id, .dead) :: st.objs) (st.nx + 1) W := by
                      refine hr.h.step (by rw [hWs]; exact Nat.le_refl _) hWo hWu hWt (fun k _ hno => hWk k (fun e1 => hno ⟨id, hl0, by rw [e1]; exact hblk⟩)) (fun j ob hj hdd => ?_) (fun j hj => ?_) (fun j b hj hk => ?_) (fun j j' b hj hj' hk hk' => ?_)
                      · rcases hlive j ⟨ob, hj, hdd⟩ with e1 | ⟨hne, hlj⟩
                        · subst e1
                          rw [look_cons, if_pos rfl] at hj
                          injection hj with hj; subst hj
                          refine ⟨by rw [upd_at, hlen], ?_⟩
                          rw [upd_at]
                          exact ⟨TT, cur', cs ++ news, hW, by rw [hlen]; exact hfit, h5, hcs, hall, hpre⟩
                        · have hlt := hr.h.lt j hlj
                          rw [look_cons, if_neg (by omega), look_cons, if_neg (fun e2 => hne e2.symm)] at hj
                          exact ObRel.mono (fun _ _ _ hh => hh) (upd_eq ν st.nx _) hle (Nat.le_succ _) hlt (fun b hb => hWk b (fun e2 => hne (hr.h.inj j id b hlj hl0 hb (by rw [e2]; exact hblk)))) (hr.h.ob j ob hj)
                      · rcases hlive j hj with e1 | ⟨_, hlj⟩
                        · subst e1; exact Nat.lt_succ_self _
                        · exact Nat.lt_succ_of_lt (hr.h.lt j hlj)
                      · rcases hlive j hj with e1 | ⟨_, hlj⟩
                        · subst e1; rw [upd_at] at hk; injection hk with hk; subst hk; exact .inl ⟨id, hl0, hblk⟩
                        · rw [upd_eq ν st.nx _ j (hr.h.lt j hlj)] at hk; exact .inl ⟨j, hlj, hk⟩
                      · rcases hlive j hj with e1 | ⟨hne1, hlj⟩ <;> rcases hlive j' hj' with e2 | ⟨hne2, hlj'⟩
                        · rw [e1, e2]
                        · subst e1; rw [upd_at] at hk; injection hk with hk; subst hk
                          rw [upd_eq ν st.nx _ j' (hr.h.lt j' hlj')] at hk'
                          exact absurd (hr.h.inj j' id g hlj' hl0 hk' hblk) hne2
                        · subst e2; rw [upd_at] at hk'; injection hk' with hk'; subst hk'
                          rw [upd_eq ν st.nx _ j (hr.h.lt j hlj)] at hk
                          exact absurd (hr.h.inj j id g hlj hl0 hk hblk) hne1
                        · rw [upd_eq ν st.nx _ j (hr.h.lt j hlj)] at hk
                          rw [upd_eq ν st.nx _ j' (hr.h.lt j' hlj')] at hk'
                          exact hr.h.inj j j' b hlj hlj' hk hk'
                    have hR := hr.on (fun _ _ _ hh => hh) (upd_eq ν st.nx ⟨some g, xs.length + l.length, (ν id).cap⟩) hle (Nat.le_succ _) hH hr.gx
                    exact hR.put hd ⟨⟨Nat.lt_succ_self _, fun e' xs' _ => by rw [upd_at]; rfl⟩, rfl⟩
                  rcases hrd with ⟨hxe, hnil⟩ | ⟨pa, cc, hxe, hcell⟩
                  · have hl0 : l.length = 0 := by rw [hnil]; rfl
                    obtain ⟨ν', hh⟩ := inplace w vs hhp rfl rfl rfl rfl (fun _ _ => rfl) (by omega) h6 (by
                      have : news = [] := List.eq_nil_of_length_eq_zero (by rw [hnl, hl0]; simp)
                      rw [this, List.append_nil]; exact ⟨tl, htl⟩)
                    refine ⟨_, _, _, G, ν', call_append ho hc ha hat ?_, .inl rfl, hh⟩
                    rw [hsv, hxe, append_none_run t _ et i hu hi _ _ _ (by omega), hl0, hxl]; rfl
                  · by_cases hfit : xs.length + l.length ≤ (ν id).cap
                    · have hle1 : (xs.length + l.length) * te.ty.size ≤ (ν id).cap * te.ty.size := Nat.mul_le_mul_right _ hfit
                      rw [Nat.add_mul] at hle1
                      have hrun := append_room_run (P := P) (w := w) t o.type et TT i hu hi g (ν id).len (ν id).cap vs hhp pa l.length cc news (by rw [hsz]; exact hnl) (fun j v hj => hcell j v hj) (EncL_one _ _ henc) (by omega) (by rw [hsz, hnl, ← hxl, h6]; exact hle1)
                      obtain ⟨C, hC⟩ : ∃ C, C = (vs.toList.take ((ν id).len * i.size) ++ news ++ vs.toList.drop ((ν id).len * i.size + news.length)).toArray := ⟨_, rfl⟩
                      rw [← hC] at hrun
                      obtain ⟨ν', hh⟩ := inplace (w.setRow g C) C (setRow_heap w g vs C TT (0, 0) hhp) (by simp) rfl rfl rfl (fun k hk => setRow_other w g k C hk) hfit (by
                          rw [hC, ← hxl, hsz]
                          simp
                          omega) (by
                          rw [hC, ← hxl, hsz, ← hcl, ← htl]
                          simp)
                      refine ⟨_, _, _, G, ν', call_append ho hc ha hat ?_, .inl rfl, hh⟩
                      rw [hsv, hxe, hrun, hxl]
                    · obtain ⟨hc1, hc2⟩ := cap_ok w (xs.length + l.length) (ν id).cap et hroom
                      obtain ⟨ν', hh⟩ := grown_done hkill hd hall (by rw [hlen]; exact hc1) hc2 z.cells hzs et
                      have hb4 : (xs.length + l.length) * i.bytes ≤ 140737488355328 := by
                        have := Nat.mul_le_mul hrm hby
                        omega
                      have hrun := run_append_grow (P := P) w t o.type et i z hu hi hz ⟨g, 0, none⟩ (ν id).len (ν id).cap cs (by rw [hsz, ← hxl]; exact hcl) (fun j v hj => by
                          rw [Addr_add, Nat.zero_add, cell_of_row w g j vs TT (0, 0) hhp]
                          have : vs.toList[j]? = some v := by rw [← htl, List.getElem?_append_left (List.getElem?_eq_some_iff.1 hj).1]; exact hj
                          simpa using this) pa l.length cc news (by rw [hsz]; exact hnl) (fun j v hj => hcell j v hj) (by omega) (by omega) (by rw [← hxl]; exact growslice_fits (by omega) hb4)
                      refine ⟨_, _, _, G, ν', call_append ho hc ha hat ?_, .inl rfl, hh⟩
                      rw [hsv, hxe, hrun, ← hxl, hlen]
                      simp
            · simp at h
          · simp at h
        · simp at h
      · simp at h
    · simp at h
  · simp at h

theorem trunc_done (hT : TabOk P T) (hr : Rel w0 F nt G0 G ν st a w) {o : Oper} (hd : ∀ d, o.dst = some d → nt.Ok d) {t et : TypeId} {ty : Ty} {x : Operand} {hi : Option Operand} (ho : o.op = .slice t x none hi none)
    {id : Nat} {e : Ty} {xs : List e.den} {te : TE} {h : Int} (hx : ev st x = some (.s (.one (.own id)))) (hl : look T t = some ⟨ty, false, .slice et⟩) (hle : look T et = some te) (hob : look st.objs id = some (.arr e xs)) (hh : optI st hi = some (some h))
    (h0 : 0 ≤ h) (h1 : h ≤ (xs.length : Int)) : Done P w0 F nt G0 o a w ((st.turn id .dead).new o.dst (.arr e (xs.take h.toNat)) (.s (.one (.own st.nx)))) := by
  have hu := (hT _ _ hl).und.2.1
  obtain ⟨⟨hid, hsv⟩, _⟩ := ev_rel hr x _ hx
  have hsv := hsv _ _ hob
  obtain ⟨hxl, hoo⟩ := hr.h.ob _ _ hob
  have hb : ∃ k, hi.map a.eval = some (.int k h) := by
    have := optI_rel hr hi _ hh
    generalize hi.map a.eval = q at this
    cases this with
    | some k n => exact ⟨k, rfl⟩
  obtain ⟨k, hk⟩ := hb
  have hlen : (xs.take h.toNat).length = h.toNat := by simp; omega
  unfold Nu.hdr at hsv
  cases hblk : (ν id).blk with
  | none =>
    simp only [hblk] at hoo hsv
    subst hoo
    have hz : h = 0 := by simp at h1; omega
    subst hz
    obtain ⟨ν', hh'⟩ := new_nil (hr.kill id) hd e
    refine ⟨_, _, _, G, ν', ?_, .inl rfl, hh'⟩
    simp only [execOp, ho, hsv, hk, Option.map_none, Instr.sliceAt, Instr.slice, Sem.run_bind, run_underlying hu, Result.andThen_ok, Instr.sliceBounds, Sem.run_pure, bound_run (P := P) (w := w) (k := k) (n := 0) (y := 0) (Int.le_refl _) (Int.le_refl _), (hT _ _ hle).sizeOf]
    rfl
  | some g =>
    simp only [hblk] at hoo hsv
    obtain ⟨TT, vs, cs, hhp, h4, h5, h6, h7, h8⟩ := hoo
    have hrun : (execOp a.eval o).run P w = .ok (.value (.slice (some ⟨g, 0, none⟩) h.toNat (ν id).cap)) w := by
      simp only [execOp, ho, hsv, hk, Option.map_none, Instr.sliceAt, Instr.slice, Sem.run_bind, run_underlying hu, Result.andThen_ok, Instr.sliceBounds, Sem.run_pure, bound_run (P := P) (w := w) (k := k) h0 (show h ≤ ((ν id).cap : Int) by omega), (hT _ _ hle).sizeOf]
      by_cases hc : (ν id).cap = 0
      · simp [hc]
      · simp [hc, Addr.add]
    refine ⟨_, _, _, G, upd ν st.nx ⟨some g, h.toNat, (ν id).cap⟩, hrun, .inl rfl, ?_⟩
    have hle' : ObjsLe st.nx st.objs ((st.nx, .arr e (xs.take h.toNat)) :: (id, .dead) :: st.objs) := (show ObjsLe st.nx st.objs ((id, .dead) :: st.objs) from fun j _ => ⟨fun e xs hx => by
        rw [look_cons] at hx; split at hx
        · cases hx
        · exact ⟨xs, hx, rfl⟩, fun cs hx => by
        rw [look_cons] at hx; split at hx
        · cases hx
        · exact ⟨cs, hx⟩⟩).trans (fresh_le _) (Nat.le_refl _)
    have hlive : ∀ j, Live ((st.nx, .arr e (xs.take h.toNat)) :: (id, .dead) :: st.objs) j → j = st.nx ∨ (j ≠ id ∧ Live st.objs j) := fun j ⟨ob, hj, hdd⟩ => by
      rw [look_cons] at hj; split at hj
      · rename_i e1; exact .inl e1.symm
      · rw [look_cons] at hj; split at hj
        · injection hj with hj; exact absurd hj.symm hdd
        · rename_i e1; exact .inr ⟨fun e2 => e1 e2.symm, ob, hj, hdd⟩
    have hl0 : Live st.objs id := ⟨_, hob, by simp⟩
    have hH : HRel w0 F G (upd ν st.nx ⟨some g, h.toNat, (ν id).cap⟩) ((st.nx, .arr e (xs.take h.toNat)) :: (id, .dead) :: st.objs) (st.nx + 1) w := by
      refine hr.h.step (Nat.le_refl _) rfl rfl rfl (fun k _ hno => rfl) (fun j ob hj hdd => ?_) (fun j hj => ?_) (fun j b hj hk => ?_) (fun j j' b hj hj' hk hk' => ?_)
      · rcases hlive j ⟨ob, hj, hdd⟩ with e1 | ⟨hne, hlj⟩
        · subst e1
          rw [look_cons, if_pos rfl] at hj
          injection hj with hj; subst hj
          refine ⟨by rw [upd_at]; exact hlen, ?_⟩
          rw [upd_at]
          refine ⟨TT, vs, cs.take (h.toNat * e.size), hhp, by rw [hlen]; show h.toNat ≤ (ν id).cap; omega, h5, h6, EncL_take (fun x c hc => Enc_len e x c hc) _ _ _ h7, (List.take_prefix _ _).trans h8⟩
        · have hlt := hr.h.lt j hlj
          rw [look_cons, if_neg (by omega), look_cons, if_neg (fun e2 => hne e2.symm)] at hj
          exact ObRel.mono (fun _ _ _ hh => hh) (upd_eq ν st.nx _) hle' (Nat.le_succ _) hlt (fun b hb => rfl) (hr.h.ob j ob hj)
      · rcases hlive j hj with e1 | ⟨_, hlj⟩
        · subst e1; exact Nat.lt_succ_self _
        · exact Nat.lt_succ_of_lt (hr.h.lt j hlj)
      · rcases hlive j hj with e1 | ⟨_, hlj⟩
        · subst e1; rw [upd_at] at hk; injection hk with hk; subst hk; exact .inl ⟨id, hl0, hblk⟩
        · rw [upd_eq ν st.nx _ j (hr.h.lt j hlj)] at hk; exact .inl ⟨j, hlj, hk⟩
      · rcases hlive j hj with e1 | ⟨hne1, hlj⟩ <;> rcases hlive j' hj' with e2 | ⟨hne2, hlj'⟩
        · rw [e1, e2]
        · subst e1; rw [upd_at] at hk; injection hk with hk; subst hk
          rw [upd_eq ν st.nx _ j' (hr.h.lt j' hlj')] at hk'
          exact absurd (hr.h.inj j' id g hlj' hl0 hk' hblk) hne2
        · subst e2; rw [upd_at] at hk'; injection hk' with hk'; subst hk'
          rw [upd_eq ν st.nx _ j (hr.h.lt j hlj)] at hk
          exact absurd (hr.h.inj j id g hlj hl0 hk hblk) hne1
        · rw [upd_eq ν st.nx _ j (hr.h.lt j hlj)] at hk
          rw [upd_eq ν st.nx _ j' (hr.h.lt j' hlj')] at hk'
          exact hr.h.inj j j' b hlj hlj' hk hk'
    have hR := hr.on (fun _ _ _ hh => hh) (upd_eq ν st.nx ⟨some g, h.toNat, (ν id).cap⟩) hle' (Nat.le_succ _) hH hr.gx
    exact hR.put hd ⟨⟨Nat.lt_succ_self _, fun e' xs' _ => by rw [upd_at]; rfl⟩, rfl⟩
end
end Go.Sx

/- The abstract machine: contracts of functions, and calls. -/
namespace Go.Sx
set_option linter.unusedVariables false
set_option linter.unusedSimpArgs false

def VRel (G : GH) (w : World) (t : Ty) (agg : Bool) (d : t.den) (v : Value) (ns : List Nu) : Prop :=
  if agg then ∃ us : List Value, v = .agg us.toArray ∧ TyRel G w t d us ns else TyRel G w t d [v] ns

def ArgsRel (G : GH) (w : World) : (ps : List PTy) → PDen ps → List Value → List Nu → List Nu → Prop
  | [], _, vs, ns, ks => vs = [] ∧ ns = [] ∧ ks = []
  | .v t agg :: ps, d, vs, ns, ks => ∃ v vs' n1 n2, vs = v :: vs' ∧ ns = n1 ++ n2 ∧ VRel G w t agg d.1 v n1 ∧ ArgsRel G w ps d.2 vs' n2 ks
  | .box t :: ps, d, vs, ns, ks => ∃ nu b us TT vs' n1 n2 ks', nu.blk = some b ∧ vs = .pointer (some ⟨b, 0, none⟩) :: vs' ∧ ns = nu :: (n1 ++ n2) ∧ ks = nu :: ks' ∧
      w.heap[b]? = some (.cells us TT (0, 0)) ∧ TyRel G w t d.1 us.toList n1 ∧ ArgsRel G w ps d.2 vs' n2 ks'
  | .mut e :: ps, d, vs, ns, ks => ∃ nu vs' n2 ks', vs = nu.hdr :: vs' ∧ ns = nu :: n2 ∧ ks = nu :: ks' ∧ NuOwn G w nu e d.1 ∧ ArgsRel G w ps d.2 vs' n2 ks'
  | .clos g n :: ps, d, vs, ns, ks => ∃ cvs vs' : List Value, vs = .func (.func g) #[] cvs.toArray :: vs' ∧ cvs.length = n ∧ (∀ u ∈ cvs, u.oneCell' = true) ∧ ArgsRel G w ps d (cvs ++ vs') ns ks
  | .kv t agg :: ps, d, vs, ns, ks => ∃ v vs' n1 n2 ks', vs = v :: vs' ∧ ns = n1 ++ n2 ∧ ks = n1 ++ ks' ∧ VRel G w t agg d.1 v n1 ∧ ArgsRel G w ps d.2 vs' n2 ks'

def OutsRel (G : GH) (w : World) : (ps : List PTy) → ODen ps → List Nu → List Nu → Prop
  | [], _, ks, ns => ks = [] ∧ ns = []
  | .v _ _ :: ps, o, ks, ns => OutsRel G w ps o ks ns
  | .box t :: ps, o, ks, ns => ∃ nu b us TT ks' n1 n2, nu.blk = some b ∧ ks = nu :: ks' ∧ ns = n1 ++ n2 ∧ w.heap[b]? = some (.cells us TT (0, 0)) ∧ TyRel G w t o.1 us.toList n1 ∧ OutsRel G w ps o.2 ks' n2
  | .mut e :: ps, o, ks, ns => ∃ nu ks', ks = nu :: ks' ∧ NuOwn G w nu e o.1 ∧ OutsRel G w ps o.2 ks' ns
  | .clos _ _ :: ps, o, ks, ns => OutsRel G w ps o ks ns
  | .kv t _ :: ps, o, ks, ns => ∃ n1 ks' us, ks = n1 ++ ks' ∧ TyRel G w t o.1 us n1 ∧ OutsRel G w ps o.2 ks' ns

def ResRel (G : GH) (w : World) : (rs : List PTy) → RDen rs → List Value → List Nu → Prop
  | [], _, vs, ns => vs = [] ∧ ns = []
  | .v t agg :: rs, d, vs, ns => ∃ v vs' n1 n2, vs = v :: vs' ∧ ns = n1 ++ n2 ∧ VRel G w t agg d.1 v n1 ∧ ResRel G w rs d.2 vs' n2
  | .box t :: rs, d, vs, ns => ∃ nu b us TT vs' n1 n2, nu.blk = some b ∧ vs = .pointer (some ⟨b, 0, none⟩) :: vs' ∧ ns = nu :: (n1 ++ n2) ∧
      w.heap[b]? = some (.cells us TT (0, 0)) ∧ TyRel G w t d.1 us.toList n1 ∧ ResRel G w rs d.2 vs' n2
  | .mut _ :: _, _, _, _ => False
  | .clos _ _ :: _, _, _, _ => False
  | .kv _ _ :: _, _, _, _ => False

def resVal : List Value → Value
  | [v] => v
  | vs => .tuple vs.toArray

structure After (sg : Sig) (o : ODen sg.ps × RDen sg.rs) (G : GH) (w : World) (ns ks : List Nu) (rv : List Value) (ms ns' : List Nu) (G' : GH) (w' : World) : Prop where
  res : ResRel G' w' sg.rs o.2 rv ns'
  outs : OutsRel G' w' sg.ps o.1 ks ms
  nodup : (blks (ks ++ ms ++ ns')).Nodup
  own : ∀ b ∈ blks (ks ++ ms ++ ns'), (∀ off, G' b off = none) ∧ (b ∈ blks ns ∨ w.heap.size ≤ b)
  gx : GExt w.heap.size (· ∈ blks ns) G G'
  g : ∀ b o v, G' b o = some v → w'.cell? ⟨b, o, none⟩ = some v
  frame : ∀ b, b < w.heap.size → b ∉ blks ns → w'.heap[b]? = w.heap[b]?
  size : w.heap.size ≤ w'.heap.size
  os : w'.os = w.os
  output : w'.output = w.output
  tape : w'.tape = w.tape

/-- a function's contract -/
def Good (P : Program) (k : FuncId) (sg : Sig) : Prop :=
  ∀ (d : PDen sg.ps) (o : ODen sg.ps × RDen sg.rs), sg.run d = some o → ∀ (G : GH) (w : World) (vs : List Value) (ns ks : List Nu), ArgsRel G w sg.ps d vs ns ks → (blks ns).Nodup →
    (∀ b ∈ blks ns, ∀ off, G b off = none) → (∀ b o v, G b o = some v → w.cell? ⟨b, o, none⟩ = some v) →
    Calls P k vs.toArray w fun e w' => ∃ rv ms ns' G', e = .returned (resVal rv) ∧ After sg o G w ns ks rv ms ns' G' w'

/-- the function is called as a function of the program's text -/
def Callable (P : Program) (k : FuncId) : Prop := ∃ fn, P.funcs[k]? = some fn ∧ fn.body.isNone = false ∧ (fn.name == "runtime.NumGoroutine") = false

def CtxOk (P : Program) (Γ : Ctx) : Prop := ∀ k sg, look Γ k = some sg → Good P k sg ∧ Callable P k

section
variable {w0 : World} {F : Nat → Prop} {nt : Slots} {G0 G G' : GH} {ν : Nat → Nu} {objs : Objs} {nx : Nat} {st st' : St} {a : Act} {w w' : World} {P : Program} {T : Tab}

theorem TyRel_owns : ∀ (t : Ty) (d : t.den) (vs : List Value) (ns : List Nu), TyRel G w t d vs ns → ns.length = t.owns
  | .own e, xs, vs, ns, ⟨nu, h, _⟩ => by rw [h]; rfl
  | .prod a b, d, vs, ns, ⟨v1, v2, n1, n2, h1, h2, h3, h4⟩ => by rw [h2, List.length_append, TyRel_owns a _ _ _ h3, TyRel_owns b _ _ _ h4]; rfl
  | .int k, d, vs, ns, h => by rw [h.1]; rfl
  | .bool, d, vs, ns, h => by rw [h.1]; rfl
  | .str, d, vs, ns, h => by rw [h.1]; rfl
  | .slice e, d, vs, ns, h => by rw [h.1]; rfl

theorem hdr_one (nu : Nu) : nu.hdr.oneCell' = true := by unfold Nu.hdr; split <;> rfl

theorem unfold_nx : ∀ (t : Ty) (d : t.den) (nx : Nat), (unfold t d nx).2.2 = nx + t.owns
  | .prod a b, d, nx => by simp only [unfold, unfold_nx a, unfold_nx b, Ty.owns, Nat.add_assoc]
  | .own _, _, _ => rfl
  | .int _, _, _ | .bool, _, _ | .str, _, _ | .slice _, _, _ => rfl

theorem look_some_append {α : Type} {l m : List (Nat × α)} {i : Nat} {x : α} (h : look (l ++ m) i = some x) : look l i = some x ∨ look m i = some x := by
  rw [look_append] at h
  cases hl : look l i with
  | none => simp [hl] at h; exact .inr h
  | some y => simp [hl] at h; subst h; exact .inl rfl

/-- data taken apart again: its cells, and its objects -/
theorem unfold_rel : ∀ (t : Ty) (d : t.den) (nx : Nat) (vs : List Value) (ns : List Nu), TyRel G w t d vs ns → (∀ (j : Nat) (nu : Nu), ns[j]? = some nu → ν (nx + j) = nu) →
    (∀ (objs : Objs) (nx' : Nat), nx + t.owns ≤ nx' → CellsRel G ν objs nx' (unfold t d nx).1 vs) ∧
    (∀ id ob, look (unfold t d nx).2.1 id = some ob → nx ≤ id ∧ id < nx + t.owns ∧ ∃ e xs, ob = .arr e xs ∧ NuOwn G w (ν id) e xs)
  | .own e, d, nx, vs, ns, ⟨nu, h1, h2, h3⟩, hν => by
    have hn : ν nx = nu := by have := hν 0 nu (by rw [h1]; rfl); simpa using this
    refine ⟨fun objs nx' hx => ?_, fun id ob hl => ?_⟩
    · rw [h2]
      refine CellsRel.one ⟨by simp [Ty.owns] at hx; omega, fun e' xs' _ => by rw [hn]⟩ (hdr_one nu)
    · simp only [unfold] at hl
      rw [look_cons] at hl
      split at hl
      · rename_i e1; subst e1
        injection hl with hl; subst hl
        exact ⟨Nat.le_refl _, by simp [Ty.owns], e, d, rfl, by rw [hn]; exact h3⟩
      · simp [look] at hl
  | .prod p q, d, nx, vs, ns, ⟨v1, v2, n1, n2, h1, h2, h3, h4⟩, hν => by
    have hl1 := TyRel_owns p _ _ _ h3
    obtain ⟨c1, o1⟩ := unfold_rel p d.1 nx v1 n1 h3 (fun j nu hj => hν j nu (by rw [h2, List.getElem?_append_left (List.getElem?_eq_some_iff.1 hj).1]; exact hj))
    obtain ⟨c2, o2⟩ := unfold_rel q d.2 (nx + p.owns) v2 n2 h4 (fun j nu hj => by
      have := hν (p.owns + j) nu (by rw [h2, List.getElem?_append_right (by omega), hl1, Nat.add_sub_cancel_left]; exact hj)
      rw [Nat.add_assoc]; exact this)
    refine ⟨fun objs nx' hx => ?_, fun id ob hl => ?_⟩
    · simp only [Ty.owns] at hx
      simp only [unfold, unfold_nx]
      rw [h1]
      exact (c1 objs nx' (by omega)).append (c2 objs nx' (by omega))
    · simp only [unfold, unfold_nx] at hl
      simp only [Ty.owns]
      rcases look_some_append hl with h | h
      · obtain ⟨g1, g2, g3⟩ := o1 id ob h
        exact ⟨g1, by omega, g3⟩
      · obtain ⟨g1, g2, g3⟩ := o2 id ob h
        exact ⟨by omega, by omega, g3⟩
  | .int k, d, nx, vs, ns, h, _ => ⟨fun objs nx' _ => split_rel (.int k) d vs h.2, fun id ob hl => by simp [unfold, look] at hl⟩
  | .bool, d, nx, vs, ns, h, _ => ⟨fun objs nx' _ => split_rel .bool d vs h.2, fun id ob hl => by simp [unfold, look] at hl⟩
  | .str, d, nx, vs, ns, h, _ => ⟨fun objs nx' _ => split_rel .str d vs h.2, fun id ob hl => by simp [unfold, look] at hl⟩
  | .slice e, d, nx, vs, ns, h, _ => ⟨fun objs nx' _ => split_rel (.slice e) d vs h.2, fun id ob hl => by simp [unfold, look] at hl⟩

theorem unfold_len : ∀ (t : Ty) (d : t.den) (nx : Nat), (unfold t d nx).1.length = t.size
  | .prod a b, d, nx => by simp only [unfold, List.length_append, unfold_len a, unfold_len b, Ty.size]
  | .own _, _, _ | .int _, _, _ | .bool, _, _ | .str, _, _ | .slice _, _, _ => rfl

theorem mkAV_rel {t : Ty} {agg : Bool} {d : t.den} {v : Value} {ns : List Nu} {nx nx' : Nat} (h : VRel G w t agg d v ns) (hν : ∀ (j : Nat) (nu : Nu), ns[j]? = some nu → ν (nx + j) = nu) (objs : Objs) (hx : nx + t.owns ≤ nx') :
    AvRel G ν objs nx' (mkAV agg (unfold t d nx).1) v := by
  unfold VRel at h
  unfold mkAV
  cases agg with
  | true =>
    simp only [if_true] at h ⊢
    obtain ⟨us, rfl, h⟩ := h
    exact ⟨us, rfl, (unfold_rel t d nx us ns h hν).1 objs nx' hx⟩
  | false =>
    simp only [Bool.false_eq_true, if_false] at h ⊢
    have hc := (unfold_rel t d nx [v] ns h hν).1 objs nx' hx
    have hl := hc.1
    generalize (unfold t d nx).1 = cs at *
    match cs, hl with
    | [c], _ => exact hc.2 0 c v rfl rfl

/-- the objects of a value's own lists -/
def OwnIds (objs : Objs) : Ty → List Nat → Prop
  | .own e, ids => ∃ (id : Nat) (ys : List e.den), ids = [id] ∧ look objs id = some (.arr e ys)
  | .prod a b, ids => ∃ i1 i2, ids = i1 ++ i2 ∧ OwnIds objs a i1 ∧ OwnIds objs b i2
  | .int _, ids => ids = []
  | .bool, ids => ids = []
  | .str, ids => ids = []
  | .slice _, ids => ids = []

theorem OwnIds_len {objs : Objs} : ∀ (t : Ty) (ids : List Nat), OwnIds objs t ids → ids.length = t.owns
  | .own e, ids, ⟨id, ys, h, _⟩ => by rw [h]; rfl
  | .prod a b, ids, ⟨i1, i2, h, h1, h2⟩ => by rw [h, List.length_append, OwnIds_len a _ h1, OwnIds_len b _ h2]; rfl
  | .int _, ids, h => by have : ids = [] := h; rw [this]; rfl
  | .bool, ids, h => by have : ids = [] := h; rw [this]; rfl
  | .str, ids, h => by have : ids = [] := h; rw [this]; rfl
  | .slice _, ids, h => by have : ids = [] := h; rw [this]; rfl

/-- the kept objects are what they were taken for -/
def KeptOk (objs : Objs) : List PTy → List Nat → Prop
  | [], ids => ids = []
  | .v _ _ :: ps, ids => KeptOk objs ps ids
  | .box _ :: ps, ids => ∃ id ids' cs, ids = id :: ids' ∧ look objs id = some (.box cs) ∧ KeptOk objs ps ids'
  | .mut e :: ps, ids => ∃ (id : Nat) (ids' : List Nat) (ys : List e.den), ids = id :: ids' ∧ look objs id = some (.arr e ys) ∧ KeptOk objs ps ids'
  | .clos _ _ :: ps, ids => KeptOk objs ps ids
  | .kv t _ :: ps, ids => ∃ i1 i2, ids = i1 ++ i2 ∧ OwnIds objs t i1 ∧ KeptOk objs ps i2

/-- what stands at a kept object afterwards -/
def KeptOb (G : GH) (ν : Nat → Nu) (w : World) (objs0 : Objs) (nx' : Nat) (id : Nat) (ob : Ob) : Prop :=
  (∃ cs0 b us TT cs, look objs0 id = some (.box cs0) ∧ ob = .box cs ∧ (ν id).blk = some b ∧ w.heap[b]? = some (.cells us TT (0, 0)) ∧ ∀ objs, CellsRel G ν objs nx' cs us.toList) ∨
  (∃ (e : Ty) (ys xs : List e.den), look objs0 id = some (.arr e ys) ∧ ob = .arr e xs ∧ NuOwn G w (ν id) e xs)

theorem reArr_spec (objs0 : Objs) {nx' : Nat} : ∀ (t : Ty) (d : t.den) (us : List Value) (ids : List Nat), TyRel G w t d us (ids.map ν) → OwnIds objs0 t ids →
    (∀ id ob, look (reArr t d ids) id = some ob → id ∈ ids ∧ KeptOb G ν w objs0 nx' id ob) ∧ ∀ id ∈ ids, ∃ ob, look (reArr t d ids) id = some ob
  | .own e, d, us, ids, hr, ⟨id, ys, h, hlo⟩ => by
    subst h
    obtain ⟨nu, h2, h1, h3⟩ := hr
    simp only [List.map_cons, List.map_nil, List.cons.injEq, and_true] at h2
    refine ⟨fun i ob hl => ?_, fun i hi => ?_⟩
    · simp only [reArr, look_cons] at hl
      split at hl
      · rename_i e3; subst e3
        injection hl with hl; subst hl
        exact ⟨List.mem_singleton.2 rfl, .inr ⟨e, ys, d, hlo, rfl, by rw [h2]; exact h3⟩⟩
      · simp [look] at hl
    · rw [List.mem_singleton.1 hi]
      exact ⟨.arr e d, by simp [reArr, look]⟩
  | .prod a b, d, us, ids, hr, ⟨i1, i2, h, ho1, ho2⟩ => by
    subst h
    obtain ⟨u1, u2, n1, n2, h1, h2, h3, h4⟩ := hr
    have hl1 := TyRel_owns a _ _ _ h3
    have hl2 := OwnIds_len a _ ho1
    rw [List.map_append] at h2
    obtain ⟨e1, e2⟩ := List.append_inj h2 (by rw [List.length_map, hl1, hl2])
    subst e1 e2
    have t1 : (i1 ++ i2).take a.owns = i1 := by rw [← hl2]; simp
    have t2 : (i1 ++ i2).drop a.owns = i2 := by rw [← hl2]; simp
    obtain ⟨a1, a2⟩ := reArr_spec objs0 a d.1 _ i1 h3 ho1
    obtain ⟨b1, b2⟩ := reArr_spec objs0 b d.2 _ i2 h4 ho2
    simp only [reArr, t1, t2]
    refine ⟨fun i ob hl => ?_, fun i hi => ?_⟩
    · rcases look_some_append hl with hl | hl
      · obtain ⟨g1, g2⟩ := a1 i ob hl
        exact ⟨List.mem_append_left _ g1, g2⟩
      · obtain ⟨g1, g2⟩ := b1 i ob hl
        exact ⟨List.mem_append_right _ g1, g2⟩
    · rcases List.mem_append.1 hi with hi | hi
      · obtain ⟨ob, ho⟩ := a2 i hi
        exact ⟨ob, by rw [look_append, ho]⟩
      · obtain ⟨ob, ho⟩ := b2 i hi
        rw [look_append]
        cases hq : look (reArr a d.1 i1) i with
        | some ob' => exact ⟨ob', rfl⟩
        | none => exact ⟨ob, ho⟩
  | .int _, d, us, ids, hr, h => by have : ids = [] := h; subst this; exact ⟨fun i ob hl => by simp [reArr, look] at hl, fun i hi => by simp at hi⟩
  | .bool, d, us, ids, hr, h => by have : ids = [] := h; subst this; exact ⟨fun i ob hl => by simp [reArr, look] at hl, fun i hi => by simp at hi⟩
  | .str, d, us, ids, hr, h => by have : ids = [] := h; subst this; exact ⟨fun i ob hl => by simp [reArr, look] at hl, fun i hi => by simp at hi⟩
  | .slice _, d, us, ids, hr, h => by have : ids = [] := h; subst this; exact ⟨fun i ob hl => by simp [reArr, look] at hl, fun i hi => by simp at hi⟩

theorem putOuts_spec (objs0 : Objs) : ∀ (ps : List PTy) (o : ODen ps) (ids : List Nat) (ks ms : List Nu) (objs : Objs) (nx nx' : Nat), OutsRel G w ps o ks ms → KeptOk objs0 ps ids → ks = ids.map ν → (∀ (j : Nat) (nu : Nu), ms[j]? = some nu → ν (nx + j) = nu) → nx + ms.length ≤ nx' →
    (putOuts ps o ids objs nx).2 = nx + ms.length ∧
    ∀ id ob, look (putOuts ps o ids objs nx).1 id = some ob → (nx ≤ id ∧ id < nx + ms.length ∧ ∃ e xs, ob = .arr e xs ∧ NuOwn G w (ν id) e xs) ∨ (id ∈ ids ∧ KeptOb G ν w objs0 nx' id ob) ∨ (look objs id = some ob ∧ id ∉ ids)
  | [], o, ids, ks, ms, objs, nx, nx', ⟨_, h⟩, hk, _, _, _ => by subst h; simp only [KeptOk] at hk; subst hk; exact ⟨rfl, fun id ob hl => .inr (.inr ⟨hl, by simp⟩)⟩
  | .v _ _ :: ps, o, ids, ks, ms, objs, nx, nx', h, hk, hks, hν, hx => putOuts_spec objs0 ps o ids ks ms objs nx nx' h hk hks hν hx
  | .box t :: ps, o, ids, ks, ms, objs, nx, nx', ⟨nu, b, us, TT, ks', n1, n2, hnb, h1, h2, h3, h4, h5⟩, hk, hks, hν, hx => by
    obtain ⟨id, ids', cs0, rfl, hlo, hk'⟩ := hk
    rw [h1] at hks
    simp only [List.map_cons, List.cons.injEq] at hks
    obtain ⟨hνid, hks'⟩ := hks
    have hl1 := TyRel_owns t _ _ _ h4
    have hlen : ms.length = t.owns + n2.length := by rw [h2, List.length_append, hl1]
    obtain ⟨c1, o1⟩ := unfold_rel t o.1 nx us.toList n1 h4 (fun j nu hj => hν j nu (by rw [h2, List.getElem?_append_left (List.getElem?_eq_some_iff.1 hj).1]; exact hj))
    obtain ⟨e1, e2⟩ := putOuts_spec objs0 ps o.2 ids' ks' n2 ((id, .box (unfold t o.1 nx).1) :: ((unfold t o.1 nx).2.1 ++ objs)) (nx + t.owns) nx' h5 hk' hks' (fun j nu hj => by
      have := hν (t.owns + j) nu (by rw [h2, List.getElem?_append_right (by omega), hl1, Nat.add_sub_cancel_left]; exact hj)
      rw [Nat.add_assoc]; exact this) (by omega)
    simp only [putOuts, unfold_nx]
    refine ⟨by rw [e1, hlen]; omega, fun i ob hl => ?_⟩
    rcases e2 i ob hl with ⟨g1, g2, g3⟩ | ⟨g1, g2⟩ | ⟨g, gn⟩
    · exact .inl ⟨by omega, by omega, g3⟩
    · exact .inr (.inl ⟨List.mem_cons_of_mem _ g1, g2⟩)
    · rw [look_cons] at g
      split at g
      · rename_i e3; subst e3
        injection g with g; subst g
        exact .inr (.inl ⟨List.mem_cons_self .., .inl ⟨cs0, b, us, TT, _, hlo, rfl, by rw [← hνid]; exact hnb, h3, fun objs => c1 objs nx' (by omega)⟩⟩)
      · rename_i hne
        rcases look_some_append g with g | g
        · obtain ⟨g1, g2, g3⟩ := o1 i ob g
          exact .inl ⟨g1, by omega, g3⟩
        · exact .inr (.inr ⟨g, fun hm => by rcases List.mem_cons.1 hm with hm | hm; exact hne hm.symm; exact gn hm⟩)
  | .mut e :: ps, o, ids, ks, ms, objs, nx, nx', ⟨nu, ks', h1, h2, h3⟩, hk, hks, hν, hx => by
    obtain ⟨id, ids', ys, rfl, hlo, hk'⟩ := hk
    rw [h1] at hks
    simp only [List.map_cons, List.cons.injEq] at hks
    obtain ⟨hνid, hks'⟩ := hks
    obtain ⟨e1, e2⟩ := putOuts_spec objs0 ps o.2 ids' ks' ms ((id, .arr e o.1) :: objs) nx nx' h3 hk' hks' hν hx
    simp only [putOuts]
    refine ⟨e1, fun i ob hl => ?_⟩
    rcases e2 i ob hl with g | ⟨g1, g2⟩ | ⟨g, gn⟩
    · exact .inl g
    · exact .inr (.inl ⟨List.mem_cons_of_mem _ g1, g2⟩)
    · rw [look_cons] at g
      split at g
      · rename_i e3; subst e3
        injection g with g; subst g
        exact .inr (.inl ⟨List.mem_cons_self .., .inr ⟨e, ys, o.1, hlo, rfl, by rw [← hνid]; exact h2⟩⟩)
      · rename_i hne
        exact .inr (.inr ⟨g, fun hm => by rcases List.mem_cons.1 hm with hm | hm; exact hne hm.symm; exact gn hm⟩)
  | .clos _ _ :: ps, o, ids, ks, ms, objs, nx, nx', h, hk, hks, hν, hx => putOuts_spec objs0 ps o ids ks ms objs nx nx' h hk hks hν hx
  | .kv t agg :: ps, o, ids, ks, ms, objs, nx, nx', ⟨n1, ks', us, h1, h2, h3⟩, ⟨i1, i2, hi, ho, hk'⟩, hks, hν, hx => by
    subst hi
    have hl1 := TyRel_owns t _ _ _ h2
    have hl2 := OwnIds_len t _ ho
    rw [h1, List.map_append] at hks
    obtain ⟨q1, q2⟩ := List.append_inj hks (by rw [List.length_map, hl1, hl2])
    subst q1 q2
    have t1 : (i1 ++ i2).take t.owns = i1 := by rw [← hl2]; simp
    have t2 : (i1 ++ i2).drop t.owns = i2 := by rw [← hl2]; simp
    obtain ⟨r1, r2⟩ := reArr_spec (nx' := nx') objs0 t o.1 us i1 h2 ho
    obtain ⟨e1, e2⟩ := putOuts_spec objs0 ps o.2 i2 (i2.map ν) ms (reArr t o.1 i1 ++ objs) nx nx' h3 hk' rfl hν hx
    simp only [putOuts, t1, t2]
    refine ⟨e1, fun i ob hl => ?_⟩
    rcases e2 i ob hl with g | ⟨g1, g2⟩ | ⟨g, gn⟩
    · exact .inl g
    · exact .inr (.inl ⟨List.mem_append_right _ g1, g2⟩)
    · rw [look_append] at g
      cases hq : look (reArr t o.1 i1) i with
      | some ob' =>
        rw [hq] at g
        injection g with g; subst g
        obtain ⟨g1, g2⟩ := r1 i _ hq
        exact .inr (.inl ⟨List.mem_append_left _ g1, g2⟩)
      | none =>
        rw [hq] at g
        refine .inr (.inr ⟨g, fun hm2 => ?_⟩)
        rcases List.mem_append.1 hm2 with h | h
        · obtain ⟨ob', ho'⟩ := r2 i h
          rw [hq] at ho'; cases ho'
        · exact gn h

/-- what stands at a new object -/
def NewOb (G : GH) (ν : Nat → Nu) (w : World) (nx' : Nat) (id : Nat) (ob : Ob) : Prop :=
  (∃ (e : Ty) (xs : List e.den), ob = .arr e xs ∧ NuOwn G w (ν id) e xs) ∨
  ∃ cs b us TT, ob = .box cs ∧ (ν id).blk = some b ∧ w.heap[b]? = some (.cells us TT (0, 0)) ∧ ∀ objs, CellsRel G ν objs nx' cs us.toList

theorem putRes_spec : ∀ (rs : List PTy) (d : RDen rs) (vs : List Value) (ns : List Nu) (objs : Objs) (nx nx' : Nat), ResRel G w rs d vs ns → (∀ (j : Nat) (nu : Nu), ns[j]? = some nu → ν (nx + j) = nu) → nx + ns.length ≤ nx' →
    (putRes rs d objs nx).2.2 = nx + ns.length ∧
    (∀ id ob, look (putRes rs d objs nx).2.1 id = some ob → (nx ≤ id ∧ id < nx + ns.length ∧ NewOb G ν w nx' id ob) ∨ look objs id = some ob) ∧
    ∀ objs', AvsRel G ν objs' nx' (putRes rs d objs nx).1 vs
  | [], d, vs, ns, objs, nx, nx', ⟨h1, h2⟩, _, _ => by subst h1 h2; exact ⟨rfl, fun id ob hl => .inr hl, fun objs' => ⟨rfl, fun j x v hj => by simp [putRes] at hj⟩⟩
  | .v t agg :: rs, d, vs, ns, objs, nx, nx', ⟨v, vs', n1, n2, h1, h2, h3, h4⟩, hν, hx => by
    have hl1 : n1.length = t.owns := by
      unfold VRel at h3
      split at h3
      · obtain ⟨us, _, h3⟩ := h3; exact TyRel_owns _ _ _ _ h3
      · exact TyRel_owns _ _ _ _ h3
    have hlen : ns.length = t.owns + n2.length := by rw [h2, List.length_append, hl1]
    have hν1 : ∀ (j : Nat) (nu : Nu), n1[j]? = some nu → ν (nx + j) = nu := fun j nu hj => hν j nu (by rw [h2, List.getElem?_append_left (List.getElem?_eq_some_iff.1 hj).1]; exact hj)
    obtain ⟨us, hus⟩ : ∃ us, TyRel G w t d.1 us n1 := by
      unfold VRel at h3
      split at h3
      · obtain ⟨us, _, h3⟩ := h3; exact ⟨us, h3⟩
      · exact ⟨_, h3⟩
    obtain ⟨_, o1⟩ := unfold_rel t d.1 nx us n1 hus hν1
    obtain ⟨e1, e2, e3⟩ := putRes_spec rs d.2 vs' n2 ((unfold t d.1 nx).2.1 ++ objs) (nx + t.owns) nx' h4 (fun j nu hj => by
      have := hν (t.owns + j) nu (by rw [h2, List.getElem?_append_right (by omega), hl1, Nat.add_sub_cancel_left]; exact hj)
      rw [Nat.add_assoc]; exact this) (by omega)
    simp only [putRes, unfold_nx]
    refine ⟨by rw [e1, hlen]; omega, fun i ob hl => ?_, fun objs' => ?_⟩
    · rcases e2 i ob hl with ⟨g1, g2, g3⟩ | g
      · exact .inl ⟨by omega, by omega, g3⟩
      · rcases look_some_append g with g | g
        · obtain ⟨g1, g2, g3⟩ := o1 i ob g
          exact .inl ⟨g1, by omega, .inl g3⟩
        · exact .inr g
    · obtain ⟨e4, e5⟩ := e3 objs'
      rw [h1]
      refine ⟨by simp [e4], fun j x u hj hu => ?_⟩
      cases j with
      | zero => simp at hj hu; subst hj hu; exact mkAV_rel h3 hν1 objs' (by omega)
      | succ j => exact e5 j x u (by simpa using hj) (by simpa using hu)
  | .box t :: rs, d, vs, ns, objs, nx, nx', ⟨nu, b, us, TT, vs', n1, n2, h0, h1, h2, h3, h4, h5⟩, hν, hx => by
    have hl1 := TyRel_owns _ _ _ _ h4
    have hlen : ns.length = 1 + t.owns + n2.length := by rw [h2, List.length_cons, List.length_append, hl1]; omega
    have hν0 : ν nx = nu := by have := hν 0 nu (by rw [h2]; rfl); simpa using this
    obtain ⟨c1, o1⟩ := unfold_rel t d.1 (nx + 1) us.toList n1 h4 (fun j nu hj => by
      have := hν (1 + j) nu (by rw [h2, Nat.add_comm 1 j, List.getElem?_cons_succ, List.getElem?_append_left (List.getElem?_eq_some_iff.1 hj).1]; exact hj)
      rw [Nat.add_assoc]; exact this)
    obtain ⟨e1, e2, e3⟩ := putRes_spec rs d.2 vs' n2 ((nx, .box (unfold t d.1 (nx + 1)).1) :: ((unfold t d.1 (nx + 1)).2.1 ++ objs)) (nx + 1 + t.owns) nx' h5 (fun j nu hj => by
      have := hν (1 + t.owns + j) nu (by rw [h2, show 1 + t.owns + j = (t.owns + j) + 1 by omega, List.getElem?_cons_succ, List.getElem?_append_right (by omega), hl1, Nat.add_sub_cancel_left]; exact hj)
      rw [show nx + 1 + t.owns + j = nx + (1 + t.owns + j) by omega]; exact this) (by omega)
    simp only [putRes, unfold_nx]
    refine ⟨by rw [e1, hlen]; omega, fun id ob hl => ?_, fun objs' => ?_⟩
    · rcases e2 id ob hl with ⟨g1, g2, g3⟩ | g
      · exact .inl ⟨by omega, by omega, g3⟩
      · rw [look_cons] at g
        split at g
        · rename_i e; subst e
          injection g with g; subst g
          exact .inl ⟨Nat.le_refl _, by omega, .inr ⟨_, b, us, TT, rfl, by rw [hν0]; exact h0, h3, fun objs' => c1 objs' nx' (by omega)⟩⟩
        · rcases look_some_append g with g | g
          · obtain ⟨g1, g2, g3⟩ := o1 id ob g
            exact .inl ⟨by omega, by omega, .inl g3⟩
          · exact .inr g
    · obtain ⟨e4, e5⟩ := e3 objs'
      rw [h1]
      refine ⟨by simp [e4], fun j x u hj hu => ?_⟩
      cases j with
      | zero =>
        simp at hj hu; subst hj hu
        exact ⟨⟨by omega, fun _ _ => ⟨b, by rw [hν0]; exact h0, rfl⟩⟩, rfl⟩
      | succ j => exact e5 j x u (by simpa using hj) (by simpa using hu)
  | .mut _ :: _, _, _, _, _, _, _, h, _, _ => h.elim
  | .clos _ _ :: _, _, _, _, _, _, _, h, _, _ => h.elim
  | .kv _ _ :: _, _, _, _, _, _, _, h, _, _ => h.elim

theorem resAV_rel {xs : List AV} {vs : List Value} (h : AvsRel G ν objs nx xs vs) : AValRel G ν objs nx (resAV xs) (resVal vs) := by
  obtain ⟨h1, h2⟩ := h
  match xs, vs, h1 with
  | [], [], _ => exact ⟨[], rfl, rfl, fun j x v hj => by simp at hj⟩
  | [x], [v], _ => exact h2 0 x v rfl rfl
  | x :: y :: xs, v :: u :: vs, h1 => exact ⟨v :: u :: vs, rfl, h1, h2⟩
end
end Go.Sx
