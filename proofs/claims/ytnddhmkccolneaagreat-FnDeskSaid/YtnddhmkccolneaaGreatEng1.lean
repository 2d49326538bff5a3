/- The abstract machine, part 1: a reflective interpreter of the program's code over data, with its soundness over the model. -/
import Derived.WalkKit
import Derived.LoopN
import Derived.KernelRfl
import Derived.ProofKit
import Derived.OpenShut
import Derived.JoinedCond
open Nat renaming beq→aZ,blt→Ii,succ_mul→fC,add_comm→qo,add_assoc→dN,lt_of_lt_of_le→l9,mul_le_mul_right→gA,min_eq_left→mg,add_zero→c9,eq_of_beq_eq_true→wS,add_mul→kR,le_refl→Xj,zero_le→kP,le_trans→eO,le_succ→A9,lt_succ_self→nj
open List renaming length→Xa,getD→Xc,append→Xe,replicate→Xp,length_append→Xv,length_cons→Xs,drop_drop→A6,take_length_add_append→Xfw,drop_left→Xgz,getElem?_append→fh,getElem?_take→mc,getElem?_drop→ma,mem_append_left→Xm,mem_append_right→Xi,set_eq_take_append_cons_drop→Xey,getElem?_eq_some_iff→dJ,mem_cons_of_mem→Xg,mem_map_of_mem→eG,mem_cons_self→Xl,mem_singleton→cq,length_take→ca,length_drop→kO,pairwise_cons→Xw,getElem?_eq_getElem→Xr,mapM_cons→EX,map_cons→bn,getElem?_map→d5,eq_nil_of_length_eq_zero→ee,length_map→Xu,map_nil→eL,map_toArray→A8,mem_map→Xx,mem_cons→Xq,pairwise_append→ef,mem_append→Xo,map_append→Xy,pairwise_singleton→sJ,nodup_cons→cx,nodup_nil→qC
open Bool renaming and_eq_true→Xh
open Option renaming map_some→me,map_eq_some_iff→Xz
open Array renaming getElem?_setIfInBounds_ne→Xff,length_toList→fW
namespace Go.Sx
abbrev We:=@if_neg
abbrev Wf:=@if_pos
abbrev Wc:=@decide_eq_true
abbrev Wg:=@decide_eq_false
abbrev Wh:=@decide_eq_true_eq
abbrev Wn:=@decide_eq_false_iff_not
abbrev WV:=@of_decide_eq_true
abbrev Wy:=@absurd
abbrev Ws:=@congrArg
abbrev W1:=@if_true
abbrev dO:=@if_false
theorem Wa{A:Type}(a b:A):cond true a b=a:=rfl
theorem Wb{A:Type}(a b:A):cond false a b=b:=rfl
inductive Ty where
 |int (k:IntKind)|bool|str|slice (e:Ty)|own (e:Ty)|prod (a b:Ty)
 deriving DecidableEq
def Ty.den:Ty->Type
 | .int _=>Int
 | .bool=>Bool
 | .str=>List UInt8
 | .slice e=>List e.den
 | .own e=>List e.den
 | .prod a b=>a.den×b.den
def Ty.size:Ty->Nat
 | .prod a b=>a.size+b.size
 |_=>1
def Ty.dflt:(t:Ty)->t.den
 | .int _=>(0:Int)
 | .bool=>false
 | .str=>([]:List UInt8)
 | .slice e=>([]:List e.den)
 | .own e=>([]:List e.den)
 | .prod a b=>(a.dflt,b.dflt)
def Ty.noRo:Ty->Bool
 | .slice _=>false
 | .own e=>e.noRo
 | .prod a b=>a.noRo&&b.noRo
 |_=>true
def Ty.ro:Ty->Ty
 | .own e=>.slice e.ro
 | .slice e=>.slice e
 | .prod a b=>.prod a.ro b.ro
 | .int k=>.int k
 | .bool=>.bool
 | .str=>.str
theorem lD:∀t:Ty,t.ro.den=t.den
 | .own e=>Ws List (lD e)
 | .slice _=>rfl
 | .prod a b=>by show(a.ro.den×b.ro.den)=(a.den×b.den);rw[lD a,lD b]
 | .int _| .bool| .str=>rfl
def sE(t:Ty)(d:t.den):t.ro.den:=cast (lD t).symm d
def dX(t:Ty)(l:List t.den):List t.ro.den:=cast (Ws List (lD t).symm) l
def D1(t a:Ty)(d:t.den):Option a.den:=
 if h:t=a then some (h▸d)else none
def jy(e e':Ty)(l:List e.den):Option (List e'.den):=
 if h:e=e' then some (h▸l)else none
inductive Cell where
 |val (t:Ty) (d:t.den)
 |nils
 |own (id:Nat)
 |vw (id lo hi:Nat)
 |aptr (id:Nat)
 |ptr (id off:Nat)
 |eptr (id i off:Nat)
 |rptr (t:Ty) (d:t.den) (off:Nat)
 |clos (f:FuncId) (caps:List Nat)
 |junk
inductive AV where
 |one (c:Cell)
 |agg (cs:List Cell)
inductive AVal where
 |s (x:AV)
 |tup (xs:List AV)
inductive Ob where
 |box (cs:List Cell)
 |arr (e:Ty) (xs:List e.den)
 |hole (e:Ty) (xs:List e.den) (i p:Nat)
 |dead
abbrev af:=List (Nat×Ob)
structure St where
 env:List (Nat×AVal)
 objs:af
 nx:Nat
universe u
def Wt{α:Type u}:List (Nat×α)->Nat->Option α
 | [],_=>none
 |(k,v)::l,i=>match aZ k i with|true=>some v|false=>Wt l i
abbrev GH:=Nat->Nat->Option Value
abbrev CS:=Nat->Nat->Prop
def CS.disj(A B:CS):Prop:=∀b o,A b o->B b o->False
def CS.le(A B:CS):Prop:=∀b o,A b o->B b o
def rng(b lo n:Nat):CS:=λa o=>a=b/\lo<=o/\o<lo+n
def Sep(l:List CS):Prop:=l.Pairwise CS.disj
structure Nu where
 blk:Option Nat
 off:Nat
 len:Nat
 cap:Nat
 esz:Nat
def Nu.hdr(n:Nu):Value:=match n.blk with
 |none=>.slice none 0 0
 |some b=>.slice (some ⟨b,n.off,none⟩) n.len n.cap
def Nu.vhdr(n:Nu)(lo hi:Nat):Value:=match n.blk with
 |none=>.slice none 0 0
 |some b=>.slice (some ⟨b,if n.cap=lo then n.off else n.off+lo*n.esz,none⟩) (hi-lo) (n.cap-lo)
structure Pc where
 nu:Nu
 fp:CS
def nW(G:GH)(b off:Nat)(cs:List Value):Prop:=∀(j:Nat) (v:Value),cs[j]?=some v->G b (off+j)=some v
def bO{α:Type}(R:α->List Value->Prop):List α->List Value->Prop
 | [],cs=>cs= []
 |x::l,cs=>∃a b,cs=a++b/\R x a/\bO R l b
def n8{α:Type}(G:GH)(R:α->List Value->Prop)(l:List α)(v:Value):Prop:=
 (v= .slice none 0 0/\l= [])\/
 (∃b d c e,v= .slice (some ⟨b,d,none⟩) l.length c/\l.length<=c/\c<=maxLen/\bO R l e/\nW G b d e)\/
 ∃a c,v= .slice (some a) 0 c/\l= []
def Enc(G:GH):(t:Ty)->t.den->List Value->Prop
 | .int k,n,cs=>cs= [.int k n]
 | .bool,b,cs=>cs= [.bool b]
 | .str,s,cs=>cs= [.string ⟨List.toArray s⟩]
 | .slice e,l,cs=>∃v,cs= [v]/\n8 G (Enc G e) l v
 | .own _,_,_=>False
 | .prod a b,d,cs=>∃c f,cs=c++f/\Enc G a d.1 c/\Enc G b d.2 f
def CellRel(G:GH)(ν:Nat->Nu)(nx:Nat):Cell->Value->Prop
 | .val t d,v=>Enc G t d [v]
 | .nils,v=>v= .slice none 0 0
 | .own a,v=>a<nx/\v=(ν a).hdr
 | .vw a lo hi,v=>a<nx/\lo<=hi/\hi<=(ν a).len/\((ν a).blk=none->hi=0)/\v=(ν a).vhdr lo hi
 | .aptr a,v=>a<nx/\∃b,(ν a).blk=some b/\v= .pointer (some ⟨b,(ν a).off,none⟩)
 | .ptr a off,v=>a<nx/\∃b,(ν a).blk=some b/\v= .pointer (some ⟨b,(ν a).off+off,none⟩)
 | .eptr a i off,v=>a<nx/\i<(ν a).len/\∃b,(ν a).blk=some b/\v= .pointer (some ⟨b,(ν a).off+(i*(ν a).esz+off),none⟩)
 | .rptr t d off,v=>∃b o e,v= .pointer (some ⟨b,o+off,none⟩)/\Enc G t d e/\nW G b o e
 | .clos f caps,v=>∃c:List Value,v= .func (.func f) #[] c.toArray/\c.length=caps.length/\
   ∀(j a:Nat) (u:Value),caps[j]?=some a->c[j]?=some u->a<nx/\u.oneCell'=true/\∃b,(ν a).blk=some b/\u= .pointer (some ⟨b,(ν a).off+0,none⟩)
 | .junk,_=>True
def CellsRel(G:GH)(ν:Nat->Nu)(nx:Nat)(cs:List Cell)(vs:List Value):Prop:=
 vs.length=cs.length/\∀(j:Nat) (c:Cell) (v:Value),cs[j]?=some c->vs[j]?=some v->CellRel G ν nx c v/\v.oneCell'=true
def AvRel(G:GH)(ν:Nat->Nu)(nx:Nat):AV->Value->Prop
 | .one c,v=>CellRel G ν nx c v/\v.oneCell'=true
 | .agg cs,v=>∃a:List Value,v= .agg a.toArray/\CellsRel G ν nx cs a
def N2(G:GH)(ν:Nat->Nu)(nx:Nat)(xs:List AV)(vs:List Value):Prop:=
 vs.length=xs.length/\∀(j:Nat) (x:AV) (v:Value),xs[j]?=some x->vs[j]?=some v->AvRel G ν nx x v
def AValRel(G:GH)(ν:Nat->Nu)(nx:Nat):AVal->Value->Prop
 | .s x,v=>AvRel G ν nx x v
 | .tup xs,v=>∃a:List Value,v= .tuple a.toArray/\N2 G ν nx xs a
def Row(w:World)(b n:Nat):Prop:=∃a T,w.heap[b]?=some (.cells a T (0,0))/\n<=a.size
def Mem(w:World)(b o:Nat)(vs:List Value):Prop:=∀(j:Nat) (v:Value),vs[j]?=some v->w.cell? ⟨b,o+j,none⟩=some v
def cz{α:Type}(R:α->List Value->List Pc->Prop):List α->List Value->List Pc->Prop
 | [],a,ps=>a= []/\ps= []
 |x::l,a,ps=>∃b c d e,a=b++c/\ps=d++e/\R x b d/\cz R l c e
def aq{α:Type}(w:World)(R:α->List Value->List Pc->Prop)(n:Nat)(nu:Nu)(xs:List α)(S:CS):Prop:=
 xs.length=nu.len/\nu.esz=n/\match nu.blk with
  |none=>xs= []
  |some b=>xs.length<=nu.cap/\nu.cap<=maxLen/\Row w b (nu.off+nu.cap*n)/\∃c a,cz R xs c a/\Mem w b nu.off c/\
    Sep (rng b nu.off (nu.cap*n)::a.map Pc.fp)/\∀s∈rng b nu.off (nu.cap*n)::a.map Pc.fp,CS.le s S
def WD(G:GH)(w:World):(t:Ty)->t.den->List Value->List Pc->Prop
 | .own e,h,c,ns=>∃p:Pc,ns= [p]/\c= [p.nu.hdr]/\aq w (WD G w e) e.size p.nu h p.fp
 | .prod a b,d,c,ns=>∃v1 v2 f g,c=v1++v2/\ns=f++g/\WD G w a d.1 v1 f/\WD G w b d.2 v2 g
 | .int k,d,c,ns=>ns= []/\Enc G (.int k) d c
 | .bool,d,c,ns=>ns= []/\Enc G .bool d c
 | .str,d,c,ns=>ns= []/\Enc G .str d c
 | .slice e,d,c,ns=>ns= []/\Enc G (.slice e) d c
def lR{α:Type}(w:World)(R:α->List Value->List Pc->Prop)(n:Nat)(nu f:Nu)(xs:List α)(i:Nat)(S:CS):Prop:=
 xs.length=nu.len/\nu.esz=n/\i<xs.length/\∃b,nu.blk=some b/\f.blk=some b/\f.off=nu.off+i*n/\xs.length<=nu.cap/\nu.cap<=maxLen/\Row w b (nu.off+nu.cap*n)/\
  ∃d e a c,cz R (xs.take i) d a/\cz R (xs.drop (i+1)) e c/\Mem w b nu.off d/\Mem w b (nu.off+(i+1)*n) e/\
   Sep (rng b nu.off (i*n)::rng b (nu.off+(i+1)*n) ((nu.cap-(i+1))*n)::(a++c).map Pc.fp)/\
   ∀s∈rng b nu.off (i*n)::rng b (nu.off+(i+1)*n) ((nu.cap-(i+1))*n)::(a++c).map Pc.fp,CS.le s S
def dQ(G:GH)(ν:Nat->Nu)(nx:Nat)(w:World)(a:Nat)(S:CS):Ob->Prop
 | .box cs=>∃b c,(ν a).blk=some b/\Row w b ((ν a).off+cs.length)/\Mem w b (ν a).off c/\CellsRel G ν nx cs c/\CS.le (rng b (ν a).off cs.length) S
 | .arr e xs=>aq w (WD G w e) e.size (ν a) xs S
 | .hole e xs i p=>p<nx/\lR w (WD G w e) e.size (ν a) (ν p) xs i S
 | .dead=>True
def Live(objs:af)(b:Nat):Prop:=∃a,Wt objs b=some a/\a≠ .dead
structure WLe(F:CS)(w w':World):Prop where
 size:w.heap.size<=w'.heap.size
 row:∀(b:Nat) (vs:Array Value) (T:TypeId),w.heap[b]?=some (Obj.cells vs T (0,0))->∃ay:Array Value,w'.heap[b]?=some (Obj.cells ay T (0,0))/\ay.size=vs.size
 cell:∀(b o:Nat),b<w.heap.size->¬F b o->w'.cell? ⟨b,o,none⟩=w.cell? ⟨b,o,none⟩
 whole:∀(b:Nat),b<w.heap.size->(∀o,¬F b o)->w'.heap[b]?=w.heap[b]?
 os:w'.os=w.os
 output:w'.output=w.output
 tape:w'.tape=w.tape
structure HR(w0:World)(F:CS)(G:GH)(ν:Nat->Nu)(φ:Nat->CS)(objs:af)(nx:Nat)(w:World):Prop where
 g:∀b o v,G b o=some v->w.cell? ⟨b,o,none⟩=some v
 ob:∀id ob,Wt objs id=some ob->dQ G ν nx w id (φ id) ob
 gf:∀id b o,Live objs id->φ id b o->G b o=none
 inj:∀id cJ b o,Live objs id->Live objs cJ->φ id b o->φ cJ b o->id=cJ
 own:∀id b o,Live objs id->φ id b o->w0.heap.size<=b\/F b o
 lt:∀id,Live objs id->id<nx
 bl:∀id b o,Live objs id->φ id b o->b<w.heap.size
 le:WLe F w0 w
def HRel(w0:World)(F:CS)(G:GH)(ν:Nat->Nu)(objs:af)(nx:Nat)(w:World):Prop:=∃φ,HR w0 F G ν φ objs nx w
structure GExt(B:Nat)(F:CS)(G G':GH):Prop where
 le:∀b o v,G b o=some v->G' b o=some v
 new:∀b o v,G' b o=some v->G b o=some v\/B<=b\/F b o
structure Slots where
 n:Nat
 kept:List (Nat×Value)
 ex:AVal->Value->Prop
def Slots.Ok(s:Slots)(d:Nat):Prop:=d<s.n/\∀p∈s.kept,p.1≠d
structure Rel(w0:World)(F:CS)(nt:Slots)(G0 G:GH)(ν:Nat->Nu)(st:St)(a:Act)(w:World):Prop where
 defers:a.defers= []
 ntm:a.tmps.size=nt.n
 par:∀p∈nt.kept,a.tmps[p.1]?=some p.2
 env:∀i x,Wt st.env i=some x->∃v,a.tmps[i]?=some v/\AValRel G ν st.nx x v
 h:HRel w0 F G ν st.objs st.nx w
 gx:GExt w0.heap.size F G0 G
 ex:∀x v,nt.ex x v->AValRel G ν st.nx x v
set_option linter.unusedVariables false
inductive Shape where
 |basic|slice (e:TypeId)|struct (fs:List (Nat×TypeId))|ptr (e:TypeId)|arr (n:Nat) (e:TypeId)
structure TE where
 ty:Ty
 agg:Bool
 shape:Shape
abbrev Tab:=List (TypeId×TE)
def TE.plain(a:TE):Bool:=match a.shape with
 | .arr _ _=>false
 |_=>true
def Wj(k:IntKind)(a b:Int):Int:=k.wrap (a+b)
def Wz(k:IntKind)(a b:Int):Int:=k.wrap (a-b)
def bw(k:IntKind)(a b:Int):Int:=k.wrap (a*b)
def ey(k:IntKind)(a b:Int):Int:=k.wrap (a.tdiv b)
def ak(a b:Int):Int:=a.tmod b
def sF(k:IntKind)(a b:Int):Int:=k.wrap (BitVec.ofInt k.bits a&&&BitVec.ofInt k.bits b).toNat
def ior(k:IntKind)(a b:Int):Int:=k.wrap (BitVec.ofInt k.bits a|||BitVec.ofInt k.bits b).toNat
def kH(k:IntKind)(a b:Int):Int:=k.wrap (BitVec.ofInt k.bits a^^^BitVec.ofInt k.bits b).toNat
def Wza(k:IntKind)(a b:Int):Int:=k.wrap (BitVec.ofInt k.bits a&&& ~~~BitVec.ofInt k.bits b).toNat
def OO(k:IntKind)(a b:Int):Int:=k.wrap (a*2^(min b.toNat k.bits))
def nf(k:IntKind)(a b:Int):Int:=a.fdiv (2^(min b.toNat k.bits))
def W5(a b:List UInt8):Bool:=!decide (((a.length+b.length:Nat):Int)>IntKind.i64.max)
def Wi{α:Type}(l:List α):Int:=(l.length:Int)
def inb(i:Int)(n:Nat):Bool:=decide (0<=i)&&decide (i<(n:Int))
def Wx(n:Nat):Bool:=decide (n<=1073741824)
def WU(l:List Int):List UInt8:=l.map λn=>UInt8.ofNat n.toNat
def ieq(a b:Int):Bool:=a==b
def beq(a b:Bool):Bool:=a==b
def seq(a b:List UInt8):Bool:=a==b
def inz(b:Int):Bool:=!decide (b=0)
def inn(b:Int):Bool:=!decide (b<0)
def one(t:Ty)(d:t.den):AVal:=.s (.one (.val t d))
def OR(c:BinOp)(k:IntKind)(a b:Int):Option (Bool×AVal):=
 match c with
 | .add=>some (true,one (.int k) (Wj k a b))
 | .sub=>some (true,one (.int k) (Wz k a b))
 | .mul=>some (true,one (.int k) (bw k a b))
 | .quo=>some (inz b,one (.int k) (ey k a b))
 | .rem=>some (inz b,one (.int k) (ak a b))
 | .and=>some (true,one (.int k) (sF k a b))
 | .or=>some (true,one (.int k) (ior k a b))
 | .xor=>some (true,one (.int k) (kH k a b))
 | .andNot=>some (true,one (.int k) (Wza k a b))
 | .eql=>some (true,one .bool (a==b))
 | .neq=>some (true,one .bool (a !=b))
 | .lss=>some (true,one .bool (decide (a<b)))
 | .leq=>some (true,one .bool (decide (a<=b)))
 | .gtr=>some (true,one .bool (decide (a>b)))
 | .geq=>some (true,one .bool (decide (a>=b)))
 |_=>none
def OH(c:BinOp)(a b:List UInt8):Option (Bool×AVal):=
 match c with
 | .add=>some (W5 a b,one .str (a++b))
 | .eql=>some (true,one .bool (seq a b))
 | .neq=>some (true,one .bool (!seq a b))
 |_=>none
def Hg(e:TE)(c d:Cell):Option Bool:=
 match e,c,d with
 |⟨.int _,false,.basic⟩,.val (.int k) a,.val (.int k') b=>if k=k' then some (ieq a b)else none
 |⟨.bool,false,.basic⟩,.val .bool a,.val .bool b=>some (beq a b)
 |⟨.str,false,.basic⟩,.val .str a,.val .str b=>some (seq a b)
 |_,_,_=>none
def mM(T:Tab):List TypeId->List Cell->List Cell->Option Bool
 | [],[],[]=>some true
 |t::ts,c::cs,d::ds=>match Wt T t with
  |some te=>match Hg te c d,mM T ts cs ds with
   |some x,some y=>some (x&&y)
   |_,_=>none
  |none=>none
 |_,_,_=>none
def binOp(T:Tab)(c:BinOp)(t:TypeId)(x y:AVal):Option (Bool×AVal):=
 match x,y with
 | .s (.one (.val (.int k) a)),.s (.one (.val (.int k') b))=>
  match c with
  | .shl=>some (inn b,one (.int k) (OO k a b))
  | .shr=>some (inn b,one (.int k) (nf k a b))
  |_=>if k=k' then OR c k a b else none
 | .s (.one (.val .str a)),.s (.one (.val .str b))=>OH c a b
 | .s (.one (.val .bool a)),.s (.one (.val .bool b))=>
  match Wt T t with
  |some ⟨.bool,false,.basic⟩=>
   match c with
   | .eql=>some (true,one .bool (beq a b))
   | .neq=>some (true,one .bool (!beq a b))
   |_=>none
  |_=>none
 | .s (.agg cs),.s (.agg ds)=>
  match Wt T t with
  |some ⟨_,true,.struct fs⟩=>
   if decide (fs.map (·.1)=List.range fs.length)then
    match c,mM T (fs.map (·.2)) cs ds with
    | .eql,some b=>some (true,one .bool b)
    | .neq,some b=>some (true,one .bool (!b))
    |_,_=>none
   else none
  |_=>none
 |_,_=>none
def unOp(a:UnOp)(x:AVal):Option (Bool×AVal):=
 match a,x with
 | .not,.s (.one (.val .bool b))=>some (true,one .bool (!b))
 | .neg,.s (.one (.val (.int k) n))=>some (true,one (.int k) (Wz k 0 n))
 |_,_=>none
def split:(t:Ty)->t.den->List Cell
 | .prod a b,d=>split a d.1++split b d.2
 | .int k,d=>[.val (.int k) d]
 | .bool,d=>[.val .bool d]
 | .str,d=>[.val .str d]
 | .slice e,d=>[.val (.slice e) d]
 | .own e,d=>[.junk]
def gJ:Value->Option Cell
 | .int k n=>some (.val (.int k) n)
 | .bool b=>some (.val .bool b)
 | .string s=>some (.val .str s.data.toList)
 | .slice none 0 0=>some .nils
 | .pointer none=>some .junk
 | .nilFunc=>some .junk
 |_=>none
def V8:Value->Option AVal
 | .agg cs=>(cs.toList.mapM gJ).map λl=>.s (.agg l)
 |v=>(gJ v).map λc=>.s (.one c)
def ev(st:St):Operand->Option AVal
 | .tmp t=>Wt st.env t
 | .const v=>V8 v
 | .func f=>some (.s (.one (.clos f [])))
 | .global _=>none
def St.put(st:St)(dst:Option Tmp)(x:AVal):St:=
 match dst with
 |some d=>{st with env:=(d,x)::st.env}
 |none=>st
def sub(a:Bool)(cs:List Cell)(off n:Nat):Option AVal:=
 if a then(if off+n<=cs.length then some (.s (.agg ((cs.drop off).take n)))else none)
 else(cs[off]?).map λc=>.s (.one c)
def rW(T:Tab)(st:St)(t:TypeId)(x:AVal):Option AVal:=
 match Wt T t with
 |some te=>
  if te.plain then
   match x with
   | .s (.one (.ptr id off))=>match Wt st.objs id with
    |some (.box cs)=>sub te.agg cs off te.ty.size
    |_=>none
   | .s (.one (.eptr id i off))=>match Wt st.objs id with
    |some (.arr e xs)=>sub te.agg (split e (xs.getD i e.dflt)) off te.ty.size
    |_=>none
   | .s (.one (.rptr t' d off))=>sub te.agg (split t' d) off te.ty.size
   |_=>none
  else none
 |none=>none
def sB(k:IntKind)(xs:List Int):Nat->Nat->List Cell
 |_,0=>[]
 |i,n+1=>.val (.int k) (xs.getD i (0:Int))::sB k xs (i+1) n
def vz(T:Tab)(st:St)(t:TypeId)(x:AVal):Option (Bool×AVal):=
 match Wt T t with
 |some ⟨.int k,true,.arr n _⟩=>match x with
  | .s (.one (.aptr id))=>match Wt st.objs id with
   |some (.arr (.int k') xs)=>if k'=k then some (decide (Xa xs=n),.s (.agg (sB k xs 0 n)))else none
   |_=>none
  |_=>none
 |_=>none
def eB(k:IntKind):List Cell->Option (List Int)
 | []=>some []
 | .val (.int k') d::cs=>if k'=k then(eB k cs).map λl=>(d:Int)::l else none
 |_=>none
def asI:AVal->Option Int
 | .s (.one (.val (.int _) n))=>some n
 |_=>none
def asB:AVal->Option Bool
 | .s (.one (.val .bool b))=>some b
 |_=>none
def obL(o:Option Ob):Option (Bool×AVal):=match o with
 |some (.arr _ xs)=>some (true,one (.int .i64) (Wi xs))
 |some (.hole _ xs _ _)=>some (true,one (.int .i64) (Wi xs))
 |_=>none
def n7(T:Tab)(st:St)(t:TypeId)(x:AVal):Option (Bool×AVal):=
 match Wt T t,x with
 |some ⟨_,false,.slice _⟩,.s (.one (.val (.slice _) l))=>some (true,one (.int .i64) (Wi l))
 |some ⟨_,false,.slice _⟩,.s (.one .nils)=>some (true,one (.int .i64) (0:Int))
 |some ⟨_,false,.slice _⟩,.s (.one (.own id))=>obL (Wt st.objs id)
 |some ⟨_,false,.slice _⟩,.s (.one (.vw _ lo hi))=>some (true,one (.int .i64) ((hi-lo:Nat):Int))
 |some ⟨.str,false,.basic⟩,.s (.one (.val .str s))=>some (true,one (.int .i64) (Wi (α:=UInt8) s))
 |_,_=>none
def DJ(T:Tab)(t:TypeId)(f:Nat):Option (Nat×TE):=
 match Wt T t with
 |some ⟨_,_,.struct fs⟩=>match fs[f]? with
  |some (off,ft)=>match Wt T ft with
   |some te=>if te.plain then some (off,te)else none
   |none=>none
  |none=>none
 |_=>none
def zD(T:Tab)(st:St)(t:TypeId)(x:AVal)(f:Nat):Option (Bool×AVal):=
 match DJ T t f,x with
 |some (off,_),.s (.one (.ptr id o))=>match Wt st.objs id with
  |some (.box _)=>some (true,.s (.one (.ptr id (o+off))))
  |_=>none
 |some (off,_),.s (.one (.eptr id i o))=>match Wt st.objs id with
  |some (.arr _ _)=>some (true,.s (.one (.eptr id i (o+off))))
  |_=>none
 |some (off,_),.s (.one (.rptr t' d o))=>some (true,.s (.one (.rptr t' d (o+off))))
 |_,_=>none
def ND(T:Tab)(t:TypeId)(x:AVal)(f:Nat):Option (Bool×AVal):=
 match DJ T t f,x with
 |some (off,te),.s (.agg cs)=>(sub te.agg cs off te.ty.size).map λv=>(true,v)
 |_,_=>none
def obI(a:TE)(n:Int)(b:Nat)(o:Option Ob):Option (Bool×AVal):=match o with
 |some (.arr e xs)=>if a.ty=e.ro then some (inb n xs.length,.s (.one (.eptr b n.toNat 0)))else none
 |some (.hole e xs i p)=>if a.ty=e.ro then some (inb n xs.length&&aZ n.toNat i,.s (.one (.ptr p 0)))else none
 |_=>none
def Em(b:TE)(n:Int)(a lo hi:Nat)(o:Option Ob):Option (Bool×AVal):=match o with
 |some (.arr e xs)=>if b.ty=e.ro then some (inb n (hi-lo),.s (.one (.eptr a (lo+n.toNat) 0)))else none
 |_=>none
def Ej(b:TE)(n:Int)(k a:Nat)(o:Option Ob):Option (Bool×AVal):=match o with
 |some (.arr e xs)=>if b.ty=e then some (inb n k&&decide (xs.length=k),.s (.one (.eptr a n.toNat 0)))else none
 |_=>none
def zJ(T:Tab)(st:St)(t:TypeId)(x i:AVal):Option (Bool×AVal):=
 match Wt T t,asI i with
 |some ⟨_,_,.slice et⟩,some n=>match Wt T et with
  |some te=>
   if te.plain then match x with
    | .s (.one (.val (.slice e) l))=>if te.ty=e then some (inb n (Xa l),.s (.one (.rptr e (Xc l n.toNat e.dflt) 0)))else none
    | .s (.one .nils)=>some (false,.s (.one .junk))
    | .s (.one (.own id))=>obI te n id (Wt st.objs id)
    | .s (.one (.vw id lo hi))=>Em te n id lo hi (Wt st.objs id)
    |_=>none
   else none
  |none=>none
 |some ⟨_,_,.arr k et⟩,some n=>match Wt T et with
  |some te=>
   if te.plain then match x with
    | .s (.one (.aptr id))=>Ej te n k id (Wt st.objs id)
    |_=>none
   else none
  |none=>none
 |_,_=>none
def NE(T:Tab)(t:TypeId)(x i:AVal):Option (Bool×AVal):=
 match Wt T t,x,asI i with
 |some ⟨.str,_,.basic⟩,.s (.one (.val .str s)),some n=>some (inb n (Xa s),one (.int .u8) ((Xc s n.toNat 0).toNat:Int))
 |some ⟨.int k,_,.arr m et⟩,.s (.agg cs),some n=>match Wt T et with
  |some ⟨.int k',false,.basic⟩=>match eB k cs with
   |some l=>if k'=k/\cs.length=m then some (inb n m,one (.int k) (Xc l n.toNat (0:Int)))else none
   |none=>none
  |_=>none
 |_,_,_=>none
def aD(n:Nat)(lo hi:Option Int):Bool×Nat×Nat:=
 match lo,hi with
 |none,none=>(true,0,n)
 |some l,none=>(decide (0<=l)&&decide (l<=(n:Int)),l.toNat,n)
 |none,some h=>(decide (0<=h)&&decide (h<=(n:Int)),0,h.toNat)
 |some l,some h=>(decide (0<=h)&&decide (h<=(n:Int))&&decide (0<=l)&&decide (l<=h),l.toNat,h.toNat)
def sr{α:Type}(l:List α)(lo hi:Option Int):List α:=
 match lo,hi with
 |none,none=>l
 |some a,none=>l.drop a.toNat
 |none,some b=>l.take b.toNat
 |some a,some b=>(l.take b.toNat).drop a.toNat
def fP(st:St):Option Operand->Option (Option Int)
 |none=>some none
 |some x=>((ev st x).bind asI).map some
def Hi(T:Tab)(st:St)(t:TypeId)(x:AVal)(lo hi:Option Operand):Option (Bool×AVal):=
 match Wt T t,x,fP st lo,fP st hi with
 |some ⟨.str,_,.basic⟩,.s (.one (.val .str s)),some l,some h=>some ((aD (Xa s) l h).1,one .str (sr s l h))
 |some ⟨_,_,.slice et⟩,.s (.one (.val (.slice e) xs)),some l,some h=>match Wt T et with
  |some te=>if te.ty=e/\te.plain then some ((aD (Xa xs) l h).1,one (.slice e) (sr xs l h))else none
  |none=>none
 |_,_,_,_=>none
def HS(st:St):AVal->Option Ob
 | .s (.one (.own id))=>Wt st.objs id
 |_=>none
def YY(T:Tab)(o:Option Ob)(a dst:TypeId)(x:AVal):Option (Bool×AVal):=
 match Wt T a,Wt T dst,x with
 |some ⟨.int _,false,.basic⟩,some ⟨.int k,false,.basic⟩,.s (.one (.val (.int _) n))=>some (true,one (.int k) (k.wrap n))
 |some ⟨.str,false,.basic⟩,some ⟨.str,false,.basic⟩,.s (.one (.val .str s))=>some (true,one .str s)
 |some ⟨_,_,.slice et⟩,some ⟨.str,false,.basic⟩,.s (.one c)=>
  match Wt T et with
  |some ⟨.int .u8,false,.basic⟩=>match c with
   | .val (.slice (.int .u8)) l=>some (true,one .str (WU l))
   | .nils=>some (true,one .str ([]:List UInt8))
   | .own _=>match o with
    |some (.arr (.int .u8) xs)=>some (true,one .str (WU xs))
    |_=>none
   |_=>none
  |_=>none
 |_,_,_=>none
def Ao(T:Tab)(st:St)(a dst:TypeId)(x:AVal):Option (Bool×AVal):=YY T (HS st x) a dst x
def AF(st:St)(x:AVal):Option (Bool×AVal):=
 match x with
 | .s (.one (.rptr _ _ _))=>some (true,x)
 | .s (.one (.ptr id _))=>match Wt st.objs id with
  |some (.box _)=>some (true,x)
  |_=>none
 | .s (.one (.eptr id _ _))| .s (.one (.aptr id))=>match Wt st.objs id with
  |some (.arr _ _)=>some (true,x)
  |_=>none
 |_=>none
def pV(st:St):List Operand->Option (List Nat)
 | []=>some []
 |o::l=>match ev st o,pV st l with
  |some (.s (.one (.ptr a 0))),some r=>some (a::r)
  |_,_=>none
def ZP(a b:Int):Int:=if b<a then b else a
def nd(a b:Int):Int:=if a<b then b else a
def AA(T:Tab)(st:St)(c:BinOp)(t:TypeId)(a b:AVal):Option (Bool×AVal):=
 match a,b with
 | .s (.one (.own id)),.s (.one .nils)=>match Wt T t with
  |some ⟨_,false,.slice _⟩=>match Wt st.objs id with
   |some (.arr _ xs)=>match c with
    | .eql=>some (Ii 0 xs.length,one .bool false)
    | .neq=>some (Ii 0 xs.length,one .bool true)
    |_=>none
   |_=>none
  |_=>none
 |_,_=>none
def b5(T:Tab)(st:St):Op->Option (Bool×AVal)
 | .move x| .assign x=>(ev st x).map λv=>(true,v)
 | .pick c a b=>match(ev st c).bind asB with
  |some p=>match ev st a,ev st b with
   |some (.s (.one (.val .bool x))),some (.s (.one (.val .bool y)))=>some (true,one .bool (bif p then x else y))
   |e,vb=>(bif p then e else vb).map λv=>(true,v)
  |none=>none
 | .load t a=>(ev st a).bind λv=>match vz T st t v with
  |some r=>some r
  |none=>(rW T st t v).map λr=>(true,r)
 | .nilCheck x=>(ev st x).bind (AF st)
 | .binOp op t x y _=>match ev st x,ev st y with
  |some a,some b=>match AA T st op t a b with
   |some r=>some r
   |none=>binOp T op t a b
  |_,_=>none
 | .unOp op _ x=>(ev st x).bind (unOp op)
 | .convert src dst x=>(ev st x).bind (Ao T st src dst)
 | .slice t x lo hi none=>(ev st x).bind λv=>Hi T st t v lo hi
 | .fieldAddr s x f=>(ev st x).bind λv=>zD T st s v f
 | .field t x f=>(ev st x).bind λv=>ND T t v f
 | .indexAddr t x i=>match ev st x,ev st i with
  |some a,some b=>zJ T st t a b
  |_,_=>none
 | .index t x i=>match ev st x,ev st i with
  |some a,some b=>NE T t a b
  |_,_=>none
 | .extract t ix=>match ev st t with
  |some (.tup xs)=>(xs[ix]?).map λx=>(true,.s x)
  |_=>none
 | .makeFunc (.func f) first captured=>if first.isEmpty then(pV st captured.toList).map λd=>(true,.s (.one (.clos f d)))else none
 | .call c=>match c.callee,c.args.toList,c.argTypes.toList with
  | .builtin .len,[x],[t]=>(ev st x).bind (n7 T st t)
  | .builtin .min,[x,y],[_,_]=>match ev st x,ev st y with
   |some (.s (.one (.val (.int k) a))),some (.s (.one (.val (.int k') b)))=>if k=k' then some (true,one (.int k) (ZP a b))else none
   |_,_=>none
  | .builtin .max,[x,y],[_,_]=>match ev st x,ev st y with
   |some (.s (.one (.val (.int k) a))),some (.s (.one (.val (.int k') b)))=>if k=k' then some (true,one (.int k) (nd a b))else none
   |_,_=>none
  |_,_,_=>none
 |_=>none
def m5:Ty->List Cell
 | .prod a b=>m5 a++m5 b
 | .int k=>[.val (.int k) (0:Int)]
 | .bool=>[.val .bool false]
 | .str=>[.val .str ([]:List UInt8)]
 | .slice _=>[.nils]
 | .own _=>[.junk]
def Ty.data:Ty->Bool
 | .own _=>false
 | .prod a b=>a.data&&b.data
 |_=>true
def unfold:(t:Ty)->t.den->Nat->List Cell×af×Nat
 | .prod a b,d,nx=>
  let x:=unfold a d.1 nx
  let y:=unfold b d.2 x.2.2
  (x.1++y.1,x.2.1++y.2.1,y.2.2)
 | .own e,d,nx=>([.own nx],[(nx,.arr e d)],nx+1)
 | .int k,d,nx=>([.val (.int k) d],[],nx)
 | .bool,d,nx=>([.val .bool d],[],nx)
 | .str,d,nx=>([.val .str d],[],nx)
 | .slice e,d,nx=>([.val (.slice e) d],[],nx)
def n9(t:Ty)(c:Cell):Option t.den:=
 match c with
 | .val t' d=>D1 t' t d
 |_=>none
def H1(e:Ty)(objs:af)(c:List Cell->Option (e.den×List Nat×List Nat))(a:Nat):Option (List e.den×List Nat):=
 match Wt objs a with
 |some (.arr e' xs)=>(jy e' e xs).map λb=>(b,[a])
 |some (.hole e' xs i p)=>match jy e' e xs,Wt objs p with
  |some b,some (.box cs)=>match c cs with
   |some (d,m,[])=>some (b.set i d,a::p::m)
   |_=>none
  |_,_=>none
 |_=>none
def Ym(e:Ty)(objs:af)(c:List Cell->Option (e.den×List Nat×List Nat))(a:Nat):Option (List e.den×List Nat):=
 match Wt objs a with
 |some (.arr e' xs)=>(jy e'.ro e (dX e' xs)).map λb=>(b,[a])
 |some (.hole e' xs i p)=>match jy e'.ro e (dX e' xs),Wt objs p with
  |some b,some (.box cs)=>match c cs with
   |some (d,[],l)=>some (b.set i d,a::p::l)
   |_=>none
  |_,_=>none
 |_=>none
def aC:(t:Ty)->List Cell->af->Option (t.den×List Nat×List Nat)
 | .prod a b,f,objs=>match aC a (f.take a.size) objs,aC b (f.drop a.size) objs with
  |some (x,m,r),some (y,h,r')=>some ((x,y),m++h,r++r')
  |_,_=>none
 | .own e,f,objs=>match f with
  | [.own id]=>(H1 e objs (λf=>aC e f objs) id).map λp=>(p.1,p.2,[])
  | [.vw id lo hi]=>match Wt objs id with
   |some (.arr e' xs)=>(jy e' e xs).map λg=>((g.take hi).drop lo,[id],[])
   |_=>none
  | [.nils]=>some (([]:List e.den),[],[])
  |_=>none
 | .slice e,f,objs=>match f with
  | [.own id]=>(Ym e objs (λf=>aC e f objs) id).map λp=>(p.1,[],p.2)
  | [.vw id lo hi]=>match Wt objs id with
   |some (.arr e' xs)=>(jy e'.ro e (dX e' xs)).map λg=>((g.take hi).drop lo,[],[id])
   |_=>none
  | [.nils]=>some (([]:List e.den),[],[])
  | [c]=>(n9 (.slice e) c).map λd=>(d,[],[])
  |_=>none
 | .int k,f,_=>match f with
  | [c]=>(n9 (.int k) c).map λd=>(d,[],[])
  |_=>none
 | .bool,f,_=>match f with
  | [c]=>(n9 .bool c).map λd=>(d,[],[])
  |_=>none
 | .str,f,_=>match f with
  | [c]=>(n9 .str c).map λd=>(d,[],[])
  |_=>none
def dz(i:Nat):List Nat->Bool
 | []=>false
 |j::l=>aZ i j||dz i l
def en:List Nat->Bool
 | []=>true
 |i::l=>!dz i l&&en l
def eqN:List Nat->List Nat->Bool
 | [],[]=>true
 |i::l,j::m=>aZ i j&&eqN l m
 |_,_=>false
def iA(l m:List Nat):Bool:=l.all λi=>!dz i m
def kill(objs:af):List Nat->af
 | []=>objs
 |i::l=>(i,.dead)::kill objs l
def cellsOf(a:Bool):AVal->Option (List Cell)
 | .s (.one c)=>if a then none else some [c]
 | .s (.agg cs)=>if a then some cs else none
 | .tup _=>none
inductive PTy where
 |v (t:Ty) (agg:Bool)
 |box (t:Ty)
 |mut (e:Ty)
 |clos (g:FuncId) (n:Nat)
 |kv (t:Ty) (agg:Bool)
 |rp (t:Ty)
 |boxal (t:Ty) (lf:Nat)
 |vj (t:Ty)
def Ty.owns:Ty->Nat
 | .own _=>1
 | .prod a b=>a.owns+b.owns
 |_=>0
def dA:List PTy->Type
 | []=>Unit
 | .v t _::ps=>t.den×dA ps
 | .box t::ps=>t.den×dA ps
 | .mut e::ps=>List e.den×dA ps
 | .clos _ _::ps=>dA ps
 | .kv t _::ps=>t.den×dA ps
 | .rp t::ps=>t.den×dA ps
 | .vj _::ps=>dA ps
 | .boxal t _::ps=>t.den×Nat×dA ps
def dI:List PTy->Type
 | []=>Unit
 | .v _ _::ps=>dI ps
 | .box t::ps=>t.den×dI ps
 | .mut e::ps=>List e.den×dI ps
 | .clos _ _::ps=>dI ps
 | .kv t _::ps=>t.den×dI ps
 | .rp _::ps=>dI ps
 | .vj _::ps=>dI ps
 | .boxal t _::ps=>t.den×dI ps
def ec:List PTy->Type
 | []=>Unit
 | .v t _::rs=>t.den×ec rs
 | .box t::rs=>t.den×ec rs
 | .mut _::rs=>ec rs
 | .clos _ _::rs=>ec rs
 | .kv _ _::rs=>ec rs
 | .rp _::rs=>ec rs
 | .vj t::rs=>t.den×ec rs
 | .boxal _ _::rs=>ec rs
structure Kp where
 id:Nat
 off:Nat
def kp0(l:List Nat):List Kp:=l.map λi=>⟨i,0⟩
structure Args(ps:List PTy) where
 d:dA ps
 moved:List Nat
 lent:List Nat
 kept:List Kp
 all:List Nat
def ii:Ty->Nat->Option Nat
 | .own _,n=>match n with
  |0=>some 0
  |_+1=>none
 | .prod a b,n=>if n<a.owns then ii a n else(ii b (n-a.owns)).map (a.size+ ·)
 | .int _,_=>none
 | .bool,_=>none
 | .str,_=>none
 | .slice _,_=>none
def N6(objs:af):Cell->AVal->Option Nat
 | .own r,.s (.one (.ptr p off))=>match off,Wt objs r with
  |0,some (.hole _ _ i p')=>if aZ p p' then some i else none
  |_,_=>none
 | .own r,.s (.one (.eptr r' i off))=>match off,Wt objs r with
  |0,some (.arr _ _)=>if aZ r r' then some i else none
  |_,_=>none
 |_,_=>none
def Oe:Cell->Bool
 | .vw _ _ _=>false
 |_=>true
def YD:AVal->Bool
 | .s (.one c)=>Oe c
 | .s (.agg cs)=>cs.all Oe
 | .tup _=>true
def DZ(objs:af)(t:Ty)(m:List Nat)(x:AVal):Bool:=decide (m.length=t.owns)&&YD x&&m.all λa=>match Wt objs a with
 |some (.arr _ _)=>true
 |_=>false
def dl(l:List Nat):List AVal:=l.map λa=>.s (.one (.ptr a 0))
def ei:(f:List PTy)->List AVal->af->Option (Args f)
 | [],a,_=>match a with
  | []=>some ⟨(),[],[],[],[]⟩
  |_=>none
 | .v t agg::f,a,objs=>match a with
  |x::a=>match(cellsOf agg x).bind λh=>aC t h objs,ei f a objs with
   |some (d,m,r),some A=>some ⟨(d,A.d),m++A.moved,r++A.lent,A.kept,m++A.all⟩
   |_,_=>none
  |_=>none
 | .box t::f,a,objs=>match a with
  | .s (.one (.ptr id b))::a=>match Wt objs id with
   |some (.box h)=>match aC t ((h.drop b).take t.size) objs,ei f a objs with
    |some (d,m,[]),some A=>some ⟨(d,A.d),m++A.moved,A.lent,⟨id,b⟩::A.kept,id::(m++A.all)⟩
    |_,_=>none
   |_=>none
  |_=>none
 | .mut e::f,a,objs=>match a with
  | .s (.one (.own id))::a=>match Wt objs id with
   |some (.arr e' ys)=>match jy e' e ys,ei f a objs with
    |some d,some A=>some ⟨(d,A.d),A.moved,A.lent,⟨id,0⟩::A.kept,id::A.all⟩
    |_,_=>none
   |_=>none
  |_=>none
 | .clos g n::f,a,objs=>match a with
  | .s (.one (.clos g' caps))::a=>if g'=g/\caps.length=n then(ei f (dl caps++a) objs).map λA=>⟨A.d,A.moved,A.lent,A.kept,A.all⟩else none
  |_=>none
 | .kv t agg::f,a,objs=>match a with
  |x::a=>match(cellsOf agg x).bind λh=>aC t h objs,ei f a objs with
   |some (d,m,r),some A=>if DZ objs t m x then some ⟨(d,A.d),A.moved,r++A.lent,kp0 m++A.kept,m++A.all⟩else none
   |_,_=>none
  |_=>none
 | .rp t::f,a,objs=>match a with
  | .s (.one (.ptr id b))::a=>match Wt objs id with
   |some (.box h)=>match aC t ((h.drop b).take t.size) objs,ei f a objs with
    |some (d,[],r),some A=>if t.data then some ⟨(d,A.d),A.moved,id::(r++A.lent),A.kept,A.all⟩else none
    |_,_=>none
   |_=>none
  | .s (.one (.rptr t' d b))::a=>match aC t (((split t' d).drop b).take t.size) objs,ei f a objs with
   |some (d,[],[]),some A=>if t.data then some ⟨(d,A.d),A.moved,A.lent,A.kept,A.all⟩else none
   |_,_=>none
  |_=>none
 | .vj _::_,_,_=>none
 | .boxal t lf::f,a,objs=>match a with
  | .s (.one (.ptr id b))::y::a=>match Wt objs id with
   |some (.box h)=>match aC t ((h.drop b).take t.size) objs,ei f a objs,((ii t lf).bind λk=>((h.drop b).take t.size)[k]?).bind λc=>N6 objs c y with
    |some (d,m,[]),some A,some i=>some ⟨(d,i,A.d),m++A.moved,A.lent,⟨id,b⟩::A.kept,id::(m++A.all)⟩
    |_,_,_=>none
   |_=>none
  |_=>none
def dE:(t:Ty)->t.den->List Nat->af
 | .own e,d,ids=>match ids with
  |id::_=>[(id,.arr e d)]
  | []=>[]
 | .prod a b,d,ids=>dE a d.1 (ids.take a.owns)++dE b d.2 (ids.drop a.owns)
 | .int _,_,_=>[]
 | .bool,_,_=>[]
 | .str,_,_=>[]
 | .slice _,_,_=>[]
def lB(cs:List Cell)(off:Nat)(a:List Cell):List Cell:=cs.take off++a++cs.drop (off+a.length)
def rY(o:Option Ob)(off:Nat)(a:List Cell):Ob:=match o with
 |some (.box cs)=>.box (lB cs off a)
 |_=>.dead
def dy:(b:List PTy)->dI b->List Kp->af->Nat->af×Nat
 | [],_,_,objs,nx=>(objs,nx)
 | .v _ _::b,o,a,objs,nx=>dy b o a objs nx
 | .box t::b,o,a,objs,nx=>match a with
  |k::a=>
   let x:=unfold t o.1 nx
   dy b o.2 a ((k.id,rY (Wt objs k.id) k.off x.1)::(x.2.1++objs)) x.2.2
  | []=>(objs,nx)
 | .mut e::b,o,a,objs,nx=>match a with
  |k::a=>dy b o.2 a ((k.id,.arr e o.1)::objs) nx
  | []=>(objs,nx)
 | .clos _ _::b,o,a,objs,nx=>dy b o a objs nx
 | .kv t _::b,o,a,objs,nx=>dy b o.2 (a.drop t.owns) (dE t o.1 ((a.take t.owns).map Kp.id)++objs) nx
 | .rp _::b,o,a,objs,nx=>dy b o a objs nx
 | .vj _::b,o,a,objs,nx=>dy b o a objs nx
 | .boxal t _::b,o,a,objs,nx=>match a with
  |k::a=>
   let x:=unfold t o.1 nx
   dy b o.2 a ((k.id,rY (Wt objs k.id) k.off x.1)::(x.2.1++objs)) x.2.2
  | []=>(objs,nx)
def Er(a:Bool)(cs:List Cell):AV:=if a then .agg cs else match cs with
 | [c]=>.one c
 |_=>.agg cs
def ep:(a:List PTy)->ec a->af->Nat->List AV×af×Nat
 | [],_,objs,nx=>([],objs,nx)
 | .v t agg::a,d,objs,nx=>
  let x:=unfold t d.1 nx
  let y:=ep a d.2 (x.2.1++objs) x.2.2
  (Er agg x.1::y.1,y.2)
 | .box t::a,d,objs,nx=>
  let x:=unfold t d.1 (nx+1)
  let y:=ep a d.2 ((nx,.box x.1)::(x.2.1++objs)) x.2.2
  (.one (.ptr nx 0)::y.1,y.2)
 | .mut _::a,d,objs,nx=>ep a d objs nx
 | .clos _ _::a,d,objs,nx=>ep a d objs nx
 | .kv _ _::a,d,objs,nx=>ep a d objs nx
 | .rp _::a,d,objs,nx=>ep a d objs nx
 | .vj t::a,d,objs,nx=>
  let x:=unfold t d.1 nx
  let y:=ep a d.2 (x.2.1++objs) x.2.2
  (.agg (x.1++ [.junk])::y.1,y.2)
 | .boxal _ _::a,d,objs,nx=>ep a d objs nx
def ZB:List AV->AVal
 | [x]=>.s x
 |a=>.tup a
abbrev KV(R:Type):=AVal->af->Nat->Option R
abbrev Out:=AVal×af×Nat
def cM(x:AVal)(objs:af)(nx:Nat):Option Out:=some (x,objs,nx)
structure Inl where
 fn:(R:Type)->St->KV R->Option R
 law:∀(R:Type) (st:St) (k:KV R),fn R st k=(fn Out st cM).bind λp=>k p.1 p.2.1 p.2.2
 suf:∀(st:St) (x:AVal) (objs:af) (nx:Nat),fn Out st cM=some (x,objs,nx)->∃pre,objs=pre++st.objs
structure Sig where
 ps:List PTy
 rs:List PTy
 fn:(R:Type)->dA ps->(dI ps×ec rs->Option R)->Option R
 run:dA ps->Option (dI ps×ec rs)
 law:∀(R:Type) (d:dA ps) (k:dI ps×ec rs->Option R),fn R d k=(run d).bind k
 inl:Option Inl
noncomputable def Sig.of(b c:List PTy)(a:dA b->Option (dI b×ec c)):Sig:=⟨b,c,λ_ d k=>(a d).bind k,a,λ_ _ _=>rfl,none⟩
theorem Sig.law'(s:Sig){R}(d)(k)(r)(h:s.fn R d k=some r):∃o,s.run d=some o/\k o=some r:=by
 rw[s.law]at h;cases hr:s.run d with
 |none=>simp_all
 |some o=>simp_all
def PTy.fresh:PTy->Bool
 | .v _ _=>true
 | .box t=>t.noRo
 | .mut e=>e.noRo
 | .clos _ _=>true
 | .kv t _=>t.noRo
 | .rp _=>true
 | .vj _=>true
 | .boxal t _=>t.noRo
def PTy.freshR:PTy->Bool
 | .v t _=>t.noRo
 | .box t=>t.noRo
 | .mut _=>true
 | .clos _ _=>true
 | .kv _ _=>true
 | .rp _=>true
 | .vj t=>t.noRo
 | .boxal _ _=>true
def Sig.fresh(s:Sig):Bool:=s.rs.all PTy.freshR&&s.ps.all PTy.fresh
abbrev Ctx:=List (FuncId×Sig)
def evs(st:St):List Operand->Option (List AVal)
 | []=>some []
 |o::l=>match ev st o,evs st l with
  |some x,some xs=>some (x::xs)
  |_,_=>none
def nV{R:Type}(sg:Sig)(st:St)(xs:List AVal)(k:KV R):Option R:=
 match ei sg.ps xs st.objs with
 |some A=>
  if en A.all&&iA A.lent A.all&&(sg.fresh||A.lent.isEmpty)then
   sg.fn R A.d λo=>
    let p:=dy sg.ps o.1 A.kept (kill st.objs A.moved) st.nx
    let q:=ep sg.rs o.2 p.1 p.2
    k (ZB q.1) q.2.1 q.2.2
  else none
 |none=>none
def Hx(objs:af)(a:List Nat):Cell->Cell
 | .own id=>bif dz id a then(match Wt objs id with
  |some (.arr e xs)=>.val (.slice e.ro) (dX e xs)
  |_=>.junk)else .own id
 | .vw id lo hi=>.vw id lo hi
 | .val t d=>.val t d
 | .nils=>.nils
 | .aptr id=>.aptr id
 | .ptr id off=>.ptr id off
 | .eptr id i off=>.eptr id i off
 | .rptr t d off=>.rptr t d off
 | .clos f caps=>.clos f caps
 | .junk=>.junk
def se(objs:af)(a:List Nat):AVal->AVal
 | .s (.one c)=>.s (.one (Hx objs a c))
 | .s (.agg cs)=>.s (.agg (cs.map (Hx objs a)))
 | .tup xs=>.tup xs
def Oc:Cell->List Nat
 | .own id=>[id]
 | .vw _ _ _=>[]
 | .val _ _=>[]
 | .nils=>[]
 | .aptr _=>[]
 | .ptr _ _=>[]
 | .eptr _ _ _=>[]
 | .rptr _ _ _=>[]
 | .clos _ _=>[]
 | .junk=>[]
def XW:AVal->List Nat
 | .s (.one c)=>Oc c
 | .s (.agg cs)=>cs.flatMap Oc
 | .tup _=>[]
def HO:Ty->List Cell->List Nat
 | .prod a b,cs=>HO a (cs.take a.size)++HO b (cs.drop a.size)
 | .slice _,cs=>match cs with
  |c::_=>Oc c
  | []=>[]
 | .own _,_=>[]
 | .int _,_=>[]
 | .bool,_=>[]
 | .str,_=>[]
def r9(e:Ty):AVal->List Nat
 | .s (.one c)=>HO e [c]
 | .s (.agg cs)=>HO e cs
 | .tup _=>[]
def vH(objs:af)(p v:AVal):List Nat:=match p with
 | .s (.one (.eptr id _ _))=>match Wt objs id with
  |some (.arr e _)=>bif e.data then XW v else r9 e v
  |_=>[]
 |_=>[]
def Hl(a:List (Nat×AVal)):List Nat:=a.flatMap λp=>XW p.2
def pw(objs:af)(l:List Nat):af:=kill objs l
def Nm(objs:af)(a:List (Nat×AVal)):List (Nat×AVal):=a.map λp=>(p.1,se objs (Hl a) p.2)
def si{R:Type}(sg:Sig)(st:St)(xs:List AVal)(k:KV R):Option R:=
 bif sg.fresh then nV sg st xs k else match ei sg.ps xs st.objs with
  |some A=>match A.lent with
   | []=>nV sg st xs k
   |_=>nV sg {env:=st.env,objs:=kill st.objs A.lent,nx:=st.nx} (xs.map (se st.objs A.lent)) k
  |none=>none
def St.new(st:St)(dst:Option Tmp)(a:Ob)(x:AVal):St:=
 {env:=st.env,objs:=(st.nx,a)::st.objs,nx:=st.nx+1:St}.put dst x
def St.turn(st:St)(a:Nat)(b:Ob):St:={st with objs:=(a,b)::st.objs}
def kq:AVal->Option (List Cell)
 | .s (.one c)=>some [c]
 | .s (.agg cs)=>some cs
 | .tup _=>none
def mR(T:Tab)(st:St)(t:TypeId)(x v:AVal):Option St:=
 match Wt T t,x,kq v with
 |some te,.s (.one (.ptr a off)),some ds=>match Wt st.objs a with
  |some (.box cs)=>if decide (te.ty.size=ds.length)&&te.plain&&decide (off+ds.length<=cs.length)then some (st.turn a (.box (lB cs off ds)))else none
  |_=>none
 |some te,.s (.one (.eptr a i off)),some ds=>match Wt st.objs a with
  |some (.arr e xs)=>
   if decide (te.ty.size=ds.length)&&te.plain&&decide (off+ds.length<=e.size)&&e.data then
    match aC e (lB (split e (xs.getD i e.dflt)) off ds) st.objs with
    |some (d,[],[])=>some (st.turn a (.arr e (xs.set i d)))
    |_=>none
   else if decide (te.ty.size=ds.length)&&te.plain&&decide (off=0)&&decide (ds.length=e.size)then
    match aC e ds st.objs with
    |some (d,m,[])=>if en (a::m)then some {env:=st.env,objs:=(a,.arr e (xs.set i d))::kill st.objs m,nx:=st.nx}else none
    |_=>none
   else none
  |_=>none
 |_,_,_=>none
def OA(st:St)(e:Ty):AVal->Option (List e.den)
 | .s (.one (.val (.slice e') d))=>jy e' e d
 | .s (.one .nils)=>some []
 | .s (.one (.own id))=>match Wt st.objs id with
  |some (.arr e' xs)=>jy e' e xs
  |_=>none
 | .s (.one (.vw id lo hi))=>match Wt st.objs id with
  |some (.arr e' xs)=>(jy e' e xs).map λa=>(a.take hi).drop lo
  |_=>none
 |_=>none
def HZ(st:St)(e:Ty):AVal->Option (List e.den×List Nat)
 | .s (.one .nils)=>some ([],[])
 | .s (.one (.own id))=>match Wt st.objs id with
  |some (.arr e' xs)=>(jy e' e xs).map λa=>(a,[id])
  |_=>none
 |_=>none
def Wzy(st:St):AVal->Option Ty
 | .s (.one (.own id))=>match Wt st.objs id with
  |some (.arr e _)=>some e
  |_=>none
 |_=>none
def rO{R:Type}(st:St)(b:Ty)(s x:AVal)(k:KV R):Option R:=
 match s with
 | .s (.one .nils)=>match Wzy st x with
  |some e=>if e.ro=b then match HZ st e x with
    |some (l,m)=>bif Wx l.length then k (.s (.one (.own st.nx))) ((st.nx,.arr e l)::kill st.objs m) (st.nx+1)else none
    |none=>none
   else none
  |none=>none
 | .s (.one (.own a))=>match Wt st.objs a with
  |some (.arr e xs)=>if e.ro=b then match HZ st e x with
    |some (l,m)=>if en (a::m)then(bif Wx (xs.length+l.length)then k (.s (.one (.own st.nx))) ((st.nx,.arr e (Xe xs l))::kill st.objs (a::m)) (st.nx+1)else none)else none
    |none=>none
   else none
  |_=>none
 |_=>none
def HQ(st:St):AVal->AVal->Bool
 | .s (.one (.own id)),_=>match Wt st.objs id with
  |some (.arr e _)=>e.data
  |_=>true
 | .s (.one .nils),.s (.one (.own id))=>match Wt st.objs id with
  |some (.arr e _)=>e.data
  |_=>true
 |_,_=>true
def vu{R:Type}(T:Tab)(st:St)(t a:TypeId)(s x:AVal)(k:KV R):Option R:=
 match Wt T t,Wt T a with
 |some ⟨_,false,.slice et⟩,some _=>match Wt T et with
  |some te=>
   if t=a/\te.plain/\te.ty.data then
    bif !HQ st s x then rO st te.ty s x k else
    match s,OA st te.ty x with
    | .s (.one .nils),some l=>bif Wx l.length then k (.s (.one (.own st.nx))) ((st.nx,.arr te.ty l)::st.objs) (st.nx+1)else none
    | .s (.one (.own id)),some l=>match Wt st.objs id with
     |some (.arr e xs)=>match D1 (.own e) (.own te.ty) xs with
      |some ys=>bif Wx (Xa ys+l.length)then k (.s (.one (.own st.nx))) ((st.nx,.arr te.ty (Xe ys l))::(id,.dead)::st.objs) (st.nx+1)else none
      |none=>none
     |_=>none
    | .s (.one (.vw id 0 hi)),some l=>match Wt st.objs id with
     |some (.arr e xs)=>match D1 (.own e) (.own te.ty) xs with
      |some ys=>bif Wx (hi+l.length)then k (.s (.one (.own st.nx))) ((st.nx,.arr te.ty (Xe (ys.take hi) l))::(id,.dead)::st.objs) (st.nx+1)else none
      |none=>none
     |_=>none
    |_,_=>none
   else none
  |none=>none
 |_,_=>none
def sq(T:Tab)(a:List (Nat×TypeId)):List (Nat×AVal)->List Cell->Option (List Cell)
 | [],cs=>some cs
 |(i,x)::ps,cs=>match a[i]? with
  |some (off,ft)=>match Wt T ft,kq x with
   |some te,some ds=>if decide (te.ty.size=ds.length)&&decide (off+ds.length<=cs.length)then sq T a ps (lB cs off ds)else none
   |_,_=>none
  |none=>none
def AB(e:Ty)(objs:af):List (Nat×AVal)->List e.den->Option (List e.den)
 | [],xs=>some xs
 |(i,x)::ps,xs=>match kq x with
  |some ds=>match aC e ds objs with
   |some (d,[],[])=>if i<xs.length then AB e objs ps (xs.set i d)else none
   |_=>none
  |none=>none
def ly(st:St):List (Nat×Operand)->Option (List (Nat×AVal))
 | []=>some []
 |(i,o)::l=>match ev st o,ly st l with
  |some x,some xs=>some ((i,x)::xs)
  |_,_=>none
inductive An where
 |nest (e:Ty)
 |view
 |opn
 |shut (off:Nat)
def Eo(A:List (Nat×An))(o:Oper):Option An:=match o.dst with
 |some d=>Wt A d
 |none=>none
def nR{R:Type}(st:St)(e:Ty)(a:List (Nat×AVal))(k:KV R):Option R:=
 match a with
 | [p]=>if p.1=0 then match kq (se st.objs (r9 e p.2) p.2)with
  |some ds=>match aC e ds (pw st.objs (r9 e p.2))with
   |some (d,m,[])=>if en m then k (.s (.one (.own st.nx))) ((st.nx,.arr e [d])::kill (pw st.objs (r9 e p.2)) m) (st.nx+1)else none
   |_=>none
  |none=>none
  else none
 |_=>none
def nT{R:Type}(st:St)(b:Ty)(a:Nat)(l h:Option Int)(k:KV R):Option R:=
 match Wt st.objs a with
 |some (.arr e xs)=>if b=e.ro then bif (aD (Xa xs) l h).1 then k (.s (.one (.vw a (aD (Xa xs) l h).2.1 (aD (Xa xs) l h).2.2))) st.objs st.nx else none else none
 |_=>none
def Oh(o:Option Ob)(n:Nat):Bool:=match o with
 |some (.box cs)=>aZ cs.length n
 |_=>false
def ki:Nat->List AVal->List (Nat×AVal)
 |_,[]=>[]
 |i,x::xs=>(i,x)::ki (i+1) xs
def rxe{R:Type}(T:Tab)(Γ:Ctx)(A:List (Nat×An))(o:Oper)(st:St)(k:KV R):Option R:=
 match o.op with
 | .alloc t=>match Wt T t with
  |some ⟨e,true,.arr n _⟩=>if e.data&&Wx n then k (.s (.one (.aptr st.nx))) ((st.nx,.arr e (Xp n e.dflt))::st.objs) (st.nx+1)else none
  |some te=>if te.plain then k (.s (.one (.ptr st.nx 0))) ((st.nx,.box (m5 te.ty))::st.objs) (st.nx+1)else none
  |none=>none
 | .box t x=>match Wt T t,(ev st x).bind kq with
  |some _,some cs=>k (.s (.one (.ptr st.nx 0))) ((st.nx,.box cs)::st.objs) (st.nx+1)
  |_,_=>none
 | .build t parts=>match Wt T t,ly st parts.toList with
  |some ⟨d,true,.struct fs⟩,some ps=>
   if fs.all (λf=>match Wt T f.2 with|some te=>te.plain|none=>false)then
    match sq T fs ps (m5 d)with
    |some cs=>k (.s (.agg cs)) st.objs st.nx
    |none=>none
   else none
  |_,_=>none
 | .buildSlice t n parts=>match Wt T t,ly st parts.toList with
  |some ⟨_,false,.slice et⟩,some ps=>match Wt T et with
   |some te=>match Eo A o with
    |some (.nest e)=>if decide (n=1)&&decide (e.ro=te.ty)&&te.plain&&decide (te.ty.size<=16777216)then nR st e ps k else none
    |_=>match AB te.ty (pw st.objs (Hl ps)) (Nm st.objs ps) (Xp n te.ty.dflt)with
    |some xs=>if decide (n*te.ty.size<=16777216)&&te.ty.data&&te.plain then k (.s (.one (.own st.nx))) ((st.nx,.arr te.ty xs)::pw st.objs (Hl ps)) (st.nx+1)else none
    |none=>none
   |none=>none
  |_,_=>none
 | .makeSlice t n c=>match Wt T t,(ev st n).bind asI,(ev st c).bind asI with
  |some ⟨_,false,.slice et⟩,some n',some c'=>match Wt T et with
   |some te=>match Eo A o with
    |some (.nest e)=>if decide (e.ro=te.ty)&&te.plain then(bif decide (0<=n')&&decide (n'<=c')&&Wx c'.toNat then k (.s (.one (.own st.nx))) ((st.nx,.arr e (Xp n'.toNat e.dflt))::st.objs) (st.nx+1)else none)else none
    |_=>if te.ty.data&&te.plain then(bif decide (0<=n')&&decide (n'<=c')&&Wx c'.toNat then k (.s (.one (.own st.nx))) ((st.nx,.arr te.ty (Xp n'.toNat te.ty.dflt))::st.objs) (st.nx+1)else none)else none
   |none=>none
  |_,_,_=>none
 | .store t a x=>match ev st a,ev st x with
  |some p,some v=>match mR T {env:=st.env,objs:=pw st.objs (vH st.objs p v),nx:=st.nx} t p (se st.objs (vH st.objs p v) v)with
   |some ai=>match o.dst with
    |none=>k (.tup []) ai.objs ai.nx
    |some _=>none
   |none=>none
  |_,_=>none
 | .slice t x lo hi none=>match ev st x with
  |some (.s (.one (.own id)))=>match Wt T t,fP st lo,fP st hi with
   |some ⟨_,false,.slice et⟩,some l,some h=>match Wt T et with
    |some te=>match Eo A o with
     |some .view=>if te.plain then nT st te.ty id l h k else none
     |_=>match l,h,Wt st.objs id with
      |none,some h,some (.arr e xs)=>if te.ty=e.ro/\te.plain then(bif decide (0<=h)&&decide (h<=(xs.length:Int))then k (.s (.one (.own st.nx))) ((st.nx,.arr e (xs.take h.toNat))::(id,.dead)::st.objs) (st.nx+1)else none)else none
      |none,some h,some (.hole e xs i p)=>if te.ty=e.ro/\te.plain/\Oh (Wt st.objs p) e.size then(bif decide (0<=h)&&decide (h<=(xs.length:Int))&&decide (h<=(i:Int))then k (.s (.one (.own st.nx))) ((st.nx,.arr e (xs.take h.toNat))::(id,.dead)::(p,.dead)::st.objs) (st.nx+1)else none)else none
      |_,_,_=>none
    |none=>none
   |_,_,_=>none
  |_=>match b5 T st o.op with
   |some (c,v)=>bif c then k v st.objs st.nx else none
   |none=>none
 | .call c=>match c.callee,c.args.toList,c.argTypes.toList with
  | .builtin .append,[s,x],[t,t2]=>match ev st s,ev st x with
   |some sv,some xv=>vu T st t t2 sv xv k
   |_,_=>none
  | .builtin .clear,[x],[t]=>match ev st x with
   |some (.s (.one (.vw id lo hi)))=>match Wt T t,Wt st.objs id with
    |some ⟨_,false,.slice et⟩,some (.arr e xs)=>match Wt T et with
     |some te=>if te.ty=e/\te.plain/\e.data then k (.tup []) ((id,.arr e (xs.take lo++Xp (hi-lo) e.dflt++xs.drop hi))::st.objs) st.nx else none
     |none=>none
    |_,_=>none
   |_=>none
  | .builtin _,_,_=>match b5 T st o.op with
   |some (c,v)=>bif c then k v st.objs st.nx else none
   |none=>none
  | .value f,b,_=>match ev st f,evs st b with
   |some (.s (.one (.clos g caps))),some xs=>match Wt Γ g with
    |some sg=>match sg.inl with
     |none=>si sg st (xs++dl caps) k
     |some i=>i.fn R {env:=ki 0 (xs++dl caps),objs:=st.objs,nx:=st.nx} k
    |none=>none
   |_,_=>none
  |_,_,_=>none
 |op=>match b5 T st op with
  |some (c,v)=>bif c then k v st.objs st.nx else none
  |none=>none
def rx1{R:Type}(T:Tab)(Γ:Ctx)(A:List (Nat×An))(o:Oper)(st:St)(k:St->Option R):Option R:=
 rxe T Γ A o st λx objs nx=>k (({env:=st.env,objs:=objs,nx:=nx}:St).put o.dst x)
def rxg{R:Type}(T:Tab)(Γ:Ctx)(A:List (Nat×An))(ops:Array Oper)(o:Oper)(st:St)(k:St->Option R):Option R:=
 match o.guard with
 |none=>rx1 T Γ A o st k
 |some (j,want)=>match(ops[j]?).bind (·.dst)with
  |some t=>match Wt st.env t with
   |some (.tup [])=>k (st.put o.dst (.tup []))
   |some x=>match asB x with
    |some b=>bif b
     then(if want then rx1 T Γ A o (st.put (some t) (one .bool true)) k else k ((st.put (some t) (one .bool true)).put o.dst (.tup [])))
     else(if want then k ((st.put (some t) (one .bool false)).put o.dst (.tup []))else rx1 T Γ A o (st.put (some t) (one .bool false)) k)
    |none=>none
   |none=>none
  |none=>none
inductive Ex where
 |normal|exit (id:Nat)|ret
def wd{R:Type}(f:St->(Ex->St->Option R)->Option R):Nat->St->(Ex->St->Option R)->Option R
 |0,_,_=>none
 |n+1,st,k=>f st λe ai=>match e with
  | .normal=>wd f n ai k
  | .exit id=>k (.exit id) ai
  | .ret=>k .ret ai
inductive Ghost where
 |canon (slots:List Nat)
 |adoptC (slot off:Nat) (e:Ty)
 |freezeC (slot off:Nat)
 |nest (dst:Nat) (e:Ty)
 |view (dst:Nat)
 |opn (dst:Nat)
 |unfE (slot:Nat)
 |unfC (slot off:Nat) (ix:Option Nat)
 |shut (slot off:Nat)
 |shutD (dst off:Nat)
def iH:List Ghost->List (Nat×An)
 | []=>[]
 | .nest d e::l=>(d,.nest e)::iH l
 | .view d::l=>(d,.view)::iH l
 | .opn d::l=>(d,.opn)::iH l
 | .canon _::l=>iH l
 | .adoptC _ _ _::l=>iH l
 | .freezeC _ _::l=>iH l
 | .unfE _::l=>iH l
 | .unfC _ _ _::l=>iH l
 | .shut _ _::l=>iH l
 | .shutD d off::l=>(d,.shut off)::iH l
def gb:Cell->List Nat
 | .own id| .aptr id| .ptr id _| .eptr id _ _| .vw id _ _=>[id]
 | .clos _ caps=>caps
 |_=>[]
def g0:AV->List Nat
 | .one c=>gb c
 | .agg cs=>cs.flatMap gb
def eU:AVal->List Nat
 | .s x=>g0 x
 | .tup xs=>xs.flatMap g0
def qb:Nat->List Nat->List Nat->af->List Nat
 |0,_,a,_=>a
 |n+1,b,a,objs=>match b with
  | []=>a
  |i::l=>if dz i a then qb n l a objs else
   match Wt objs i with
   |some (.box cs)=>qb n (l++cs.flatMap gb) (a++ [i]) objs
   |some (.arr _ _)=>qb n l (a++ [i]) objs
   |some (.hole _ _ _ p)=>qb n (l++ [p]) (a++ [i]) objs
   |_=>qb n l a objs
def nc(i:Nat):List Nat->Option Nat
 | []=>none
 |j::l=>if aZ i j then some 0 else(nc i l).map (· +1)
def D2(m:List Nat):List Nat->Option (List Nat)
 | []=>some []
 |i::l=>match nc i m,D2 m l with
  |some j,some r=>some (j::r)
  |_,_=>none
def mU(m:List Nat):Cell->Cell
 | .own id=>match nc id m with|some j=>.own j|none=>.junk
 | .vw id lo hi=>match nc id m with|some j=>.vw j lo hi|none=>.junk
 | .aptr id=>match nc id m with|some j=>.aptr j|none=>.junk
 | .ptr id off=>match nc id m with|some j=>.ptr j off|none=>.junk
 | .eptr id i off=>match nc id m with|some j=>.eptr j i off|none=>.junk
 | .clos f caps=>match D2 m caps with|some js=>.clos f js|none=>.junk
 | .val t d=>.val t d
 | .nils=>.nils
 | .rptr t d off=>.rptr t d off
 | .junk=>.junk
def Oq(m:List Nat):AV->AV
 | .one c=>.one (mU m c)
 | .agg cs=>.agg (cs.map (mU m))
def Nx(m:List Nat):AVal->AVal
 | .s x=>.s (Oq m x)
 | .tup xs=>.tup (xs.map (Oq m))
def Ec(m:List Nat):Ob->Ob
 | .box cs=>.box (cs.map (mU m))
 | .arr e xs=>.arr e xs
 | .hole e xs i p=>match nc p m with|some j=>.hole e xs i j|none=>.dead
 | .dead=>.dead
def vy(env:List (Nat×AVal)):List Nat->List (Nat×AVal)
 | []=>[]
 |i::l=>match Wt env i with
  |some x=>(i,x)::vy env l
  |none=>vy env l
def py(m:List Nat)(objs:af):Nat->List Nat->af
 |_,[]=>[]
 |j,i::l=>match Wt objs i with
  |some ob=>(j,Ec m ob)::py m objs (j+1) l
  |none=>py m objs (j+1) l
def canon(a:List Nat)(st:St):St:=
 let env:=vy st.env a
 let m:=qb 400 (env.flatMap λp=>eU p.2) [] st.objs
 {env:=env.map λp=>(p.1,Nx m p.2),objs:=py m st.objs 0 m,nx:=m.length}
def Ai(st:St)(r i:Nat):Option St:=
 match Wt st.objs r with
 |some (.arr e xs)=>
  let x:=unfold e (xs.getD i e.dflt) (st.nx+1)
  some {env:=st.env,objs:=(r,.hole e xs i st.nx)::(st.nx,.box x.1)::(x.2.1++st.objs),nx:=x.2.2}
 |_=>none
def Yq(st:St)(r:Nat):Option Nat->Option (Bool×Nat)
 |none=>match Wt st.objs r with
  |some (.arr _ xs)=>some (inb (Wz .i64 (Wi xs) 1) (Xa xs),(Wz .i64 (Wi xs) 1).toNat)
  |_=>none
 |some s=>match Wt st.objs r,(Wt st.env s).bind asI with
  |some (.arr _ xs),some n=>some (inb n (Xa xs),n.toNat)
  |_,_=>none
def D7(st:St)(r:Nat)(a:Option Nat):Option (Bool×St):=
 match Yq st r a with
 |some (c,i)=>(Ai st r i).map λai=>(c,ai)
 |none=>none
def D5(p:Nat):af->Option Nat
 | []=>none
 |(r,.hole _ _ _ p')::l=>if aZ p p' then some r else D5 p l
 |(_,.box _)::l=>D5 p l
 |(_,.arr _ _)::l=>D5 p l
 |(_,.dead)::l=>D5 p l
def Nv(st:St)(p:Nat):Option St:=
 match D5 p st.objs with
 |some r=>match Wt st.objs r,Wt st.objs p with
  |some (.hole e xs i p'),some (.box cs)=>match aC e cs st.objs with
   |some (d,m,[])=>if aZ p p'&&en (r::p::m)then some {env:=st.env,objs:=(r,.arr e (xs.set i d))::kill st.objs (p::m),nx:=st.nx}else none
   |_=>none
  |_,_=>none
 |none=>none
def lQ(g:Ghost)(st:St):Option (Bool×St):=
 match g with
 | .canon slots=>some (true,canon slots st)
 | .adoptC slot off e=>match Wt st.env slot with
  |some (.s (.one (.ptr id 0)))=>match Wt st.objs id with
   |some (.box cs)=>match cs[off]? with
    |some .nils=>some (true,{env:=st.env,objs:=(id,.box (cs.set off (.own st.nx)))::(st.nx,.arr e [])::st.objs,nx:=st.nx+1})
    |some (.own _)=>some (true,st)
    |_=>none
   |_=>none
  |_=>none
 | .freezeC slot off=>match Wt st.env slot with
  |some (.s (.one (.ptr id 0)))=>match Wt st.objs id with
   |some (.box cs)=>match cs[off]? with
    |some (.own j)=>match Wt st.objs j with
     |some (.arr e xs)=>some (true,{st with objs:=(id,.box (cs.set off (.val (.slice e.ro) (dX e xs))))::(j,.dead)::st.objs})
     |_=>none
    |some (.val _ _)=>some (true,st)
    |some .nils=>some (true,st)
    |_=>none
   |_=>none
  |_=>none
 | .nest _ _=>some (true,st)
 | .view _=>some (true,st)
 | .opn _=>some (true,st)
 | .shutD _ _=>some (true,st)
 | .unfE slot=>match Wt st.env slot with
  |some (.s (.one (.eptr r i 0)))=>(Ai st r i).map λai=>(true,ai.put (some slot) (.s (.one (.ptr st.nx 0))))
  |_=>none
 | .unfC slot off ix=>match Wt st.env slot with
  |some (.s (.one (.ptr id o)))=>match Wt st.objs id with
   |some (.box cs)=>match cs[o+off]? with
    |some (.own r)=>D7 st r ix
    |_=>none
   |_=>none
  |_=>none
 | .shut slot off=>match Wt st.env slot with
  |some (.s (.one (.ptr id o)))=>match Wt st.objs id with
   |some (.box cs)=>match cs[o+off]? with
    |some (.own r)=>match Wt st.objs r with
     |some (.hole _ _ _ p)=>(Nv st p).map λai=>(true,ai)
     |some (.arr _ _)=>some (true,st)
     |_=>none
    |_=>none
   |_=>none
  |_=>none
def Ghost.quiet:Ghost->Bool
 | .canon _=>false
 |_=>true
def fH:List Ghost->St->Option (Bool×St)
 | [],st=>some (true,st)
 |g::l,st=>match lQ g st with
  |some (c,ai)=>match fH l ai with
   |some (c',cr)=>some (c&&c',cr)
   |none=>none
  |none=>none
def opG(A:List (Nat×An))(o:Oper)(st:St):Option (Bool×St):=match Eo A o,o.dst with
 |some .opn,some d=>match Wt st.env d with
  |some (.tup [])=>some (true,st)
  |_=>lQ (.unfE d) st
 |some .view,_=>some (true,st)
 |some (.nest _),_=>some (true,st)
 |none,_=>some (true,st)
 |some .opn,none=>some (true,st)
 |some (.shut off),some d=>lQ (.shut d off) st
 |some (.shut _),none=>some (true,st)
def rxs{R:Type}(T:Tab)(Γ:Ctx)(A:List (Nat×An))(ops:Array Oper):List Oper->St->(St->Option R)->Option R
 | [],st,k=>k st
 |o::l,st,k=>rxg T Γ A ops o st λai=>match opG A o ai with
  |some (c,cr)=>bif c then rxs T Γ A ops l cr k else none
  |none=>none
def vF:Code->Option Nat
 | .region id _ _=>some id
 | .seq a b=>match vF a with
  |some i=>some i
  |none=>vF b
 | .cond _ a b=>match vF a with
  |some i=>some i
  |none=>vF b
 | .block _ c=>vF c
 | .loop c=>(vF c).map (· +100000)
 |_=>none
def vA(c:Code):Nat:=match vF c with
 |some i=>i+100000
 |none=>99999
def Aj{R:Type}(a:List Ghost)(f:St->(Ex->St->Option R)->Option R)(st:St)(k:Ex->St->Option R):Option R:=
 f st λe ai=>match e with
  | .normal=>match fH a ai with
   |some (c,cr)=>bif c then k .normal cr else none
   |none=>none
  | .exit id=>k (.exit id) ai
  | .ret=>k .ret ai
def ar:Op->List Operand
 | .move x| .assign x| .box _ x| .load _ x| .nilCheck x| .unOp _ _ x| .convert _ _ x| .fieldAddr _ x _| .field _ x _| .extract x _=>[x]
 | .pick c a b=>[c,a,b]
 | .build _ ps| .buildSlice _ _ ps=>ps.toList.map (·.2)
 | .store _ a v| .binOp _ _ a v _| .makeSlice _ a v| .indexAddr _ a v| .index _ a v=>[a,v]
 | .makeFunc _ first captured=>first.toList++captured.toList
 | .slice _ x l h m=>x::(l.toList++(h.toList++m.toList))
 | .call c=>(match c.callee with| .value f=>[f]|_=>[])++c.args.toList
 |_=>[]
def bs(o:Oper):Bool:=match o.op with
 | .alloc _| .box _ _| .buildSlice _ _ _| .makeSlice _ _ _| .store _ _ _| .slice _ _ _ _ _=>true
 | .call c=>match c.callee with
  | .builtin .append=>true
  | .builtin .clear=>true
  | .builtin _=>false
  |_=>true
 |_=>false
def OE:Op->Bool
 | .load _ _| .nilCheck _| .binOp _ _ _ _ _| .convert _ _ _| .fieldAddr _ _ _| .indexAddr _ _ _| .call _=>true
 |_=>false
def rR(st:St):List Operand->List Nat
 | []=>[]
 |x::l=>match ev st x with
  |some v=>eU v++rR st l
  |none=>rR st l
def lw(o:Oper)(st:St):List Nat:=bif OE o.op then rR st (ar o.op)else []
def sc(l:af):List Nat:=l.map (·.1)
def HI(a b:af):List Nat:=sc (b.take (b.length-a.length))
def H9(x:Nat)(l:List Nat):List Nat:=bif dz x l then l else x::l
def D4:List Nat->List Nat->List Nat
 | [],l=>l
 |x::m,l=>D4 m (H9 x l)
def gy(o:Oper):List Nat:=(o.after.toList.filter (Region.binds .any)).map (·.on)
def p0(a:List (List Nat)):List Nat->List Nat->List Nat
 | [],l=>l
 |j::ds,l=>p0 a ds (D4 (a.getD j []) (H9 j l))
def dW:List Oper->List (List Nat)->List (List Nat)
 | [],acc=>acc
 |o::l,acc=>dW l (acc++ [p0 acc (gy o) []])
def d1(B:List (List Nat))(j i:Nat):Bool:=dz j (B.getD i [])
def HX:List Oper->Nat->Bool
 | [],_=>true
 |o::l,n=>(gy o).all (λd=>Ii d n)&&HX l (n+1)
def Oo:Operand->List Nat
 | .tmp t=>[t]
 |_=>[]
def nQ(ops:Array Oper)(o:Oper):List Nat:=(ar o.op).flatMap Oo++(match o.guard with
 |some (j,_)=>((ops[j]?).bind (·.dst)).toList
 |none=>[])
def rZ:List Oper->Nat->List (Nat×Nat)
 | [],_=>[]
 |o::l,i=>match o.dst with
  |some d=>(d,i)::rZ l (i+1)
  |none=>rZ l (i+1)
def HD(ops:Array Oper)(B:List (List Nat))(D:List (Nat×Nat)):List Oper->Nat->Bool
 | [],_=>true
 |o::l,i=>(nQ ops o).all (λt=>D.all λp=>!aZ p.1 t||aZ p.2 i||d1 B p.2 i||d1 B i p.2)&&HD ops B D l (i+1)
def HN(ops:Array Oper)(B:List (List Nat)):Bool:=
 HX ops.toList 0&&en ((rZ ops.toList 0).map (·.1))&&HD ops B (rZ ops.toList 0) ops.toList 0
def kn:List Oper->Nat->List Nat
 | [],_=>[]
 |o::l,i=>bif bs o then i::kn l (i+1)else kn l (i+1)
def lY(B:List (List Nat)):Nat->List Nat->List (List Nat)
 |0,_=>[[]]
 |n+1,rem=>match rem with
  | []=>[[]]
  |_=>(rem.filter λm=>rem.all λa=>!d1 B a m).flatMap λm=>(lY B n (rem.filter λx=>!aZ x m)).map (m:: ·)
def YJ(ops:List Oper)(B:List (List Nat))(a σ:List Nat):Nat->Option Nat:=λi=>match ops with
 | []=>none
 |o::l=>bif !dz i a&&(B.getD i []).all (λj=>dz j a)&&(!bs o||(match σ with|m::_=>aZ m i| []=>false))then some i else YJ l B a σ (i+1)
def DY(ops:List Oper)(B:List (List Nat)):Nat->List Nat->List Nat->List Nat
 |0,_,_=>[]
 |n+1,a,σ=>match YJ ops B a σ 0 with
  |some i=>i::DY ops B n (i::a) (match σ with|m::σ'=>bif aZ m i then σ' else σ| []=>[])
  |none=>[]
def na(ops:Array Oper):List Nat->List Nat->Bool
 | [],done=>aZ done.length ops.size
 |i::l,done=>!dz i done&&(match ops[i]? with|some o=>(gy o).all (λd=>dz d done)|none=>false)&&na ops l (i::done)
def pD{α:Type}:List Nat->(List Nat->α)->α
 | [],k=>k []
 |x::l,k=>pD l λa=>k (x::a)
def HF{α:Type}:List (List Nat)->(List (List Nat)->α)->α
 | [],k=>k []
 |x::l,k=>pD x λx'=>HF l λa=>k (x'::a)
def rdx{R:Type}(T:Tab)(Γ:Ctx)(A:List (Nat×An))(ops:Array Oper)(B:List (List Nat)):List Nat->List (Nat×List Nat)->List (Nat×List Nat)->St->(St->Option R)->Option R
 | [],_,_,st,k=>k st
 |i::l,b,c,st,k=>match ops[i]? with
  |some o=>bif bs o
   then rxg T Γ A ops o st λai=>pD (HI st.objs ai.objs) λa=>
    bif b.all (λp=>d1 B p.1 i||iA p.2 a)then rdx T Γ A ops B l b ((i,a)::c) ai k else none
   else pD (lw o st) λa=>
    bif c.all (λp=>d1 B p.1 i||iA a p.2)then rxg T Γ A ops o st λai=>rdx T Γ A ops B l ((i,a)::b) c ai k else none
  |none=>none
def Wk{α β:Type}(x:α)(f:α->β):β:=f x
open Classical in
noncomputable def aa{α:Type}(a b:Option α):Option α:=if a=b then a else none
noncomputable def ws{R:Type}(T:Tab)(Γ:Ctx)(A:List (Nat×An))(ops:Array Oper)(B:List (List Nat))(st:St)(k:St->Option R):List (List Nat)->Option R
 | []=>none
 |σ::l=>
  let a:=pD (DY ops.toList B ops.size [] σ) λL=>bif na ops L []&&eqN (L.filter λi=>dz i σ) σ then rdx T Γ A ops B L [] [] st k else none
  match l with
  | []=>a
  |_=>aa a (ws T Γ A ops B st k l)
noncomputable def p8{R:Type}(T:Tab)(Γ:Ctx)(A:List (Nat×An))(ops:Array Oper)(st:St)(k:St->Option R):Option R:=
 HF (dW ops.toList []) λB=>bif HN ops B then ws T Γ A ops B st k (lY B ops.size (kn ops.toList 0))else none
noncomputable def sx{R:Type}(T:Tab)(Γ:Ctx)(d:Nat->List Ghost)(N:Nat):Code->St->(Ex->St->Option R)->Option R
 | .skip,st,k=>k .normal st
 | .region id ops draw,st,k=>
  bif draw then p8 T Γ (iH (d id)) ops st λai=>match fH (d id) ai with
   |some (c,cr)=>bif c then k .normal cr else none
   |none=>none
  else rxs T Γ (iH (d id)) ops ops.toList st λai=>match fH (d id) ai with
   |some (c,cr)=>bif c then k .normal cr else none
   |none=>none
 | .seq a b,st,k=>sx T Γ d N a st λe ai=>match e with
  | .normal=>sx T Γ d N b ai k
  | .exit id=>k (.exit id) ai
  | .ret=>k .ret ai
 | .cond c x y,st,k=>match(ev st c).bind asB with
  |some b=>bif b then sx T Γ d N x st k else sx T Γ d N y st k
  |none=>none
 | .block id c,st,k=>sx T Γ d N c st λe ai=>match e with
  | .exit cJ=>if cJ=id then k .normal ai else k (.exit cJ) ai
  | .normal=>k .normal ai
  | .ret=>k .ret ai
 | .loop c,st,k=>match fH (d (vA c)) st with
  |some (b,ai)=>bif b then wd (Aj (d (vA c)) λst k=>sx T Γ d N c st k) N ai k else none
  |none=>none
 | .exit id,st,k=>k (.exit id) st
 | .ret,st,k=>k .ret st
 |_,_,_=>none
def Eg:List AVal->List Nat
 | []=>[]
 | .s (.one (.ptr id 0))::l=>id::Eg l
 |_::l=>Eg l
def WT:(a:List PTy)->dA a->af->Nat->List AVal×af×Nat
 | [],_,objs,nx=>([],objs,nx)
 | .v t agg::a,d,objs,nx=>
  let x:=unfold t d.1 nx
  let y:=WT a d.2 (x.2.1++objs) x.2.2
  (.s (Er agg x.1)::y.1,y.2)
 | .box t::a,d,objs,nx=>
  let x:=unfold t d.1 (nx+1)
  let y:=WT a d.2 ((nx,.box x.1)::(x.2.1++objs)) x.2.2
  (.s (.one (.ptr nx 0))::y.1,y.2)
 | .mut e::a,d,objs,nx=>
  let y:=WT a d.2 ((nx,.arr e d.1)::objs) (nx+1)
  (.s (.one (.own nx))::y.1,y.2)
 | .clos g n::a,d,objs,nx=>
  let y:=WT a d objs nx
  (.s (.one (.clos g (Eg (y.1.take n))))::y.1.drop n,y.2)
 | .kv t agg::a,d,objs,nx=>
  let x:=unfold t d.1 nx
  let y:=WT a d.2 (x.2.1++objs) x.2.2
  (.s (Er agg x.1)::y.1,y.2)
 | .rp t::a,d,objs,nx=>
  let y:=WT a d.2 objs nx
  (.s (.one (.rptr t d.1 0))::y.1,y.2)
 | .vj _::a,d,objs,nx=>
  let y:=WT a d objs nx
  (.tup []::y.1,y.2)
 | .boxal t lf::a,d,objs,nx=>
  let x:=unfold t d.1 (nx+1)
  let y:=WT a d.2.2 ((nx,.box x.1)::(x.2.1++objs)) x.2.2
  (.s (.one (.ptr nx 0)):: .s (.one (.eptr (nx+1+lf) d.2.1 0))::y.1,y.2)
def jt(T:Tab)(st:St):List ResultVar->Option (List AVal)
 | []=>some []
 | .tmp t::rs=>match Wt st.env t,jt T st rs with
  |some x,some xs=>some (x::xs)
  |_,_=>none
 | .cell a t::rs=>match(Wt st.env a).bind (rW T st t),jt T st rs with
  |some x,some xs=>some (x::xs)
  |_,_=>none
structure Outs(α:Type) where
 d:α
 moved:List Nat
 lent:List Nat
def fL:(b:List PTy)->List AVal->af->Option (Outs (ec b))
 | [],a,_=>match a with
  | []=>some ⟨(),[],[]⟩
  |_=>none
 | .v t agg::b,a,objs=>match a with
  |x::a=>match(cellsOf agg x).bind λc=>aC t c objs,fL b a objs with
   |some (d,m,l),some A=>some ⟨(d,A.d),m++A.moved,l++A.lent⟩
   |_,_=>none
  |_=>none
 | .box t::b,a,objs=>match a with
  | .s (.one (.ptr id 0))::a=>match Wt objs id with
   |some (.box c)=>match aC t c objs,fL b a objs with
    |some (d,m,l),some A=>some ⟨(d,A.d),id::(m++A.moved),l++A.lent⟩
    |_,_=>none
   |_=>none
  |_=>none
 | .mut _::_,_,_=>none
 | .clos _ _::_,_,_=>none
 | .kv _ _::_,_,_=>none
 | .rp _::_,_,_=>none
 | .vj t::b,a,objs=>match a with
  | .s (.agg c)::a=>if c.length=t.size+1 then(match aC t (c.take t.size) objs,fL b a objs with
   |some (d,m,l),some A=>some ⟨(d,A.d),m++A.moved,l++A.lent⟩
   |_,_=>none)else none
  |_=>none
 | .boxal _ _::_,_,_=>none
structure OutK(α:Type) where
 d:α
 kept:List Nat
 moved:List Nat
 lent:List Nat
def WG:List PTy->Nat->Nat->St->List AVal
 | [],_,_,_=>[]
 |_::ps,i,k+1,st=>WG ps i k st
 | .v _ _::ps,i,0,st=>.tup []::WG ps (i+1) 0 st
 | .box _::ps,i,0,st=>(Wt st.env i).getD (.tup [])::WG ps (i+1) 0 st
 | .mut _::ps,i,0,st=>(Wt st.env i).getD (.tup [])::WG ps (i+1) 0 st
 | .clos _ n::ps,i,0,st=>(Wt st.env i).getD (.tup [])::WG ps (i+1) n st
 | .kv _ _::ps,i,0,st=>(Wt st.env i).getD (.tup [])::WG ps (i+1) 0 st
 | .rp _::ps,i,0,st=>.tup []::WG ps (i+1) 0 st
 | .vj _::ps,i,0,st=>.tup []::WG ps (i+1) 0 st
 | .boxal _ _::ps,i,0,st=>(Wt st.env i).getD (.tup []):: .tup []::WG ps (i+2) 0 st
def W7:(b:List PTy)->List AVal->af->Option (OutK (dI b))
 | [],_,_=>some ⟨(),[],[],[]⟩
 | .v _ _::b,a,objs=>(W7 b a.tail objs).map λA=>⟨A.d,A.kept,A.moved,A.lent⟩
 | .box t::b,a,objs=>match a with
  | .s (.one (.ptr id 0))::a=>match Wt objs id with
   |some (.box c)=>match aC t c objs,W7 b a objs with
    |some (d,m,l),some A=>some ⟨(d,A.d),id::A.kept,m++A.moved,l++A.lent⟩
    |_,_=>none
   |_=>none
  |_=>none
 | .mut e::b,a,objs=>match a with
  | .s (.one (.own id))::a=>match Wt objs id with
   |some (.arr e' ys)=>match jy e' e ys,W7 b a objs with
    |some d,some A=>some ⟨(d,A.d),id::A.kept,A.moved,A.lent⟩
    |_,_=>none
   |_=>none
  |_=>none
 | .clos g n::b,a,objs=>match a with
  | .s (.one (.clos g' caps))::a=>if g'=g/\caps.length=n then(W7 b (dl caps++a) objs).map λA=>⟨A.d,A.kept,A.moved,A.lent⟩else none
  |_=>none
 | .kv t agg::b,a,objs=>match a with
  |x::a=>match(cellsOf agg x).bind λc=>aC t c objs,W7 b a objs with
   |some (d,m,l),some A=>if DZ objs t m x then some ⟨(d,A.d),m++A.kept,A.moved,l++A.lent⟩else none
   |_,_=>none
  |_=>none
 | .rp _::b,a,objs=>(W7 b a.tail objs).map λA=>⟨A.d,A.kept,A.moved,A.lent⟩
 | .vj _::_,_,_=>none
 | .boxal t _::b,a,objs=>match a with
  | .s (.one (.ptr id 0))::_::a=>match Wt objs id with
   |some (.box c)=>match aC t c objs,W7 b a objs with
    |some (d,m,l),some A=>some ⟨(d,A.d),id::A.kept,m++A.moved,l++A.lent⟩
    |_,_=>none
   |_=>none
  |_=>none
def OJ{R:Type}(T:Tab)(sg:Sig)(rv:List ResultVar)(k:dI sg.ps×ec sg.rs->Option R)(e:Ex)(st:St):Option R:=
 match e with
 | .exit _=>none
 |_=>match jt T st rv with
  |some xs=>match fL sg.rs xs st.objs,W7 sg.ps (WG sg.ps 0 0 st) st.objs with
   |some A,some B=>if en (B.kept++(B.moved++A.moved))&&iA (A.lent++B.lent) (B.kept++(B.moved++A.moved))then k (B.d,A.d)else none
   |_,_=>none
  |none=>none
noncomputable def den{R:Type}(T:Tab)(Γ:Ctx)(a:Nat->List Ghost)(N:Nat)(sg:Sig)(f:Func)(d:dA sg.ps)(k:dI sg.ps×ec sg.rs->Option R):Option R:=
 let x:=WT sg.ps d [] 0
 match f.body,fH (a 1000000) {env:=ki 0 x.1,objs:=x.2.1,nx:=x.2.2}with
 |some c,some (b,st)=>bif b then sx T Γ a N c st (OJ T sg f.results.toList k)else none
 |_,_=>none
def lA:List PTy->Nat->Nat->List Nat
 | [],_,_=>[]
 |_::ps,i,k+1=>lA ps i k
 | .v _ _::ps,i,0=>lA ps (i+1) 0
 | .box _::ps,i,0=>i::lA ps (i+1) 0
 | .mut _::ps,i,0=>i::lA ps (i+1) 0
 | .clos _ n::ps,i,0=>i::lA ps (i+1) n
 | .kv _ _::ps,i,0=>i::lA ps (i+1) 0
 | .rp _::ps,i,0=>lA ps (i+1) 0
 | .vj _::ps,i,0=>lA ps (i+1) 0
 | .boxal _ _::ps,i,0=>i::lA ps (i+2) 0
def fa:List PTy->Nat
 | []=>0
 | .v _ _::ps=>fa ps+1
 | .box _::ps=>fa ps+1
 | .mut _::ps=>fa ps+1
 | .clos _ _::ps=>fa ps+1
 | .kv _ _::ps=>fa ps+1
 | .rp _::ps=>fa ps+1
 | .vj _::ps=>fa ps+1
 | .boxal _ _::ps=>fa ps+2
def Ar:List PTy->Nat->Bool
 |_,0=>true
 | .box _::ps,n+1=>Ar ps n
 |_,_+1=>false
def gi:List PTy->Bool
 | []=>true
 | .clos _ n::ps=>Ar ps n&&gi ps
 | .v _ _::ps=>gi ps
 | .box _::ps=>gi ps
 | .mut _::ps=>gi ps
 | .kv _ _::ps=>gi ps
 | .rp _::ps=>gi ps
 | .vj _::ps=>gi ps
 | .boxal _ _::ps=>gi ps
theorem vr{α}{R}{n}(h:∀x c,R x c->c.length=n):
  ∀(l:List α) (cs),bO R l cs->cs.length=l.length*n
 | [],cs,e=>by grind [bO]
 |x::l,cs,e=>by
  obtain⟨f,a,rfl,b,d⟩:=e;have:=vr h l a d;rw[Xv,h _ _ b,this,Xs,fC,qo]
theorem UQ{α}{R R'}(h:∀x c,R x c->R' x c):
  ∀(l:List α) (cs),bO R l cs->bO R' l cs
 | [],_,e=>e
 |_::l,_,⟨b,a,g,d,f⟩=>⟨b,a,g,h _ _ d,UQ h l a f⟩
theorem F9{α}{R}:∀(l a:List α) (cs dv),bO R l cs->bO R a dv->bO R (l++a) (cs++dv)
 | [],_,cs,dv,e,e'=>by grind [bO]
 |x::l,a,_,dv,⟨c,b,g,d,f⟩,e'=>⟨c,b++dv,by simp[g],d,F9 l a b dv f e'⟩
theorem MR{α}{R}{n}(h:∀x c,R x c->c.length=n):
  ∀(l) (cs) (i) (x:α),bO R l cs->l[i]?=some x->R x ((cs.drop (i*n)).take n)
 | [],_,_,_,_,hi=>by simp at hi
 |y::l,cs,0,x,⟨e,a,d,b,_⟩,hi=>by
  grind
 |y::l,cs,i+1,x,⟨e,a,d,b,f⟩,hi=>by
  have g:=h _ _ b;have:=MR h l a i x f (by simp_all);rw[d,fC,qo,←A6,List.drop_left' g];exact this
theorem Dq{α}{R}{n}(h:∀x c,R x c->c.length=n):
  ∀(l:List α) (cs) (m),bO R l cs->bO R (l.take m) (cs.take (m*n))
 | [],cs,m,e=>by grind [bO]
 |x::l,cs,0,_=>by simp[bO]
 |x::l,cs,m+1,⟨d,a,g,b,f⟩=>by
  have i:=h _ _ b;refine⟨d,a.take (m*n),?_,b,Dq h l a m f⟩;rw[g,fC,qo,←i,Xfw]
theorem Du{α}{R}{n}(h:∀x c,R x c->c.length=n):
  ∀(l:List α) (cs) (m),bO R l cs->bO R (l.drop m) (cs.drop (m*n))
 | [],cs,m,e=>by grind [bO]
 |x::l,cs,0,e=>by grind
 |x::l,cs,m+1,⟨f,a,g,b,d⟩=>by
  have i:=h _ _ b;have:=Du h l a m d
  grind [bO,fC,qo,A6,Xgz]
theorem MV{α}{R}{n}(h:∀x c,R x c->c.length=n):
  ∀(l) (cs) (i) (x:α) (a),bO R l cs->i<l.length->R x a->
   bO R (l.set i x) (cs.take (i*n)++a++cs.drop (i*n+n))
 | [],_,_,_,_,_,k,_=>by simp at k
 |y::l,cs,0,x,a,⟨d,e,j,b,f⟩,_,g=>by
  have m:=h _ _ b;refine⟨a,e,?_,g,f⟩;simp_all
 |y::l,cs,i+1,x,a,⟨d,e,j,b,f⟩,k,g=>by
  have m:=h _ _ b;refine⟨d,_,?_,b,MV h l e i x a f (by simp_all) g⟩;have o:(i+1)*n=d.length+i*n:=by rw[fC,m,qo]
  rw[j,o,Xfw,dN,←A6,Xgz];simp
theorem c3{G}:∀(t) (d) (cs),Enc G t d cs->cs.length=t.size
 | .int _,_,_,h=>by grind [Enc,Ty.size]
 | .bool,_,_,h=>by grind [Enc,Ty.size]
 | .str,_,_,h=>by grind [Enc,Ty.size]
 | .slice _,_,_,h=>by obtain⟨v,rfl,_⟩:=h;simp[Ty.size]
 | .own _,_,_,h=>h.elim
 | .prod a b,d,_,h=>by
  obtain⟨f,g,rfl,c,e⟩:=h;rw[Xv,c3 a _ _ c,c3 b _ _ e,Ty.size]
def GLe(G G':GH):Prop:=∀b o v,G b o=some v->G' b o=some v
theorem SP{G G'}(h:GLe G G'){b o}{cs}(c:nW G b o cs):nW G' b o cs:=λj v a=>h _ _ _ (c j v a)
theorem jc{G G'}(h:GLe G G'):∀(t) (d) (cs),Enc G t d cs->Enc G' t d cs
 | .int _,_,_,e=>e
 | .bool,_,_,e=>e
 | .str,_,_,e=>e
 | .slice e,d,cs,hh=>by
  obtain⟨v,s,f⟩:=hh;refine⟨v,s,?_⟩;rcases f with f|⟨b,k,g,n,i,j,o,p,q⟩|f
  .exact .inl f
  rotate_left
  .exact .inr (.inr f)
  .exact .inr<| .inl ⟨b,k,g,n,i,j,o,UQ (λx c u=>jc h e x c u) _ _ p,SP h q⟩
 | .own _,_,_,e=>e
 | .prod a b,d,_,⟨l,m,r,i,j⟩=>⟨l,m,r,jc h a _ _ i,jc h b _ _ j⟩
section
variable{G:GH}{ν:Nat->Nu}{nx:Nat}
theorem CellsRel.nil:CellsRel G ν nx [] []:=⟨rfl,λj c v h=>by simp at h⟩
theorem CellsRel.append{cs dv}{vs ay}(h:CellsRel G ν nx cs vs)(d:CellsRel G ν nx dv ay):
  CellsRel G ν nx (cs++dv) (vs++ay):=by
 refine⟨by simp[h.1,d.1],λj c v b a=>?_⟩;rw[fh]at b a;rw[h.1]at a;split at b
 .rename_i ab;rw[Wf ab]at a;exact h.2 j c v b a
 .rename_i ab;rw[We ab]at a;exact d.2 _ c v b a
theorem CellsRel.take{cs}{vs}(h:CellsRel G ν nx cs vs)(n):CellsRel G ν nx (cs.take n) (vs.take n):=by
 refine⟨by simp[h.1],λj c v a b=>?_⟩;rw[mc]at a b;split at a
 .rename_i ab;rw[Wf ab]at b;exact h.2 j c v a b
 grind
theorem CellsRel.drop{cs}{vs}(h:CellsRel G ν nx cs vs)(n):CellsRel G ν nx (cs.drop n) (vs.drop n):=by
 refine⟨by simp[h.1],λj c v a b=>?_⟩;rw[ma]at a b;exact h.2 _ c v a b
theorem CellsRel.one{c}{v}(h:CellRel G ν nx c v)(a:v.oneCell'=true):CellsRel G ν nx [c] [v]:=by
 refine⟨rfl,λj b f d e=>?_⟩
 grind
theorem iZ:∀(t) (d) (vs),Enc G t d vs->CellsRel G ν nx (split t d) vs
 | .int k,d,vs,h=>by have c:=h;simp only[Enc]at c;subst c;exact CellsRel.one h rfl
 | .bool,d,vs,h=>by have c:=h;simp only[Enc]at c;subst c;exact CellsRel.one h rfl
 | .str,d,vs,h=>by have c:=h;simp only[Enc]at c;subst c;exact CellsRel.one h rfl
 | .slice e,d,vs,h=>by
  obtain⟨v,rfl,f⟩:=h;refine CellsRel.one ⟨v,rfl,f⟩ ?_;rcases f with⟨rfl,_⟩|⟨_,_,_,_,rfl,_⟩|⟨_,_,rfl,_⟩<;>rfl
 | .own _,_,_,h=>h.elim
 | .prod a b,d,vs,⟨l,m,j,g,i⟩=>by
  subst j;exact(iZ a _ _ g).append (iZ b _ _ i)
end
def ni(nx:Nat)(ν ν':Nat->Nu):Prop:=∀a,a<nx->ν' a=ν a
section
variable{G G':GH}{ν ν':Nat->Nu}{nx am:Nat}
theorem CellRel.mono(n:GLe G G')(k:ni nx ν ν')(l:nx<=am):
  ∀(c) (v),CellRel G ν nx c v->CellRel G' ν' am c v
 | .val t d,v,h=>jc n t d _ h
 | .nils,_,h=>h
 | .own g,v,⟨a,e⟩=>⟨l9 a l,by rw[k g a];exact e⟩
 | .vw g lo hi,v,⟨a,e⟩=>⟨l9 a l,by rw[k g a];exact e⟩
 | .aptr g,v,⟨a,e⟩=>⟨l9 a l,by rw[k g a];exact e⟩
 | .ptr g off,v,⟨a,e⟩=>⟨l9 a l,by rw[k g a];exact e⟩
 | .eptr g i off,v,⟨a,e⟩=>⟨l9 a l,by rw[k g a];exact e⟩
 | .rptr t d off,v,⟨b,o,q,a,e,m⟩=>⟨b,o,q,a,jc n t d _ e,SP n m⟩
 | .clos f caps,v,⟨y,a,e,m⟩=>⟨y,a,e,λj g u w x=>by
   obtain⟨p,s,r⟩:=m j g u w x;exact⟨l9 p l,s,by rw[k g p];exact r⟩⟩
 | .junk,_,_=>trivial
theorem CellsRel.mono(d:GLe G G')(e:ni nx ν ν')(f:nx<=am){cs}{vs}(h:CellsRel G ν nx cs vs):CellsRel G' ν' am cs vs:=
 ⟨h.1,λj c v a b=>⟨CellRel.mono d e f c v (h.2 j c v a b).1,(h.2 j c v a b).2⟩⟩
theorem AvRel.mono(a:GLe G G')(b:ni nx ν ν')(d:nx<=am):∀(x) (v),AvRel G ν nx x v->AvRel G' ν' am x v
 | .one c,v,h=>⟨CellRel.mono a b d c v h.1,h.2⟩
 | .agg cs,v,⟨f,e,h⟩=>⟨f,e,h.mono a b d⟩
theorem AValRel.mono(a:GLe G G')(b:ni nx ν ν')(c:nx<=am):∀(x) (v),AValRel G ν nx x v->AValRel G' ν' am x v
 | .s x,v,h=>AvRel.mono a b c x v h
 | .tup xs,v,⟨i,d,e,h⟩=>⟨i,d,e,λj x u g f=>AvRel.mono a b c x u (h j x u g f)⟩
end
theorem DW(nu:Nu):nu.hdr.oneCell'=true:=by unfold Nu.hdr;split<;>rfl
theorem WvL(nu:Nu)(lo hi):(nu.vhdr lo hi).oneCell'=true:=by unfold Nu.vhdr;split<;>rfl
section
variable{α:Type}{R R':α->List Value->List Pc->Prop}
theorem ia{n}(h:∀x c p,R x c p->c.length=n):∀(l) (cs) (a),cz R l cs a->cs.length=l.length*n
 | [],cs,a,e=>by simp[e.1]
 |x::l,cs,a,⟨j,b,m,i,g,k,d,f⟩=>by
  rw[g,Xv,h _ _ _ d,ia h l b i f,Xs,fC,qo]
theorem pl{Q:Pc->Prop}(h:∀x c p,(∀q∈p,Q q)->R x c p->R' x c p):∀(l) (cs) (ps),(∀q∈ps,Q q)->cz R l cs ps->cz R' l cs ps
 | [],_,_,_,e=>e
 |_::l,_,_,d,⟨g,b,n,f,k,m,i,j⟩=>by
  subst m;exact⟨g,b,n,f,k,rfl,h _ _ _ (λq a=>d q (Xm _ a)) i,pl h l b f (λq a=>d q (Xi _ a)) j⟩
theorem Gj:∀(l b) (cs dv) (c a),cz R l cs c->cz R b dv a->cz R (l++b) (cs++dv) (c++a)
 | [],_,cs,dv,c,a,e,e'=>by obtain⟨rfl,rfl⟩:=e;exact e'
 |x::l,b,_,dv,_,a,⟨g,d,m,f,j,k,h,i⟩,e'=>⟨g,d++dv,m,f++a,by simp[j],by simp[k],h,Gj l b d dv f a i e'⟩
theorem TD:∀(l b) (cs) (d),cz R (l++b) cs d->∃a f c g,cs=a++f/\d=c++g/\cz R l a c/\cz R b f g
 | [],b,cs,d,e=>⟨[],cs,[],d,rfl,rfl,⟨rfl,rfl⟩,e⟩
 |x::l,b,cs,d,⟨a,f,c,g,s,t,n,o⟩=>by
  obtain⟨h,j,i,p,q,r,k,m⟩:=TD l b f g o;exact⟨a++h,j,c++i,p,by grind,by grind,⟨a,h,c,i,rfl,rfl,n,k⟩,m⟩
theorem Vu{x}{cs}{ps}:cz R [x] cs ps↔R x cs ps:=by
 constructor
 .rintro⟨a,b,i,j,f,g,c,d,e⟩;simp_all
 .intro h;exact⟨cs,[],ps,[],by simp,by simp,h,rfl,rfl⟩
theorem Ds(l)(cs)(ps)(n)(h:cz R l cs ps):∃a b c p2,cs=a++b/\ps=c++p2/\cz R (l.take n) a c/\cz R (l.drop n) b p2:=
 TD _ _ _ _ (by simp_all)
theorem NW{l}{cs}{ps}{i}(h:cz R l cs ps)(d)(hi:i<l.length):
  ∃a c b f p p2,cs=a++(c++b)/\ps=f++(p++p2)/\cz R (l.take i) a f/\R (l.getD i d) c p/\cz R (l.drop (i+1)) b p2:=by
 obtain⟨a,j,f,t,k,m,n,g⟩:=Ds l cs ps i h;have e:l.drop i=l.getD i d::l.drop (i+1):=by
  simp_all
 rw[e]at g;obtain⟨c,b,p,p2,o,q,r,s⟩:=g
 grind
theorem VV{l:List α}{c1 c a}{p1 p b}{i}{x}(hi:i<l.length)(d:cz R (l.take i) c1 p1)(h:R x c p)(f:cz R (l.drop (i+1)) a b):
  cz R (l.set i x) (c1++(c++a)) (p1++(p++b)):=by
 have e:l.set i x=l.take i++(x::l.drop (i+1)):=by
  rw[Xey,Wf hi]
 rw[e];exact Gj _ _ _ _ _ _ d ⟨c,a,p,b,rfl,rfl,h,f⟩
end
section
variable{G G':GH}{w w':World}
theorem WI:∀(t) (d) (vs) (c),WD G w t d vs c->vs.length=t.size
 | .own e,n,vs,c,⟨p,_,h,_⟩=>by rw[h];rfl
 | .prod a b,d,vs,c,⟨v1,v2,l,m,f,j,g,i⟩=>by
  rw[f,Xv,WI a _ _ _ g,WI b _ _ _ i];rfl
 | .int k,d,vs,c,h=>c3 _ _ _ h.2
 | .bool,d,vs,c,h=>c3 _ _ _ h.2
 | .str,d,vs,c,h=>c3 _ _ _ h.2
 | .slice e,d,vs,c,h=>c3 _ _ _ h.2
theorem gG:∀(t) (d) (vs) (c),WD G w t d vs c->c.length=t.owns
 | .own e,o,vs,c,⟨n,h,_⟩=>by rw[h];rfl
 | .prod a b,d,vs,c,⟨v1,v2,l,m,j,f,g,i⟩=>by rw[f,Xv,gG a _ _ _ g,gG b _ _ _ i];rfl
 | .int k,d,vs,c,h=>by rw[h.1];rfl
 | .bool,d,vs,c,h=>by rw[h.1];rfl
 | .str,d,vs,c,h=>by rw[h.1];rfl
 | .slice e,d,vs,c,h=>by rw[h.1];rfl
theorem nI:∀(t) (d) (vs) (c),t.data=true->(WD G w t d vs c↔Enc G t d vs/\c= [])
 | .own e,r,vs,c,h=>by simp[Ty.data]at h
 | .prod a b,d,vs,c,h=>by
  simp only[Ty.data,Xh]at h;constructor
  .rintro⟨v1,v2,p,q,f,j,g,i⟩;obtain⟨l,n⟩:=(nI a _ _ _ h.1).1 g;obtain⟨m,o⟩:=(nI b _ _ _ h.2).1 i;exact⟨⟨v1,v2,f,l,m⟩,by simp_all⟩
  .rintro⟨⟨v1,v2,f,j,g⟩,i⟩;exact⟨v1,v2,[],[],f,i,(nI a _ _ _ h.1).2 ⟨j,rfl⟩,(nI b _ _ _ h.2).2 ⟨g,rfl⟩⟩
 | .int k,d,vs,c,_=>⟨λh=>⟨h.2,h.1⟩,λh=>⟨h.2,h.1⟩⟩
 | .bool,d,vs,c,_=>⟨λh=>⟨h.2,h.1⟩,λh=>⟨h.2,h.1⟩⟩
 | .str,d,vs,c,_=>⟨λh=>⟨h.2,h.1⟩,λh=>⟨h.2,h.1⟩⟩
 | .slice e,d,vs,c,_=>⟨λh=>⟨h.2,h.1⟩,λh=>⟨h.2,h.1⟩⟩
theorem ri{e}(a:e.data=true):∀(xs) (cs) (ps),cz (WD G w e) xs cs ps↔bO (Enc G e) xs cs/\ps= []
 | [],cs,ps=>Iff.rfl
 |x::xs,cs,ps=>by
  constructor
  .rintro⟨b,c,m,n,d,h,f,g⟩;obtain⟨i,k⟩:=(nI e _ _ _ a).1 f;obtain⟨j,l⟩:=(ri a xs _ _).1 g;exact⟨⟨b,c,d,i,j⟩,by simp_all⟩
  .rintro⟨⟨b,c,d,h,f⟩,g⟩;exact⟨b,c,[],[],d,g,(nI e _ _ _ a).2 ⟨h,rfl⟩,(ri a xs _ _).2 ⟨f,rfl⟩⟩
structure Same(S:CS)(w w':World):Prop where
 row:∀b n,Row w b n->Row w' b n
 cell:∀b o,S b o->w'.cell? ⟨b,o,none⟩=w.cell? ⟨b,o,none⟩
theorem Same.mono{S S'}(h:Same S w w')(a:CS.le S' S):Same S' w w':=⟨h.row,λb o c=>h.cell b o (a b o c)⟩
theorem Mem.same{S}(h:Same S w w'){b o n}{cs}(c:Mem w b o cs)(f:cs.length<=n)(d:CS.le (rng b o n) S):Mem w' b o cs:=λj v a=>by
 have e:j<cs.length:=(dJ.1 a).1;rw[h.cell b (o+j) (d _ _ ⟨rfl,by omega,by omega⟩)];exact c j v a
theorem Hc{α}{R R'}{n}{nu}{xs:List α}{S S'}(u:∀x c p,R x c p->c.length=n)(h:Same S w w')(g:CS.le S S')
  (y:∀x c p,(∀q∈p,CS.le q.fp S)->R x c p->R' x c p) (z:aq w R n nu xs S):aq w' R' n nu xs S':=by
 obtain⟨j,k,d⟩:=z;refine⟨j,k,?_⟩;cases hb:nu.blk with
 |none=>simp_all
 |some b=>
  simp only[hb]at d;obtain⟨e,l,m,i,C,f,r,t,a⟩:=d;have D:=ia u _ _ _ f;have E:xs.length*n<=nu.cap*n:=gA _ e;exact⟨e,l,h.row _ _ m,i,C,pl (Q:=λq=>CS.le q.fp S) y _ _ _ (λq A=>a _ (Xg _ (eG A))) f,r.same h (n:=nu.cap*n) (by omega) (a _ (Xl ..)),t,λs B b o v=>g b o (a s B b o v)⟩
theorem ls(g:GLe G G'):∀(t) (d) (vs) (f),(∀p∈f,Same p.fp w w')->WD G w t d vs f->WD G' w' t d vs f
 | .own e,C,vs,f,i,⟨p,j,l,m⟩=>by
  subst j;have r:=i p (cq.2 rfl);exact⟨p,rfl,l,Hc (λx c q o=>WI e x c q o) r (λ_ _ u=>u) (λx c q v o=>ls g e x c q (λB A=>r.mono (v B A)) o) m⟩
 | .prod a b,d,vs,f,i,⟨v1,v2,y,z,j,l,m,s⟩=>by
  subst l;exact⟨v1,v2,y,z,j,rfl,ls g a _ _ _ (λp n=>i p (Xm _ n)) m,ls g b _ _ _ (λp n=>i p (Xi _ n)) s⟩
 | .int k,d,vs,f,_,h=>⟨h.1,jc g _ _ _ h.2⟩
 | .bool,d,vs,f,_,h=>⟨h.1,jc g _ _ _ h.2⟩
 | .str,d,vs,f,_,h=>⟨h.1,jc g _ _ _ h.2⟩
 | .slice e,d,vs,f,_,h=>⟨h.1,jc g _ _ _ h.2⟩
theorem Same.refl(S)(w):Same S w w:=⟨λ_ _ h=>h,λ_ _ _=>rfl⟩
theorem vq(d:GLe G G'){e}{nu}{xs}{S S'}(h:Same S w w')(b:CS.le S S')(f:aq w (WD G w e) e.size nu xs S):aq w' (WD G' w' e) e.size nu xs S':=
 Hc (λx c q a=>WI e x c q a) h b (λx c q g a=>ls d e x c q (λj i=>h.mono (g j i)) a) f
theorem Tq(m:GLe G G'){e}{nu np}{xs}{i}{S S'}(h:Same S w w')(p:CS.le S S')(K:lR w (WD G w e) e.size nu np xs i S):lR w' (WD G' w' e) e.size nu np xs i S':=by
 obtain⟨z,A,B,b,C,D,E,F,H,I,r,t,O,P,k,l,u,v,y,d⟩:=K;have M:=ia (λx c q a=>WI e x c q a) _ _ _ k;have N:=ia (λx c q a=>WI e x c q a) _ _ _ l;rw[ca,mg (by omega)]at M;rw[kO]at N;have R:(xs.length-(i+1))*e.size<=(nu.cap-(i+1))*e.size:=gA _ (by omega);refine⟨z,A,B,b,C,D,E,F,H,h.row _ _ I,r,t,O,P,?_,?_,?_,?_,y,λs L b o J=>p b o (d s L b o J)⟩
 .exact pl (Q:=λq=>CS.le q.fp S) (λx c q f a=>ls m e x c q (λj g=>h.mono (f j g)) a) _ _ _ (λq f=>d _ (by grind)) k
 .exact pl (Q:=λq=>CS.le q.fp S) (λx c q f a=>ls m e x c q (λj g=>h.mono (f j g)) a) _ _ _ (λq f=>d _ (by grind)) l
 .exact u.same h (n:=i*e.size) (by omega) (d _ (Xl ..))
 .exact v.same h (n:=(nu.cap-(i+1))*e.size) (by omega) (d _ (Xg _ (Xl ..)))
theorem C9(j:GLe G G'){ν ν'}{nx am id}{S S'}(h:Same S w w')(d:CS.le S S')(a:ni nx ν ν')(t:nx<=am)(c:id<nx):
  ∀(ob),dQ G ν nx w id S ob->dQ G' ν' am w' id S' ob
 | .dead,_=>trivial
 | .box cs,⟨b,u,l,m,q,f,g⟩=>by
  refine⟨b,u,by rw[a id c];exact l,by rw[a id c];exact h.row _ _ m,by rw[a id c];exact q.same h (n:=cs.length) (by rw[f.1];omega) g,f.mono j a t,by rw[a id c];exactλb o r=>d b o (g b o r)⟩
 | .arr e xs,k=>by
  show aq w' (WD G' w' e) e.size (ν' id) xs S';rw[a id c];exact vq j h d k
 | .hole e xs i p,⟨s,k⟩=>by
  show p<am/\lR w' (WD G' w' e) e.size (ν' id) (ν' p) xs i S';rw[a id c,a p s];grind [l9,Tq]
theorem G7{ν}{nx}:∀(t) (d) (vs) (c),WD G w t d vs c->CellsRel G ν nx (split t d) vs
 | .own e,d,vs,c,⟨p,_,h,_⟩=>by rw[h];exact CellsRel.one trivial (DW _)
 | .prod a b,d,vs,c,⟨v1,v2,l,m,f,j,g,i⟩=>by
  rw[f];exact(G7 a _ _ _ g).append (G7 b _ _ _ i)
 | .int k,d,vs,c,h=>iZ _ _ _ h.2
 | .bool,d,vs,c,h=>iZ _ _ _ h.2
 | .str,d,vs,c,h=>iZ _ _ _ h.2
 | .slice e,d,vs,c,h=>iZ _ _ _ h.2
theorem WuG{A a B b:Type}(hA)(hB)(h:(A×B)=(a×b))(d):cast h d=(cast hA d.1,cast hB d.2):=by
 grind
theorem Wsk{A a:Type}(hA)(h:List A=List a)(x)(l):cast h (x::l)=cast hA x::cast h l:=by
 grind
theorem WuW{A a:Type}(b:A=a)(h:List A=List a):cast h ([]:List A)= []:=by
 grind
theorem Wpu{A a:Type}(b:A=a)(h:List A=List a)(l):(cast h l).length=l.length:=by
 grind
theorem Wtw(a b)(d):sE (.prod a b) d=(sE a d.1,sE b d.2):=WuG (lD a).symm (lD b).symm _ d
theorem WrP(e)(x)(l):dX e (x::l)=sE e x::dX e l:=Wsk (lD e).symm _ x l
theorem Uv(e):dX e []= []:=WuW (lD e).symm _
theorem GU(e)(l):(dX e l).length=l.length:=Wpu (lD e).symm _ l
theorem ik:∀t:Ty,t.ro.size=t.size
 | .prod a b=>by simp only[Ty.ro,Ty.size,ik a,ik b]
 | .own _| .slice _| .int _| .bool| .str=>rfl
theorem Nz:∀t:Ty,t.ro.data=true
 | .prod a b=>by simp only[Ty.ro,Ty.data,Nz a,Nz b];rfl
 | .own _| .slice _| .int _| .bool| .str=>rfl
def Froz(G:GH)(w:World)(S:CS):Prop:=∀b o v,S b o->w.cell? ⟨b,o,none⟩=some v->G b o=some v
theorem Froz.mono{G}{S S'}(h:Froz G w S)(a:CS.le S' S):Froz G w S':=λb o v c=>h b o v (a b o c)
theorem Mem.stored{b o n}{cs}(d:Mem w b o cs)(f:cs.length<=n)(c:Froz G w (rng b o n)):nW G b o cs:=λj v a=>by
 have e:j<cs.length:=(dJ.1 a).1;exact c b (o+j) v ⟨rfl,by omega,by omega⟩ (d j v a)
theorem Hj{e}(g:∀(x) (c) (p),(∀q∈p,Froz G' w q.fp)->WD G w e x c p->Enc G' e.ro (sE e x) c):
  ∀(xs) (cs) (a),(∀q∈a,Froz G' w q.fp)->cz (WD G w e) xs cs a->bO (Enc G' e.ro) (dX e xs) cs
 | [],cs,a,_,h=>by rw[Uv];exact h.1
 |x::xs,cs,a,i,⟨d,f,n,o,j,k,l,m⟩=>by
  subst k;rw[WrP];exact⟨d,f,j,g x d n (λq b=>i q (Xm _ b)) l,Hj g xs f o (λq b=>i q (Xi _ b)) m⟩
theorem XS{e}(o:∀(x) (c) (p),(∀q∈p,Froz G' w q.fp)->WD G w e x c p->Enc G' e.ro (sE e x) c){nu}{xs}{S}
  (i:Froz G' w S) (h:aq w (WD G w e) e.size nu xs S):n8 G' (Enc G' e.ro) (dX e xs) nu.hdr:=by
 obtain⟨j,u,a⟩:=h;unfold Nu.hdr;cases hb:nu.blk with
 |none=>simp only[hb]at a;exact .inl ⟨rfl,by rw[a,Uv]⟩
 |some b=>
  simp only[hb]at a;obtain⟨k,l,v,f,t,g,m,y,d⟩:=a;have z:=ia (λx c q s=>WI e x c q s) _ _ _ g;have A:xs.length*e.size<=nu.cap*e.size:=gA _ k;refine .inr (.inl ⟨b,nu.off,nu.cap,f,by rw[GU,j],by grind [GU],l,Hj o xs f t (λq r=>i.mono (d _ (Xg _ (eG r)))) g,?_⟩);exact m.stored (n:=nu.cap*e.size) (by omega) (i.mono (d _ (Xl ..)))
theorem vt(g:GLe G G'):∀(t) (d) (vs) (f),(∀p∈f,Froz G' w p.fp)->WD G w t d vs f->Enc G' t.ro (sE t d) vs
 | .own e,y,vs,f,i,⟨p,j,l,m⟩=>by
  subst j;exact⟨_,l,XS (λx c q r s=>vt g e x c q r s) (i p (cq.2 rfl)) m⟩
 | .prod a b,d,vs,f,i,⟨v1,v2,u,v,j,l,m,o⟩=>by
  subst l;rw[Wtw];exact⟨v1,v2,j,vt g a _ _ _ (λp n=>i p (Xm _ n)) m,vt g b _ _ _ (λp n=>i p (Xi _ n)) o⟩
 | .int k,d,vs,f,_,h=>jc g (.int k) _ _ h.2
 | .bool,d,vs,f,_,h=>jc g .bool _ _ h.2
 | .str,d,vs,f,_,h=>jc g .str _ _ h.2
 | .slice e,d,vs,f,_,h=>jc g (.slice e) _ _ h.2
theorem Mu(b:GLe G G'){e}{nu}{xs}{S}(a:Froz G' w S)(h:aq w (WD G w e) e.size nu xs S):n8 G' (Enc G' e.ro) (dX e xs) nu.hdr:=
 XS (λx c q d f=>vt b e x c q d f) a h
theorem Ye{b}{vs}{T}(h:w.heap[b]?=some (Obj.cells vs T (0,0))){o}{cs}(a:∀j v,cs[j]?=some v->vs.toList[o+j]?=some v):Mem w b o cs:=λj v c=>by
 grind [cell_of_row]
theorem Mem.left{b o}{c1 c2}(h:Mem w b o (c1++c2)):Mem w b o c1:=λj v a=>h j v (by grind)
theorem Mem.right{b o n}{c1 c2}(h:Mem w b o (c1++c2))(c:c1.length=n):Mem w b (o+n) c2:=λj v a=>by
 have:=h (n+j) v (by grind)
 grind
theorem Mem.app{b o n}{c1 c2}(c:Mem w b o c1)(d:Mem w b (o+n) c2)(e:c1.length=n):Mem w b o (c1++c2):=λj v a=>by
 rw[fh]at a;split at a
 .exact c j v a
 .rename_i ab;have:=d (j-c1.length) v a
  grind
theorem Wto{e}{nu}{xs}{S}{b i}(h:aq w (WD G w e) e.size nu xs S)(m:nu.blk=some b)(hi:i<xs.length):
  ∃c p,WD G w e (xs.getD i e.dflt) c p/\Mem w b (nu.off+i*e.size) c:=by
 obtain⟨y,z,a⟩:=h;simp only[m]at a;obtain⟨A,B,C,t,H,l,d,D,s⟩:=a;obtain⟨o,c,r,E,p,F,g,u,j,k,v⟩:=NW l e.dflt hi;refine⟨c,p,k,?_⟩;rw[g]at d;have f:=ia (λx c q n=>WI e x c q n) _ _ _ j;rw[ca,mg (by omega)]at f;exact(d.right f).left
theorem zL{e}(i:e.data=true){nu}{xs}{S}{b}(h:aq w (WD G w e) e.size nu xs S)(g:nu.blk=some b):
  xs.length=nu.len/\xs.length<=nu.cap/\nu.cap<=maxLen/\Row w b (nu.off+nu.cap*e.size)/\∃a,bO (Enc G e) xs a/\Mem w b nu.off a/\CS.le (rng b nu.off (nu.cap*e.size)) S:=by
 obtain⟨c,d,f⟩:=h
 grind [ri,Xl]
theorem Ub{e}(k:e.data=true){nu}{xs}{S}{b}{cs}(j:nu.blk=some b)(a:xs.length=nu.len)(c:nu.esz=e.size)(d:xs.length<=nu.cap)(f:nu.cap<=maxLen)
  (g:Row w b (nu.off+nu.cap*e.size)) (h:bO (Enc G e) xs cs) (i:Mem w b nu.off cs) (l:CS.le (rng b nu.off (nu.cap*e.size)) S):aq w (WD G w e) e.size nu xs S:=by
 refine⟨a,c,?_⟩;simp only[j];exact⟨d,f,g,cs,[],(ri k xs cs []).2 ⟨h,rfl⟩,i,Xw.2 ⟨by simp,List.Pairwise.nil⟩,λs m=>by simp_all⟩
theorem rx{e}{nu}{xs}{S}(h:aq w (WD G w e) e.size nu xs S)(d:nu.blk=none):xs= []:=by
 obtain⟨a,b,c⟩:=h;simp_all
end
set_option linter.unusedSimpArgs false
def cE:Ty->List Value
 | .prod a b=>cE a++cE b
 | .int k=>[.int k 0]
 | .bool=>[.bool false]
 | .str=>[.string ⟨#[]⟩]
 | .slice _=>[.slice none 0 0]
 | .own _=>[.pointer none]
def rep{α:Type}(l:List α):Nat->List α
 |0=>[]
 |n+1=>l++rep l n
def TE.cells(a:TE):List Value:=match a.shape with
 | .arr n _=>rep (cE a.ty) n
 |_=>cE a.ty
def TE.size(a:TE):Nat:=match a.shape with
 | .arr n _=>n*a.ty.size
 |_=>a.ty.size
structure TEok(P:Program)(T:Tab)(t:TypeId)(te:TE):Prop where
 und:match te.shape with
  | .basic=>te.agg=false/\(match te.ty with
   | .int k=>P.underlying t=some (.int k)
   | .bool=>P.underlying t=some .bool
   | .str=>P.underlying t=some .string
   |_=>False)
  | .slice e=>te.agg=false/\P.underlying t=some (.slice e)/\∃fJ,Wt T e=some fJ/\te.ty= .slice fJ.ty
  | .struct fs=>te.agg=true/\∃fields:Array Field,P.underlying t=some (.struct fields)/\fields.toList.map (λf=>(f.offset,f.type))=fs/\
    (∀f∈fields,f.name≠ "_")∧P.stoodInHeld t=false∧P.eqGuardType P.depth t=false
  | .ptr e=>te.agg=false/\P.underlying t=some (.pointer e)
  | .arr n e=>te.agg=true/\P.underlying t=some (.array n e)/\∃fJ,Wt T e=some fJ/\fJ.ty=te.ty/\∀m f,fJ.shape≠ .arr m f
 info:∃i z,P.info? t=some i/\i.size=te.size/\i.zero=some z/\z.cells.toList=te.cells/\i.bytes<=4096
def au(P:Program)(T:Tab):Prop:=∀t a,Wt T t=some a->TEok P T t a
theorem mE:∀t:Ty,0<t.size
 | .prod a b=>by have:=mE a;simp[Ty.size];omega
 | .int _| .bool| .str| .slice _| .own _=>by simp[Ty.size]
section
variable{P:Program}{T:Tab}{w:World}
theorem Wm{t}{d}(h:P.underlying t=some d):(underlying t).run P w= .ok d w:=by
 simp[underlying,h]
theorem SK{t}{i}(h:P.info? t=some i):(typeInfo t).run P w= .ok i w:=by
 simp[typeInfo,h]
theorem Wrx{t}{i}(h:P.info? t=some i):(sizeOf t).run P w= .ok i.size w:=by
 simp[sizeOf,SK h]
theorem TEok.sizeOf{t}{te}(h:TEok P T t te):(sizeOf t).run P w= .ok te.size w:=by
 obtain⟨i,z,a,b,_⟩:=h.info;rw[Wrx a,b]
theorem TEok.isAgg{t}{te}(h:TEok P T t te):(isAgg t).run P w= .ok te.agg w:=by
 have a:=h.und;obtain⟨d,b,shape⟩:=te;cases shape with
 |basic=>
  obtain⟨c,a⟩:=a;cases d<;>simp only at a<;>first|exact a.elim|simp_all [Go.isAgg,Wm]
 |slice e=>simp_all [Go.isAgg,Wm]
 |struct fs=>obtain⟨c,f,a,_⟩:=a;simp_all [Go.isAgg,Wm]
 |ptr e=>simp_all [Go.isAgg,Wm]
 |arr n e=>simp_all [Go.isAgg,Wm]
end
theorem hZ(b o j):(⟨b,o,none⟩:Addr).add j=⟨b,o+j,none⟩:=by
 simp[Addr.add]
section
variable{P:Program}{T:Tab}{w:World}{G:GH}{ν:Nat->Nu}{objs:af}{nx:Nat}
theorem W4{a:TE}(h:a.plain=true):a.size=a.ty.size:=by
 unfold TE.plain at h;unfold TE.size;split at h<;>simp_all
theorem Mk{t}{te}(e:TEok P T t te)(k:te.plain=true){b o off}{cs}{us}{x}
  (d:CellsRel G ν nx cs us) (n:∀(j) (v),us[j]?=some v->w.cell? ⟨b,o+j,none⟩=some v)
  (a:sub te.agg cs off te.ty.size=some x):
  ∃v,(loadVar t ⟨b,o+off,none⟩).run P w= .ok v w/\AValRel G ν nx x v:=by
 have i:te.size=te.ty.size:=W4 k;unfold sub at a;simp only[loadVar,Sem.run_bind,e.isAgg,Result.andThen_ok];cases ha:te.agg with
 |true=>
  simp only[ha,W1]at a⊢;split at a
  .rename_i bk;injection a with a;subst a;have h:((us.drop off).take te.ty.size).length=te.ty.size:=by simp[d.1];omega
   have f:=run_loadCells_list (P:=P) w ⟨b,o+off,none⟩ ((us.drop off).take te.ty.size) (λj v m=>by
    grind [hZ,dN])
   rw[h]at f;refine⟨.agg ((us.drop off).take te.ty.size).toArray,?_,_,rfl,(d.drop off).take _⟩;simp[e.sizeOf,i,f]
  grind
 |false=>
  simp only[ha]at a⊢;cases ck:cs[off]? with
  |none=>simp_all
  |some c=>
   simp[ck]at a;subst a;have g:off<us.length:=by rw[d.1];grind
   have l:us[off]?=some us[off]:=Xr g;refine⟨us[off],?_,d.2 off c _ ck l⟩;simp_all
end
section
variable{w0:World}{F:CS}{nt:Slots}{G0 G:GH}{ν:Nat->Nu}{st:St}{a:Act}{w:World}{P:Program}{T:Tab}
theorem WuF{G}:∀(t) (d) (v),Enc G t d [v]->v.oneCell'=true
 | .int _,_,_,h=>by grind [Enc,Value.oneCell']
 | .bool,_,_,h=>by grind [Enc,Value.oneCell']
 | .str,_,_,h=>by grind [Enc,Value.oneCell']
 | .slice _,_,_,h=>by
  obtain⟨v,c,e⟩:=h;simp at c;subst c;rcases e with⟨rfl,_⟩|⟨_,_,_,_,rfl,_⟩|⟨_,_,rfl,_⟩<;>rfl
 | .own _,_,_,h=>h.elim
 | .prod a b,d,v,h=>by
  have:=c3 _ _ _ h
  grind [mE,Ty.size]
theorem WQ{t}{d}{v}(h:Enc G t d [v]):AValRel G ν st.nx (one t d) v:=
 ⟨h,WuF t d v h⟩
theorem Sl:∀(v) (c),gJ v=some c->CellRel G ν st.nx c v/\v.oneCell'=true
 | .int k n,c,h=>by simp[gJ]at h;subst h;exact⟨rfl,rfl⟩
 | .bool b,c,h=>by simp[gJ]at h;subst h;exact⟨rfl,rfl⟩
 | .string s,c,h=>by simp[gJ]at h;subst h;exact⟨by simp[CellRel,Enc],rfl⟩
 | .slice none 0 0,c,h=>by simp[gJ]at h;subst h;exact⟨rfl,rfl⟩
 | .slice none 0 (n+1),c,h=>by simp[gJ]at h
 | .slice none (n+1) _,c,h=>by simp[gJ]at h
 | .slice (some _) _ _,c,h=>by simp[gJ]at h
 | .pointer none,c,h=>by simp[gJ]at h;subst h;exact⟨trivial,rfl⟩
 | .nilFunc,c,h=>by simp[gJ]at h;subst h;exact⟨trivial,rfl⟩
 | .float _ _,_,h| .complex _ _ _,_,h| .pointer (some _),_,h| .map _,_,h| .chan _,_,h| .func _ _ _,_,h| .iface _ _,_,h| .nilIface,_,h| .agg _,_,h| .tuple _,_,h=>by simp[gJ]at h
theorem V2:∀(vs) (cs),vs.mapM gJ=some cs->CellsRel G ν st.nx cs vs
 | [],cs,h=>by grind [CellsRel.nil]
 |v::vs,cs,h=>by
  simp only[EX,Option.bind_eq_bind,Option.bind_eq_some_iff]at h;obtain⟨c,f,b,g,a⟩:=h;simp at a;subst a;obtain⟨d,e⟩:=Sl (G:=G) (ν:=ν) (st:=st) v c f;exact(CellsRel.one d e).append (V2 vs b g)
theorem WO(h:Rel w0 F nt G0 G ν st a w):∀(x) (b),ev st x=some b->AValRel G ν st.nx b (a.eval x)
 | .tmp t,b,he=>by
  obtain⟨v,m,k⟩:=h.env t b he;simpa [Act.eval,m]using k
 | .const v,b,he=>by
  simp only[ev,V8]at he;split at he
  .rename_i cs;cases hm:cs.toList.mapM gJ with
   |none=>simp[hm]at he
   |some l=>
    simp[hm]at he;subst he;exact⟨cs.toList,by simp[Act.eval],V2 _ _ hm⟩
  .cases hm:gJ v with
   |none=>simp[hm]at he
   |some c=>
    simp[hm]at he;subst he;obtain⟨d,e⟩:=Sl (G:=G) (ν:=ν) (st:=st) v c hm;exact⟨d,e⟩
 | .func f,b,he=>by
  simp[ev]at he;subst he;exact⟨⟨[],rfl,rfl,λj n u i=>by simp at i⟩,rfl⟩
 | .global g,b,he=>by simp[ev]at he
theorem vx(av)(v)(n)(h:AValRel G ν st.nx av v)(a:asI av=some n):∃k,v= .int k n:=by
 unfold asI at a;split at a
 .rename_i k m;injection a with a;subst a;obtain⟨b,_⟩:=h;simp[CellRel,Enc]at b;exact⟨k,b⟩
 .simp at a
theorem NU(av)(v)(b)(h:AValRel G ν st.nx av v)(a:asB av=some b):v= .bool b:=by
 unfold asB at a;split at a
 .injection a with a;subst a;obtain⟨c,_⟩:=h;simpa [CellRel,Enc]using c
 .simp at a
def Gives(P:Program)(G:GH)(ν:Nat->Nu)(st:St)(w:World)(s:Sem Value)(r:AVal):Prop:=∃v,s.run P w= .ok v w/\AValRel G ν st.nx r v
theorem Gives.one{s}{t}{d}{v}(a:s.run P w= .ok v w)(h:Enc G t d [v]):Gives P G ν st w s (Sx.one t d):=⟨v,a,WQ h⟩
theorem Wq2{op}{k}{x y}{r}(t)(b:op≠ .shl)(a:op≠ .shr)(h:OR op k x y=some (true,r)):
  Gives P G ν st w (Go.binOp op t (.int k x) (.int k y)) r:=by
 cases op<;>simp[OR,inz]at h<;>first
  |exact Wy rfl b
  |exact Wy rfl a
  |(subst h;exact⟨_,by simp only[Go.binOp,ne_eq,not_true_eq_false,dO,↓reduceIte,Op.intArith,Op.intBits,Op.intCmp]<;>rfl,WQ rfl⟩)
  |(obtain⟨c,rfl⟩:=h;exact⟨_,by simp[Go.binOp,Op.intDiv,c,ey,ak]<;>rfl,WQ rfl⟩)
theorem SX{op}{k yk}{x y}{r}(t)(h:(op= .shl/\(true,r)=(inn y,Sx.one (.int k) (OO k x y)))\/(op= .shr/\(true,r)=(inn y,Sx.one (.int k) (nf k x y)))):
  Gives P G ν st w (Go.binOp op t (.int k x) (.int yk y)) r:=by
 rcases h with⟨rfl,h⟩|⟨rfl,h⟩<;>simp[inn]at h<;>obtain⟨a,rfl⟩:=h
 .exact⟨_,by simp[Go.binOp,Op.shift,Int.not_lt.2 a,OO]<;>rfl,WQ rfl⟩
 .exact⟨_,by simp[Go.binOp,Op.shift,Int.not_lt.2 a,nf]<;>rfl,WQ rfl⟩
theorem Wr2{op}{x y}{r}(t)(h:OH op x y=some (true,r)):
  Gives P G ν st w (Go.binOp op t (.string ⟨x.toArray⟩) (.string ⟨y.toArray⟩)) r:=by
 cases op<;>simp[OH]at h
 .obtain⟨b,rfl⟩:=h;simp[W5]at b;refine⟨.string ⟨(x++y).toArray⟩,?_,WQ rfl⟩;have e:(ByteArray.mk x.toArray++ByteArray.mk y.toArray)=⟨(x++y).toArray⟩:=by
   apply ByteArray.ext;simp
  have a:¬((((ByteArray.mk x.toArray).size+(ByteArray.mk y.toArray).size:Nat):Int)>IntKind.i64.max):=by
   have c:IntKind.i64.max=9223372036854775807:=by decide
   simp only[ByteArray.size,List.size_toArray,c];omega
  simp only[Go.binOp,Op.stringOp,We a,e];rfl
 .subst h;exact⟨_,by simp[Go.binOp,Op.stringOp]<;>rfl,WQ rfl⟩
 .subst h;exact⟨_,by simp[Go.binOp,Op.stringOp]<;>rfl,WQ rfl⟩
theorem WyD(x y):((ByteArray.mk x.toArray).toList==(ByteArray.mk y.toArray).toList)=seq x y:=by simp[seq]
theorem Wlp{te}{c d}{b}{u v}{t}(g:TEok P T t te)(a:CellRel G ν st.nx c u)(e:CellRel G ν st.nx d v)
  (h:Hg te c d=some b) (n):(Op.equalIn (n+1) t u v).run P w= .ok b w/\te.agg=false:=by
 have f:=g.und;unfold Hg at h;split at h
 .split at h
  .rename_i hk;subst hk;injection h with h;subst h;simp only[CellRel,Enc,List.cons.injEq,and_true]at a e;subst a e;exact⟨run_equalIn_int w n t _ _ _ _ f.2,rfl⟩
  .simp at h
 .injection h with h;subst h;simp only[CellRel,Enc,List.cons.injEq,and_true]at a e;subst a e;exact⟨run_equalIn_bool' w n t _ _ f.2,rfl⟩
 .injection h with h;subst h;simp only[CellRel,Enc,List.cons.injEq,and_true]at a e;subst a e;exact⟨(run_equalIn_string w n t _ _ f.2).trans (Ws (Result.ok · w) (WyD _ _)),rfl⟩
 .simp at h
theorem VZ{t}{te}(a:TEok P T t te)(b:te.agg=false)(cs)(off)(v)(h:cs[off]?=some v):(part t cs off).run P w= .ok v w:=by
 simp only[part,Sem.run_bind,a.isAgg,Result.andThen_ok,b];simp[h]
theorem R7(g:au P T)(n)(xs i:Array Value):∀(a:List Field) (k) (cs e:List Cell) (b),
  (∀f∈a,f.name≠ "_")→a.map (·.offset)=List.range' k a.length→
  (∀(j) (c),cs[j]?=some c->∃v,xs[k+j]?=some v/\CellRel G ν st.nx c v)->
  (∀(j) (c),e[j]?=some c->∃v,i[k+j]?=some v/\CellRel G ν st.nx c v)->
  mM T (a.map (·.type)) cs e=some b->(Op.eqFields (n+1) xs i a).run P w= .ok b w
 | [],k,[],[],b,_,_,_,_,h=>by simp[mM]at h;subst h;rfl
 |f::fs,k,c::cs,d::e,b,r,m,x,y,h=>by
  simp only[bn,mM]at h;cases hl:Wt T f.type with
  |none=>simp[hl]at h
  |some te=>
   simp only[hl]at h;cases h1:Hg te c d with
   |none=>simp[h1]at h
   |some p=>
    cases h2:mM T (fs.map (·.type)) cs e with
    |none=>simp[h1,h2]at h
    |some q=>
     simp[h1,h2]at h;subst h;obtain⟨u,s,z⟩:=x 0 c rfl;obtain⟨v,t,A⟩:=y 0 d rfl;obtain⟨B,o⟩:=Wlp (w:=w) (g _ _ hl) z A h1 n;simp only[bn,Xs,List.range'_succ,List.cons.injEq]at m;have D:=R7 g n xs i fs (k+1) cs e q (λf C=>r f (Xg _ C)) m.2
      (λj c l=>by have:=x (j+1) c (by simpa using l);rwa [dN,qo 1 j])
      (λj c l=>by have:=y (j+1) c (by simpa using l);rwa [dN,qo 1 j]) h2
     simp only[Op.eqFields,Wf (r f (Xl ..)),Sem.run_bind,m.1];rw[c9]at s t;rw[VZ (g _ _ hl) o xs k u s,Result.andThen_ok,VZ (g _ _ hl) o i k v t,Result.andThen_ok,B,Result.andThen_ok];cases p
     .simp
     .simpa using D
 | [],_,_::_,_,_,_,_,_,_,h=>by simp[mM]at h
 | [],_,[],_::_,_,_,_,_,_,h=>by simp[mM]at h
 |_::_,_,[],_,_,_,_,_,_,h=>by simp[mM]at h
 |_::_,_,_::_,[],_,_,_,_,_,h=>by simp[mM]at h
theorem CY{op}{t}{x y}{u v}(c:∀a,u≠ .agg a)(b:u≠ .nilIface):(eqGuard op t x y u v).run P w= .ok () w:=by
 unfold eqGuard;cases op<;>simp<;>cases u<;>cases v<;>first|rfl|exact Wy rfl b|exact Wy rfl (c _)
theorem Wpf(A:au P T){op}{t}{x y}{u v}{r}(ox oy)(a:AValRel G ν st.nx x u)(d:AValRel G ν st.nx y v)
  (h:Sx.binOp T op t x y=some (true,r)):Gives P G ν st w (do eqGuard op t ox oy u v;Go.binOp op t u v) r:=by
 unfold Sx.binOp at h;split at h
 .rename_i k m k' m';obtain⟨a,_⟩:=a;obtain⟨d,_⟩:=d;simp only[CellRel,Enc,List.cons.injEq,and_true]at a d;subst a d;have K:(eqGuard op t ox oy (.int k m) (.int k' m')).run P w= .ok () w:=CY (by simp) (by simp)
  suffices hh:Gives P G ν st w (Go.binOp op t (.int k m) (.int k' m')) r by
   obtain⟨z,q,s⟩:=hh;exact⟨z,by simp[K,q],s⟩
  split at h
  .injection h with h;exact SX t (.inl ⟨rfl,h.symm⟩)
  .injection h with h;exact SX t (.inr ⟨rfl,h.symm⟩)
  .split at h
   .rename_i hk;subst hk;exact Wq2 t (by assumption) (by assumption) h
   .simp at h
 .rename_i m m';obtain⟨a,_⟩:=a;obtain⟨d,_⟩:=d;simp only[CellRel,Enc,List.cons.injEq,and_true]at a d;subst a d;obtain⟨z,q,s⟩:=Wr2 (w:=w) (P:=P) (G:=G) (ν:=ν) (st:=st) t h;exact⟨z,by simp[CY,q],s⟩
 .rename_i m m';obtain⟨a,_⟩:=a;obtain⟨d,_⟩:=d;simp only[CellRel,Enc,List.cons.injEq,and_true]at a d;subst a d;split at h
  .rename_i hl;have l:=(A _ _ hl).und;simp only[true_and]at l;have e:(Op.equalIn 10000 t (.bool m) (.bool m')).run P w= .ok (beq m m') w:=run_equalIn_bool' w 9999 t m m' l;split at h<;>simp at h
   .subst h;exact⟨.bool (beq m m'),by simp[CY,Go.binOp,Op.equal,Op.maxDepth,e],WQ rfl⟩
   .subst h;exact⟨.bool (!beq m m'),by simp[CY,Go.binOp,Op.equal,Op.maxDepth,e],WQ rfl⟩
  .simp at h
 .rename_i cs ds;obtain⟨o,rfl,C⟩:=a;obtain⟨p,rfl,E⟩:=d;split at h
  .rename_i fs hl;obtain⟨_,fields,l,D,H,I,B⟩:=(A _ _ hl).und;split at h
   .rename_i n;have n:=WV n;have F:P.fieldsOf t=fields:=by simp[Program.fieldsOf,l]
    have e:∀b,mM T (fs.map (·.2)) cs ds=some b->(Op.equalIn 10000 t (.agg o.toArray) (.agg p.toArray)).run P w= .ok b w:=λb g=>by
     rw[run_equalIn_struct w 9999 t _ _ (by rw[F];exact l) I,F];refine R7 (G:=G) (ν:=ν) (st:=st) A 9998 o.toArray p.toArray fields.toList 0 cs ds b (λf J=>H f (by simpa using J)) ?_ ?_ ?_ ?_
     .rw[←D]at n;simpa [List.range_eq_range',Function.comp_def]using n
     .intro j c hj;have i:j<o.length:=by rw[C.1];exact(dJ.1 hj).1
      exact⟨o[j],by simp[i],(C.2 j c _ hj (Xr i)).1⟩
     .intro j c hj;have i:j<p.length:=by rw[E.1];exact(dJ.1 hj).1
      exact⟨p[j],by simp[i],(E.2 j c _ hj (Xr i)).1⟩
     .rw[←D]at g;simpa [Function.comp_def]using g
    split at h
    .rename_i b g;simp at h;subst h;exact⟨.bool b,by simp[run_eqGuard_agg w _ t ox oy _ _ B,run_eql_struct,e b g],WQ rfl⟩
    .rename_i b g;simp at h;subst h;exact⟨.bool (!b),by simp[run_eqGuard_agg w _ t ox oy _ _ B,run_neq_struct,e b g],WQ rfl⟩
    .simp at h
   .simp at h
  .simp at h
 .simp at h
end
section
variable{w0:World}{F:CS}{nt:Slots}{G0 G:GH}{ν:Nat->Nu}{st:St}{a:Act}{w:World}{P:Program}{T:Tab}
theorem HRel.g{objs}{nx}(h:HRel w0 F G ν objs nx w){b o}{v}(a:G b o=some v):w.cell? ⟨b,o,none⟩=some v:=by
 obtain⟨φ,h⟩:=h;exact h.g b o v a
theorem HRel.obj{objs}{nx}(h:HRel w0 F G ν objs nx w){id}{ob}(a:Wt objs id=some ob):∃S,dQ G ν nx w id S ob:=by
 obtain⟨φ,h⟩:=h;exact⟨φ id,h.ob id ob a⟩
theorem z8{k}{n:Int}{v}(h:AValRel G ν st.nx (.s (.one (.val (.int k) n))) v):v= .int k n:=by
 obtain⟨h,_⟩:=h
 grind [CellRel,Enc]
theorem M1{n:Bool}{v}(h:AValRel G ν st.nx (.s (.one (.val .bool n))) v):v= .bool n:=by
 obtain⟨h,_⟩:=h
 grind [CellRel,Enc]
theorem Hp{s:List UInt8}{v}(h:AValRel G ν st.nx (.s (.one (.val .str s))) v):v= .string ⟨s.toArray⟩:=by
 obtain⟨h,_⟩:=h
 grind [CellRel,Enc]
theorem WrJ{op}{x}{u}{r}(a:AValRel G ν st.nx x u)(h:Sx.unOp op x=some (true,r)):Gives P G ν st w (Op.unary op u) r:=by
 unfold Sx.unOp at h;split at h
 .have:=M1 a;subst this;simp at h;subst h;exact⟨_,rfl,WQ rfl⟩
 .have:=z8 a;subst this;simp at h;subst h;exact⟨_,rfl,WQ rfl⟩
 grind
theorem WwY{id}{e}{xs}{nx}{S}(h:dQ G ν nx w id S (.arr e xs)):∃a c,(ν id).hdr= .slice a xs.length c:=by
 obtain⟨f,_,d⟩:=h;unfold Nu.hdr;cases hb:(ν id).blk with
 |none=>simp_all
 |some b=>simp_all
theorem WvG{id}{e}{xs}{i p nx}{S}(h:dQ G ν nx w id S (.hole e xs i p)):∃a c,(ν id).hdr= .slice a xs.length c:=by
 obtain⟨_,d,_,_,b,f,_⟩:=h;unfold Nu.hdr;simp_all
theorem WxM{t ty}(b:P.underlying t=some .string)(s):(Builtin.len_ #[t] ty #[.string ⟨s.toArray⟩]).run P w= .ok (.int .i64 (Wi s)) w:=by
 have a:(Builtin.len_ #[t] ty #[.string ⟨s.toArray⟩]).run P w= .ok (goInt (ByteArray.mk s.toArray).size) w:=by
  simp_all [Builtin.len_,Wm]
 rw[a];rfl
theorem WpD(g:au P T)(q:HRel w0 F G ν st.objs st.nx w){t ty}{x}{u}{r}(j:AValRel G ν st.nx x u)(h:n7 T st t x=some (true,r)):
  Gives P G ν st w (Builtin.len_ #[t] ty #[u]) r:=by
 unfold n7 at h;split at h
 .rename_i te e l _ hl;simp at h;subst h;have d:=(g _ _ hl).und.2.1;obtain⟨⟨v,f,A⟩,_⟩:=j;simp at f;subst f;rcases A with⟨rfl,n⟩|⟨b,B,m,C,rfl,_⟩|⟨a,m,rfl,n⟩
  rotate_left 2
  .exact⟨_,by simp[Builtin.len_,Wm d]<;>rfl,WQ (by rw[n];rfl)⟩
  .exact⟨_,by simp[Builtin.len_,Wm d]<;>rfl,WQ (by rw[n];rfl)⟩
  .exact⟨_,by simp[Builtin.len_,Wm d]<;>rfl,WQ rfl⟩
 .rename_i te e _ hl;simp at h;subst h;have d:=(g _ _ hl).und.2.1;obtain⟨f,_⟩:=j;simp only[CellRel]at f;subst f;exact⟨_,by simp[Builtin.len_,Wm d]<;>rfl,WQ rfl⟩
 .rename_i te e id hl;have d:=(g _ _ hl).und.2.1;obtain⟨⟨_,f⟩,_⟩:=j;subst f;unfold obL at h;split at h
  .rename_i e' xs ho;simp at h;subst h;obtain⟨S,k⟩:=q.obj ho;obtain⟨a,c,o⟩:=WwY k;rw[o];exact⟨.int .i64 (Wi xs),by simp[Builtin.len_,Wm d]<;>rfl,WQ rfl⟩
  .rename_i e' xs i p ho;simp at h;subst h;obtain⟨S,k⟩:=q.obj ho;obtain⟨a,c,o⟩:=WvG k;rw[o];exact⟨.int .i64 (Wi xs),by simp[Builtin.len_,Wm d]<;>rfl,WQ rfl⟩
  grind
 .rename_i te e id lo hi hl;simp only[Option.some.injEq,Prod.mk.injEq,true_and]at h;subst h;have d:=(g _ _ hl).und.2.1;obtain⟨⟨_,E,H,z,f⟩,_⟩:=j;subst f;unfold Nu.vhdr;cases hb:(ν id).blk with
  |none=>
   have D:=z hb;have y:hi-lo=0:=by omega
   rw[y];exact⟨_,by simp[Builtin.len_,Wm d]<;>rfl,WQ rfl⟩
  |some b=>exact⟨.int .i64 ((hi-lo:Nat):Int),by simp[Builtin.len_,Wm d]<;>rfl,WQ rfl⟩
 .rename_i s hl;simp at h;subst h;have d:=(g _ _ hl).und.2;have:=Hp j;subst this;exact⟨.int .i64 (Wi (α:=UInt8) s),WxM d s,WQ rfl⟩
 grind
theorem Ga(e:au P T){t}{f off}{te}(h:DJ T t f=some (off,te)):
  ∃(a:Array Field) (b:Field),P.underlying t=some (.struct a)/\a[f]?=some b/\b.offset=off/\TEok P T b.type te/\te.plain=true:=by
 unfold DJ at h;split at h
 .rename_i fs hl;obtain⟨_,a,k,i,_⟩:=(e _ _ hl).und;split at h
  .rename_i o ft hf;split at h
   .rename_i fJ fA;split at h
    .rename_i j;injection h with h;injection h with c d;subst c d;rw[←i]at hf;simp only[d5,Array.getElem?_toList]at hf;cases g:a[f]? with
     |none=>simp_all
     |some b=>
      simp[g]at hf;obtain⟨c,d⟩:=hf;subst c d;exact⟨a,b,k,g,rfl,e _ _ fA,j⟩
    grind
   grind
  grind
 grind
theorem L8{t}{f off}{te}{b o}{fields}{fd}(g:P.underlying t=some (.struct fields))(d:fields[f]?=some fd)(e:fd.offset=off)
  (c:TEok P T fd.type te) (h:te.plain=true):(Instr.fieldAt t (.pointer (some ⟨b,o,none⟩)) f).run P w= .ok (.pointer (some ⟨b,o+off,none⟩)) w:=by
 have a:te.size≠0:=by grind [W4,mE]
 simp[Instr.fieldAt,Wm g,d,Instr.sureAddr,fieldPlace,c.sizeOf,a,hZ,e]
theorem Whq(n:au P T)(z:HRel w0 F G ν st.objs st.nx w){t}{f}{x}{u}{r}(q:AValRel G ν st.nx x u)(h:zD T st t x f=some (true,r)):
  Gives P G ν st w (Instr.fieldAt t u f) r:=by
 unfold zD at h;split at h
 .rename_i off te id o hf;obtain⟨a,s,k,l,g,c,j⟩:=Ga n hf;split at h
  .simp at h;subst h;obtain⟨⟨e,b,p,rfl⟩,_⟩:=q;exact⟨_,L8 k l g c j,⟨e,b,p,by rw[dN]⟩,rfl⟩
  grind
 .rename_i off te id i o hf;obtain⟨a,s,k,l,g,c,j⟩:=Ga n hf;split at h
  .simp at h;subst h;obtain⟨⟨e,m,b,p,rfl⟩,_⟩:=q;exact⟨_,L8 k l g c j,⟨e,m,b,p,by rw[dN,dN]⟩,rfl⟩
  grind
 .rename_i off te t' d o hf;obtain⟨a,s,k,l,g,c,j⟩:=Ga n hf;simp at h;subst h;obtain⟨⟨b,y,v,rfl,e,m⟩,_⟩:=q;exact⟨_,L8 k l g c j,⟨b,y,v,by rw[dN],e,m⟩,rfl⟩
 grind
theorem Wmd(j:au P T){t}{f}{x}{u}{r}(n:AValRel G ν st.nx x u)(h:ND T t x f=some (true,r)):
  Gives P G ν st w (Instr.field t u f) r:=by
 unfold ND at h;split at h
 .rename_i off te cs hf;obtain⟨b,p,m,o,k,g,l⟩:=Ga j hf;obtain⟨e,rfl,d⟩:=n;cases a:sub te.agg cs off te.ty.size with
  |none=>simp_all
  |some y=>
   simp[a]at h;subst h;unfold sub at a;simp only[Gives,Instr.field,Sem.run_bind,Wm m,Result.andThen_ok,o,asAgg,Sem.run_pure,part,g.isAgg];cases ha:te.agg with
   |true=>
    simp only[ha,W1]at a⊢;split at a
    .rename_i bk;injection a with a;subst a;refine⟨.agg ((e.drop off).take te.ty.size).toArray,?_,_,rfl,(d.drop off).take _⟩;simp[g.sizeOf,W4 l,k]
    grind
   |false=>
    simp only[ha]at a⊢;cases hc:cs[off]? with
    |none=>simp_all
    |some c=>
     simp[hc]at a;subst a;have i:off<e.length:=by rw[d.1];grind
     refine⟨e[off],?_,d.2 off c _ hc (Xr i)⟩;simp_all
 grind
end
section
variable{w0:World}{F:CS}{nt:Slots}{G0 G:GH}{ν:Nat->Nu}{st:St}{a:Act}{w:World}{P:Program}{T:Tab}
theorem UK{α}{R}{n}(h:∀x c,R x c->c.length=n)(l)(cs)(i)(d:α)(a:bO R l cs)(hi:i<l.length):
  R (l.getD i d) ((cs.drop (i*n)).take n):=MR h l cs i _ a (by simp_all)
theorem pz{i}{n}(h:inb i n=true):0<=i/\i<n:=by simpa [inb]using h
theorem F8{t et}{te}{k}{n:Int}{b off a cap:Nat}(g:P.underlying t=some (.slice et))(c:TEok P T et te)(f:te.plain=true)(d:0<=n)(e:n<a):
  (Instr.indexAt t (.slice (some ⟨b,off,none⟩) a cap) (.int k n)).run P w= .ok (.pointer (some ⟨b,off+n.toNat*te.ty.size,none⟩)) w:=by
 simp[Instr.indexAt,asIntOf,Wm g,d,e,c.sizeOf,W4 f,hZ]
theorem WtG(H:au P T)(l:HRel w0 F G ν st.objs st.nx w){t et}{te}{k}{n}{id}{u}{r}(o:P.underlying t=some (.slice et))(g:TEok P T et te)(m:te.plain=true)
  (B:AValRel G ν st.nx (.s (.one (.own id))) u) (h:obI te n id (Wt st.objs id)=some (true,r)):Gives P G ν st w (Instr.indexAt t u (.int k n)) r:=by
 obtain⟨⟨x,A⟩,_⟩:=B;subst A;unfold obI at h;split at h
 .rename_i e xs aO;split at h
  .rename_i he;simp only[Option.some.injEq,Prod.mk.injEq]at h;obtain⟨d,rfl⟩:=h;obtain⟨c,y⟩:=pz d;obtain⟨S,v,j,z⟩:=l.obj aO;unfold Nu.hdr;cases a:(ν id).blk with
   |none=>grind
   |some b=>
    refine⟨.pointer (some ⟨b,(ν id).off+n.toNat*te.ty.size,none⟩),F8 o g m c (by omega),⟨x,by omega,b,a,?_⟩,rfl⟩;rw[j,he,ik,c9]
  grind
 .rename_i e xs i p aO;split at h
  .rename_i he;simp only[Option.some.injEq,Prod.mk.injEq,Xh]at h;obtain⟨⟨d,f⟩,rfl⟩:=h;obtain⟨c,y⟩:=pz d;have f:=wS f;obtain⟨S,D,v,j,E,b,a,C,q,z⟩:=l.obj aO;unfold Nu.hdr;simp only[a];refine⟨.pointer (some ⟨b,(ν id).off+n.toNat*te.ty.size,none⟩),F8 o g m c (by omega),⟨D,b,C,?_⟩,rfl⟩;rw[q,he,ik,c9,f]
  grind
 grind
theorem Wrs(C:au P T)(m:HRel w0 F G ν st.objs st.nx w){t et}{te}{k}{n}{id lo hi}{u}{r}(q:P.underlying t=some (.slice et))(f:TEok P T et te)(p:te.plain=true)
  (x:AValRel G ν st.nx (.s (.one (.vw id lo hi))) u) (h:Em te n id lo hi (Wt st.objs id)=some (true,r)):Gives P G ν st w (Instr.indexAt t u (.int k n)) r:=by
 obtain⟨⟨d,z,A,B,v⟩,_⟩:=x;subst v;unfold Em at h;split at h
 .rename_i e xs aO;split at h
  .rename_i he;simp only[Option.some.injEq,Prod.mk.injEq]at h;obtain⟨l,rfl⟩:=h;obtain⟨i,j⟩:=pz l;obtain⟨S,y,g,o⟩:=m.obj aO;unfold Nu.vhdr;cases a:(ν id).blk with
   |none=>grind
   |some b=>
    simp only[a]at o;have c:(ν id).cap≠lo:=by omega
    rw[We c];refine⟨.pointer (some ⟨b,(ν id).off+lo*(ν id).esz+n.toNat*te.ty.size,none⟩),F8 q f p i j,⟨d,by omega,b,a,?_⟩,rfl⟩;rw[g,he,ik,c9,kR,dN]
  grind
 grind
theorem WrX(y:au P T)(l:HRel w0 F G ν st.objs st.nx w){t et}{te}{k}{n}{m id}{u}{r}(p:P.underlying t=some (.array m et))(d:TEok P T et te)(o:te.plain=true)
  (v:AValRel G ν st.nx (.s (.one (.aptr id))) u) (h:Ej te n m id (Wt st.objs id)=some (true,r)):Gives P G ν st w (Instr.indexAt t u (.int k n)) r:=by
 obtain⟨⟨c,b,a,q⟩,_⟩:=v;subst q;unfold Ej at h;split at h
 .rename_i e xs aO;split at h
  .rename_i he;simp only[Option.some.injEq,Prod.mk.injEq,Xh,Wh]at h;obtain⟨⟨j,z⟩,rfl⟩:=h;obtain⟨g,i⟩:=pz j;obtain⟨S,x,f,A⟩:=l.obj aO;refine⟨.pointer (some ⟨b,(ν id).off+n.toNat*e.size,none⟩),?_,⟨c,by omega,b,a,by rw[f,c9]⟩,rfl⟩;have:((0:Int)<=n/\n<(m:Int)):=⟨g,i⟩;simp only[Instr.indexAt,asIntOf,Sem.run_bind,Sem.run_pure,Result.andThen_ok,Wm p,Instr.sureAddr,Wf this,d.sizeOf,W4 o,hZ,he]
  grind
 grind
theorem Whi(d:au P T)(p:HRel w0 F G ν st.objs st.nx w){t}{x i}{u v}{r}(g:AValRel G ν st.nx x u)(hi:AValRel G ν st.nx i v)
  (h:zJ T st t x i=some (true,r)):Gives P G ν st w (Instr.indexAt t u v) r:=by
 unfold zJ at h;split at h
 .rename_i ty ag et n hl hn;obtain⟨k,rfl⟩:=vx _ _ _ hi hn;have f:=(d _ _ hl).und.2.1;split at h
  .rename_i te bk;split at h
   .rename_i hp;split at h
    .rename_i e l;split at h
     .rename_i he;simp only[Option.some.injEq,Prod.mk.injEq]at h;obtain⟨H,rfl⟩:=h;obtain⟨B,C⟩:=pz H;obtain⟨⟨z,s,J⟩,_⟩:=g;simp at s;subst s;rcases J with⟨rfl,A⟩|⟨b,q,o,y,rfl,K,L,D,E⟩|⟨a,o,rfl,A⟩
      rotate_left 2
      .grind
      .grind
      .have ab:n.toNat<Xa l:=by omega
       refine⟨_,F8 f (d _ _ bk) hp B C,⟨b,q+n.toNat*e.size,_,?_,UK (λx c I=>c3 e x c I) l y n.toNat e.dflt D ab,?_⟩,rfl⟩
       .grind
       .intro j v hj;rw[mc]at hj;split at hj
        .rw[ma]at hj;rw[dN];exact E _ _ hj
        grind
     grind
    .simp at h
    .exact WtG d p f (d _ _ bk) hp g h
    .exact Wrs d p f (d _ _ bk) hp g h
    grind
   grind
  grind
 .rename_i ty ag m et n hl hn;obtain⟨k,rfl⟩:=vx _ _ _ hi hn;have f:=(d _ _ hl).und.2.1;split at h
  .rename_i te bk;split at h
   .rename_i hp;split at h
    .exact WrX d p f (d _ _ bk) hp g h
    grind
   grind
  grind
 grind
theorem WxK(s:List UInt8)(n)(h:n<s.length):(ByteArray.mk s.toArray)[n]?=some (s.getD n 0):=by
 grind [ByteArray.getElem?_lt',ByteArray.size,ByteArray.getElem_eq_getElem_data]
theorem Tm{k}:∀(cs) (us) (l),eB k cs=some l->CellsRel G ν st.nx cs us->l.length=cs.length/\∀j,j<us.length->us[j]?=some (.int k (Xc l j (0:Int)))
 | [],us,l,h,hc=>by
  simp only[eB]at h;injection h with h;subst h;have:=hc.1;simp_all
 | .val (.int k') d::cs,us,l,h,hc=>by
  simp only[eB]at h;split at h
  .rename_i hk;subst hk;cases hi:eB k' cs with
   |none=>simp_all
   |some l'=>
    rw[hi]at h;simp only[me]at h;injection h with h;subst h;cases us with
    |nil=>have:=hc.1;grind
    |cons u us=>
     have a:=(hc.2 0 _ u rfl rfl).1;have g:u= .int k' d:=by grind [CellRel,Enc]
     obtain⟨b,e⟩:=Tm cs us l' hi ⟨by have:=hc.1;simp_all,λj c v f i=>hc.2 (j+1) c v (by simp_all) (by simp_all)⟩
     grind
  .cases h
 | .val .bool d::cs,us,l,h,_=>by simp[eB]at h
 | .val .str d::cs,us,l,h,_=>by simp[eB]at h
 | .val (.slice _) d::cs,us,l,h,_=>by simp[eB]at h
 | .val (.own _) d::cs,us,l,h,_=>by simp[eB]at h
 | .val (.prod _ _) d::cs,us,l,h,_=>by simp[eB]at h
 | .nils::cs,us,l,h,_=>by simp[eB]at h
 | .own _::cs,us,l,h,_=>by simp[eB]at h
 | .vw _ _ _::cs,us,l,h,_=>by simp[eB]at h
 | .aptr _::cs,us,l,h,_=>by simp[eB]at h
 | .ptr _ _::cs,us,l,h,_=>by simp[eB]at h
 | .eptr _ _ _::cs,us,l,h,_=>by simp[eB]at h
 | .rptr _ _ _::cs,us,l,h,_=>by simp[eB]at h
 | .clos _ _::cs,us,l,h,_=>by simp[eB]at h
 | .junk::cs,us,l,h,_=>by simp[eB]at h
theorem Wl8(c:au P T){t}{x i}{u v}{r}(o:AValRel G ν st.nx x u)(hi:AValRel G ν st.nx i v)
  (h:NE T t x i=some (true,r)):Gives P G ν st w (Instr.index t u v) r:=by
 unfold NE at h;split at h
 .rename_i s n hl hn;obtain⟨k,rfl⟩:=vx _ _ _ hi hn;have:=Hp o;subst this;have e:=(c _ _ hl).und.2;simp only[Option.some.injEq,Prod.mk.injEq]at h;obtain⟨d,rfl⟩:=h;obtain⟨b,j⟩:=pz d;have a:n.toNat<Xa s:=by omega
  refine⟨.int .u8 ((Xc s n.toNat 0).toNat:Int),?_,WQ rfl⟩;simp only[Instr.index,asIntOf,Sem.run_bind,Sem.run_pure,Result.andThen_ok,Wm e,Wf b,WxK s n.toNat a]
 .rename_i k ag m et cs n hl hn;split at h
  .rename_i k' bk;split at h
   .rename_i l tF;split at h
    .rename_i hc;obtain⟨rfl,C⟩:=hc;obtain⟨D,rfl⟩:=vx _ _ _ hi hn;obtain⟨p,rfl,g⟩:=o;simp only[Option.some.injEq,Prod.mk.injEq]at h;obtain⟨d,rfl⟩:=h;obtain⟨b,j⟩:=pz d;obtain⟨B,y⟩:=Tm _ _ _ tF g;have e:=(c _ _ hl).und.2.1;have f:=c _ _ bk;have A:(Go.isAgg et).run P w= .ok false w:=f.isAgg;have q:(Go.sizeOf et).run P w= .ok 1 w:=f.sizeOf;have a:n.toNat<p.length:=by rw[g.1];omega
     have z:p[n.toNat]?=some (.int k' (Xc l n.toNat (0:Int))):=y _ a;refine⟨.int k' (Xc l n.toNat (0:Int)),?_,WQ rfl⟩;simp only[Instr.index,asIntOf,Sem.run_bind,Sem.run_pure,Result.andThen_ok,Wm e,b,j,and_self,W1,q,part,A,Nat.mul_one];simp[z]
    grind
   grind
  grind
 grind
theorem Mq{k}{n:Int}{y:Nat}{c}(a:0<=n)(b:n<=y):(Instr.sliceBound (.int k n) y c).run P w= .ok n.toNat w:=by
 simp[Instr.sliceBound,asIntOf,a,b]
inductive BRel:Option Int->Option Value->Prop where
 |none:BRel .none .none
 |some (k:IntKind) (n:Int):BRel (.some n) (.some (.int k n))
theorem rK(h:Rel w0 F nt G0 G ν st a w)(o)(r)(b:fP st o=some r):BRel r (o.map a.eval):=by
 cases o with
 |none=>simp[fP]at b;subst b;exact .none
 |some x=>
  simp only[fP]at b;cases hv:ev st x with
  |none=>simp_all
  |some av=>
   simp only[hv,Option.bind_some]at b;cases hi:asI av with
   |none=>simp_all
   |some n=>
    simp[hi]at b;subst b;obtain⟨k,c⟩:=vx _ _ _ (WO h x av hv) hi;simp only[me,c];exact .some k n
theorem zB{isSlice}{n cap}{lo hi}{vl vh}(c:BRel lo vl)(b:BRel hi vh)(i:n<=cap)(a:(aD n lo hi).1=true):
  (Instr.sliceBounds isSlice n cap vl vh none).run P w= .ok ((aD n lo hi).2.1,(aD n lo hi).2.2,cap) w/\(aD n lo hi).2.1<=(aD n lo hi).2.2/\(aD n lo hi).2.2<=n:=by
 cases c<;>cases b<;>simp only[aD,Xh,Wh]at a⊢
 .simp[Instr.sliceBounds]
 .grind [Instr.sliceBounds,Sem.run_bind,Sem.run_pure,Result.andThen_ok,Mq]
 .grind [Instr.sliceBounds,Sem.run_bind,Sem.run_pure,Result.andThen_ok,Mq]
 .rename_i k l k' h;obtain⟨⟨⟨d,e⟩,f⟩,g⟩:=a;refine⟨?_,by omega,by omega⟩;simp only[Instr.sliceBounds,Sem.run_bind,Sem.run_pure,Result.andThen_ok]
  grind [Mq,Result.andThen_ok]
theorem HC{α}(l:List α)(lo hi):sr l lo hi=(l.take (aD l.length lo hi).2.2).drop (aD l.length lo hi).2.1:=by
 cases lo<;>cases hi<;>simp[sr,aD]
theorem WxN(s:List UInt8)(l h):(ByteArray.mk s.toArray).extract l h=⟨((s.take h).drop l).toArray⟩:=by
 apply ByteArray.ext;simp[ByteArray.data_extract,List.extract_eq_take_drop,List.drop_take]
theorem Wur{t}{lo hi}{vl vh}(f:P.underlying t=some .string)(s)(d:BRel lo vl)(c:BRel hi vh)(b:(aD s.length lo hi).1=true):
  (Instr.sliceAt t (.string ⟨s.toArray⟩) vl vh none).run P w= .ok (.string ⟨(sr s lo hi).toArray⟩) w:=by
 have a:(ByteArray.mk (List.toArray s)).size=Xa s:=by simp[ByteArray.size]
 obtain⟨e,g,h⟩:=zB (P:=P) (w:=w) (isSlice:=false) (cap:=Xa s) d c (Xj _) b;simp only[Instr.sliceAt,Instr.slice,Sem.run_bind,Wm f,Result.andThen_ok,Option.isSome_none,Bool.false_eq_true,dO,Sem.run_pure,a,e,WxN,HC]
theorem Wvj{t et}{te}{lo hi}{vl vh}{α}{R}{n}(J:∀x c,R x c->c.length=n)(s:P.underlying t=some (.slice et))(h:TEok P T et te)(D:te.plain=true)(C:te.ty.size=n)
  (xs:List α) {v} (E:n8 G R xs v) (r:BRel lo vl) (o:BRel hi vh) (m:(aD xs.length lo hi).1=true):
  ∃v',(Instr.sliceAt t v vl vh none).run P w= .ok v' w/\n8 G R (sr xs lo hi) v':=by
 rcases E with⟨rfl,g⟩|⟨b,d,cap,A,rfl,l,y,F,B⟩|⟨a,cap,rfl,g⟩
 rotate_left 2
 .subst g;obtain⟨e,l,y⟩:=zB (P:=P) (w:=w) (isSlice:=true) (cap:=cap) r o (kP _) m;have i:(aD 0 lo hi).2.2=0:=by omega
  have k:(aD 0 lo hi).2.1=0:=by omega
  rw[i,k]at e;refine⟨.slice (some a) 0 cap,?_,.inr (.inr ⟨a,cap,rfl,?_⟩)⟩
  .simp only[Instr.sliceAt,Instr.slice,Sem.run_bind,Wm s,Result.andThen_ok,e,h.sizeOf,Sem.run_pure,me];simp[Addr.add]
  .rw[HC];simp
 .subst g;obtain⟨e,l,y⟩:=zB (P:=P) (w:=w) (isSlice:=true) (cap:=0) r o (Xj _) m;refine⟨.slice none 0 0,?_,.inl ⟨rfl,?_⟩⟩
  .have i:(aD 0 lo hi).2.2=0:=by omega
   have k:(aD 0 lo hi).2.1=0:=by omega
   rw[i,k]at e;simp[Instr.sliceAt,Instr.slice,Wm s,e,h.sizeOf]
  .rw[HC];simp
 .obtain⟨e,H,I⟩:=zB (P:=P) (w:=w) (isSlice:=true) (cap:=cap) r o l m;have K:=HC xs lo hi;generalize (aD xs.length lo hi).2.1=p at*;generalize (aD xs.length lo hi).2.2=q at*;have z:te.size=n:=by rw[W4 D,C]
  have u:(sr xs lo hi).length=q-p:=by simp_all
  refine⟨.slice (some (if cap=p then⟨b,d,none⟩else⟨b,d+p*n,none⟩)) (q-p) (cap-p),?_,.inr (.inl ?_)⟩
  .simp only[Instr.sliceAt,Instr.slice,Sem.run_bind,Wm s,Result.andThen_ok,e,h.sizeOf,Sem.run_pure,z,me,hZ];split<;>rfl
  .by_cases hc:cap=p
   .have h0:sr xs lo hi= []:=ee (by omega);refine⟨b,d,cap-p,[],?_,by omega,by omega,?_,λj v f=>by simp at f⟩
    .rw[Wf hc];rw[u]
    .rw[h0];rfl
   .refine⟨b,d+p*n,cap-p,(A.take (q*n)).drop (p*n),?_,by omega,by omega,?_,?_⟩
    .rw[We hc,u]
    .grind [Du,Dq]
    .intro j v f;rw[ma,mc]at f;split at f
     .rw[dN];exact B _ _ f
     grind
theorem WlH(a:au P T){t}{x}{u}{vl vh}{lo hi}{r}(g:AValRel G ν st.nx x u)
  (f:∀l,fP st lo=some l->BRel l vl) (d:∀l,fP st hi=some l->BRel l vh)
  (h:Hi T st t x lo hi=some (true,r)):Gives P G ν st w (Instr.sliceAt t u vl vh none) r:=by
 unfold Hi at h;split at h
 .rename_i s l h' wt h1 h2;have:=Hp g;subst this;simp only[Option.some.injEq,Prod.mk.injEq]at h;obtain⟨b,rfl⟩:=h;exact⟨_,Wur (a _ _ wt).und.2 s (f _ h1) (d _ h2) b,WQ rfl⟩
 .rename_i ty ag et e xs l h' wt h1 h2;have v:=(a _ _ wt).und.2.1;split at h
  .rename_i te bk;split at h
   .rename_i BG;obtain⟨o,p⟩:=BG;simp only[Option.some.injEq,Prod.mk.injEq]at h;obtain⟨b,rfl⟩:=h;obtain⟨⟨z,i,q⟩,_⟩:=g;simp at i;subst i;obtain⟨j,k,m⟩:=Wvj (P:=P) (T:=T) (w:=w) (λx c n=>c3 e x c n) v (a _ _ bk) p (by rw[o]) xs q (f _ h1) (d _ h2) b;exact⟨j,k,WQ ⟨j,rfl,m⟩⟩
   grind
  grind
 grind
end
section
variable{w0:World}{F:CS}{nt:Slots}{G0 G:GH}{ν:Nat->Nu}{st:St}{a:Act}{w:World}{P:Program}{T:Tab}
theorem MF{k}:∀(l:List Int) (cs),bO (Enc G (.int k)) l cs->cs=l.map (Value.int k)
 | [],cs,h=>h
 |x::l,cs,⟨c,a,e,d,b⟩=>by
  have:=MF l a b
  grind [Enc]
theorem UC{t e}{dst}(f:P.underlying t=some (.slice e))(d:P.underlying e=some (.int .u8))(c:P.underlying dst=some .string){b off cap}(l)
  (h:∀j v,(l.map (Value.int .u8))[j]?=some v->w.cell? ⟨b,off+j,none⟩=some v):
  (convert t dst (.slice (some ⟨b,off,none⟩) l.length cap)).run P w= .ok (.string ⟨(WU l).toArray⟩) w:=by
 rw[run_convert_bytes_string w t dst e _ _ _ f d c];have a:=run_loadCells_list (P:=P) w ⟨b,off,none⟩ (l.map (Value.int .u8)) (λj v g=>by grind [hZ]);rw[Xu]at a;rw[run_bytesToString w _ _ _ l a,foldl_push_bytes];simp[ByteArray.ext,WU]
theorem MC{t e}{dst}(d:P.underlying t=some (.slice e))(b:P.underlying e=some (.int .u8))(a:P.underlying dst=some .string)(l c):
  (convert t dst (.slice none l c)).run P w= .ok (.string ⟨#[]⟩) w:=by
 rw[run_convert_bytes_string w t dst e _ _ _ d b a];rfl
theorem Wq5{t e}{dst}(h:P.underlying t=some (.slice e))(f:P.underlying e=some (.int .u8))(d:P.underlying dst=some .string)(a)(c):
  (convert t dst (.slice (some a) 0 c)).run P w= .ok (.string ⟨#[]⟩) w:=by
 rw[run_convert_bytes_string w t dst e _ _ _ h f d];have b:=run_loadCells_list (P:=P) w a ([].map (Value.int .u8)) (λj v g=>by simp at g);simp only[eL,List.length_nil]at b;rw[run_bytesToString w _ _ _ [] (by simp_all),foldl_push_bytes];rfl
theorem WmV(i:au P T)(B:HRel w0 F G ν st.objs st.nx w){src dst}{x}{u}{r}(o:AValRel G ν st.nx x u)
  (h:Ao T st src dst x=some (true,r)):Gives P G ν st w (convert src dst u) r:=by
 unfold Ao YY at h;split at h
 .rename_i k0 k k1 n h1 h2;have:=z8 o;subst this;have f:=(i _ _ h1).und.2;have d:=(i _ _ h2).und.2;simp at h;subst h;exact⟨.int k (k.wrap n),by simp_all [convert,Wm,Conv.intToInt],WQ rfl⟩
 .rename_i s h1 h2;have:=Hp o;subst this;have f:=(i _ _ h1).und.2;have d:=(i _ _ h2).und.2;simp at h;subst h;exact⟨_,by simp[convert,Wm f,Wm d]<;>rfl,WQ rfl⟩
 .rename_i ty ag et c h1 h2;have f:=(i _ _ h1).und.2.1;have d:=(i _ _ h2).und.2;split at h
  .rename_i h3;have m:=(i _ _ h3).und.2;split at h
   .rename_i l;simp at h;subst h;obtain⟨⟨z,D,O⟩,_⟩:=o;simp at D;subst D;rcases O with⟨rfl,t⟩|⟨b,Q,q,I,rfl,J,K,A,y⟩|⟨a,q,rfl,t⟩
    rotate_left 2
    .refine⟨_,Wq5 f m d a _,WQ ?_⟩;rw[t];rfl
    .refine⟨_,MC f m d _ _,WQ ?_⟩;rw[t];rfl
    .have H:=MF _ _ A;exact⟨_,UC f m d l (λj v M=>B.g (y j v (by simp_all))),WQ rfl⟩
   .simp at h;subst h;obtain⟨p,_⟩:=o;simp only[CellRel]at p;subst p;exact⟨_,MC f m d _ _,WQ rfl⟩
   .rename_i id;split at h
    .rename_i xs aO;simp at h;subst h;obtain⟨⟨R,p⟩,_⟩:=o;subst p;obtain⟨S,C⟩:=B.obj aO;unfold Nu.hdr;cases bL:(ν id).blk with
     |none=>
      have N:=rx C bL;refine⟨_,MC f m d _ _,WQ ?_⟩;rw[N];rfl
     |some b=>
      obtain⟨E,J,K,A,I,y,L,U⟩:=zL (e:=.int .u8) rfl C bL;have H:=MF _ _ y;simp only[←E];exact⟨_,UC f m d xs (λj v M=>L j v (by simp_all)),WQ rfl⟩
    grind
   grind
  grind
 grind
theorem Ww5{x}{o}(a:o.op= .nilCheck x){ρ}{p}(h:ρ x= .pointer (some p)):(execOp ρ o).run P w= .ok (.value (.pointer (some p))) w:=by
 simp[execOp,a,h]
theorem WtX{x r}{u}(a:AValRel G ν st.nx x u)(h:AF st x=some (true,r)):r=x/\∃p,u= .pointer (some p):=by
 unfold AF at h;split at h
 .simp at h;subst h;obtain⟨⟨b,o,c,rfl,_⟩,_⟩:=a;simp_all
 .split at h
  .simp at h;subst h;obtain⟨⟨_,b,_,rfl⟩,_⟩:=a;simp_all
  grind
 .split at h
  .simp at h;subst h;obtain⟨⟨_,_,b,_,rfl⟩,_⟩:=a;simp_all
  grind
 .split at h
  .simp at h;subst h;obtain⟨⟨_,b,_,rfl⟩,_⟩:=a;simp_all
  grind
 grind
theorem Tl(f:Rel w0 F nt G0 G ν st a w):∀(l) (c),pV st l=some c->
  c.length=l.length/\∀(j d:Nat) (u),c[j]?=some d->(l.map a.eval)[j]?=some u->d<st.nx/\u.oneCell'=true/\∃b,(ν d).blk=some b/\u= .pointer (some ⟨b,(ν d).off+0,none⟩)
 | [],c,h=>by simp[pV]at h;simp_all
 |o::l,c,h=>by
  simp only[pV]at h;split at h
  .rename_i d r h1 h2;injection h with h;subst h;obtain⟨k,q⟩:=Tl f l r h2;refine⟨by simp[k],λj i u e g=>?_⟩;cases j with
   |zero=>
    simp at e g;subst e g;obtain⟨⟨m,n⟩,p⟩:=WO f o _ h1;simp_all
   |succ j=>grind
  grind
theorem Ss(m:au P T)(q:HRel w0 F G ν st.objs st.nx w){t}{x}{u}{r}(y:AValRel G ν st.nx x u)(h:rW T st t x=some r):
  Gives P G ν st w (Instr.loadAt t u) r:=by
 unfold rW at h;split at h
 .rename_i te hl;split at h
  .rename_i hp;split at h
   .rename_i id off;split at h
    .rename_i C aO;obtain⟨⟨_,b,n,rfl⟩,_⟩:=y;obtain⟨S,I,M,a,J,z,B,_⟩:=q.obj aO;rw[n]at a;injection a with a;subst a;obtain⟨v,L,D⟩:=Mk (m _ _ hl) hp B (o:=(ν id).off) z h;exact⟨v,by grind [Instr.loadAt,Instr.sureAddr],D⟩
    grind
   .rename_i id i off;split at h
    .rename_i e xs aO;obtain⟨⟨_,A,b,n,rfl⟩,_⟩:=y;obtain⟨S,s⟩:=q.obj aO;have K:=s.2.1;obtain⟨c,p,k,l⟩:=Wto s n (by rw[s.1];exact A);obtain⟨v,E,f⟩:=Mk (m _ _ hl) hp (G7 (ν:=ν) (nx:=st.nx) e _ _ _ k) (w:=w) (b:=b) (o:=(ν id).off+i*e.size) l h;exact⟨v,by grind [Instr.loadAt,Instr.sureAddr,dN],f⟩
    grind
   .rename_i t' d off;obtain⟨⟨b,o,C,rfl,k,l⟩,_⟩:=y;obtain⟨v,E,f⟩:=Mk (m _ _ hl) hp (iZ (G:=G) (ν:=ν) (nx:=st.nx) t' d _ k) (w:=w) (b:=b) (o:=o) (λj v H=>q.g (l j v H)) h;exact⟨v,by grind [Instr.loadAt,Instr.sureAddr],f⟩
   grind
  grind
 grind
theorem VY{G}{k}:∀(xs:List Int) (cs),bO (Enc G (.int k)) xs cs->cs=xs.map λx=>Value.int k x
 | [],cs,h=>h
 |x::xs,cs,⟨a,b,c,d,e⟩=>by
  have:a= [.int k x]:=d;rw[c,this,VY xs b e];rfl
theorem VS{k}{xs}:∀(n i j),(sB k xs i n)[j]?=if j<n then some (.val (.int k) (xs.getD (i+j) (0:Int)))else none
 |0,i,j=>by simp[sB]
 |n+1,i,j=>by
  cases j with
  |zero=>simp[sB]
  |succ j=>
   rw[sB,List.getElem?_cons_succ,VS n (i+1) j,show i+1+j=i+(j+1) by omega];simp_all
theorem VD{k}{xs}:∀(n i),(sB k xs i n).length=n
 |0,i=>rfl
 |n+1,i=>by rw[sB,Xs,VD n (i+1)]
theorem WmE(s:au P T)(z:HRel w0 F G ν st.objs st.nx w){t}{x}{u}{r}(C:AValRel G ν st.nx x u)(h:vz T st t x=some (true,r)):
  Gives P G ν st w (Instr.loadAt t u) r:=by
 unfold vz at h;split at h
 .rename_i k n et hl;split at h
  .rename_i id;split at h
   .rename_i k' xs aO;change List Int at xs;split at h
    .rename_i hk;subst hk;simp only[Option.some.injEq,Prod.mk.injEq,Wh]at h;obtain⟨o,rfl⟩:=h;obtain⟨⟨_,b,y,rfl⟩,_⟩:=C;obtain⟨S,A⟩:=z.obj aO;obtain⟨D,H,I,J,f,p,q,K⟩:=zL (e:=.int k') rfl A y;have i:=VY _ _ p;have l:=s _ _ hl;have L:(Go.isAgg t).run P w= .ok true w:=l.isAgg;have E:(Go.sizeOf t).run P w= .ok n w:=by have:=l.sizeOf (w:=w);grind [TE.size,Ty.size]
     have m:f.length=n:=by rw[i,Xu];exact o
     have B:=run_loadCells_list (P:=P) w ⟨b,(ν id).off,none⟩ f (λj v a=>by rw[hZ];exact q j v a);rw[m]at B;refine⟨.agg f.toArray,?_,f,rfl,?_,λj c v a d=>?_⟩
     .simp_all [Instr.loadAt,Instr.sureAddr,Sem.run_bind,Sem.run_pure,Result.andThen_ok,loadVar,W1]
     .rw[VD,m]
     .rw[VS]at a;split at a
      .rename_i BH;injection a with a;subst a;rw[i,d5]at d;have g:j<Xa xs:=Nat.lt_of_lt_of_eq BH o.symm;rw[Xr g]at d;simp only[me]at d;injection d with d;subst d;refine⟨?_,rfl⟩;simp[CellRel,Enc,g]
      .cases a
    grind
   grind
  grind
 grind
end
section
variable{w0:World}{F:CS}{nt:Slots}{G0 G:GH}{ν:Nat->Nu}{st:St}{a:Act}{w:World}{P:Program}{T:Tab}
theorem kj{o}{s:Sem Value}{r}(d:execOp a.eval o=(do pure (.value (←s))))(h:Gives P G ν st w s r):
  ∃v,(execOp a.eval o).run P w= .ok (.value v) w/\AValRel G ν st.nx r v:=by
 obtain⟨v,b,c⟩:=h;simp_all
theorem rh{α β:Type}{x}{f:α->Option (Bool×β)}{r}(h:x.bind f=some (true,r)):∃y,x=some y/\f y=some (true,r):=by
 cases x with
 |none=>simp at h
 |some y=>simp_all
theorem Wo0(l:au P T)(m:HRel w0 F G ν st.objs st.nx w){a}{t}{x y}{u v}{r}(ox oy)(p:AValRel G ν st.nx x u)(q:AValRel G ν st.nx y v)
  (h:AA T st a t x y=some (true,r)):Gives P G ν st w (do eqGuard a t ox oy u v;Go.binOp a t u v) r:=by
 unfold AA at h;split at h
 .rename_i id;split at h
  .rename_i te e hl;have B:=(l _ _ hl).und.2.1;obtain⟨⟨_,o⟩,_⟩:=p;subst o;obtain⟨k,_⟩:=q;simp only[CellRel]at k;subst k;split at h
   .rename_i e' xs ho;have b:∀n:Nat,Ii 0 xs.length=true->(Op.equalIn (n+1) t (ν id).hdr (.slice none 0 0)).run P w= .ok false w:=λn f=>by
     have z:xs≠ []:=by rintro rfl;simp at f
     obtain⟨S,d⟩:=m.obj ho;have i:∃g,(ν id).hdr= .slice (some g) (ν id).len (ν id).cap:=by
      unfold Nu.hdr;obtain⟨s,_,d⟩:=d;cases f:(ν id).blk with
      |none=>simp_all
      |some g=>simp_all
     obtain⟨g,i⟩:=i;simp_all [Op.equalIn,Wm]
    have j:∀a,(eqGuard a t ox oy (ν id).hdr (.slice none 0 0)).run P w= .ok () w:=λa=>CY (λA=>by unfold Nu.hdr;split<;>exactλh=>nomatch h) (by unfold Nu.hdr;split<;>exactλh=>nomatch h);split at h
    .simp only[Option.some.injEq,Prod.mk.injEq]at h;obtain⟨c,rfl⟩:=h;exact⟨.bool false,by simp[j,Go.binOp,Op.equal,Op.maxDepth,show(Op.equalIn 10000 t (ν id).hdr (.slice none 0 0)).run P w= .ok false w from b 9999 c],WQ rfl⟩
    .simp only[Option.some.injEq,Prod.mk.injEq]at h;obtain⟨c,rfl⟩:=h;exact⟨.bool true,by simp[j,Go.binOp,Op.equal,Op.maxDepth,show(Op.equalIn 10000 t (ν id).hdr (.slice none 0 0)).run P w= .ok false w from b 9999 c],WQ rfl⟩
    grind
   grind
  grind
 grind
theorem WqV(q:au P T)(b:Rel w0 F nt G0 G ν st a w){o}{r}(h:b5 T st o.op=some (true,r)):
  ∃v,(execOp a.eval o).run P w= .ok (.value v) w/\AValRel G ν st.nx r v:=by
 obtain⟨J,L,E,S,I,guard⟩:=o;simp only at h;unfold b5 at h;split at h
 .rename_i x;cases hx:ev st x with
  |none=>simp_all
  |some v=>simp[hx]at h;subst h;exact⟨_,rfl,WO b x _ hx⟩
 .rename_i x;cases hx:ev st x with
  |none=>simp_all
  |some v=>simp[hx]at h;subst h;exact⟨_,rfl,WO b x _ hx⟩
 .rename_i c x y;split at h
  .rename_i p e;cases hc:ev st c with
   |none=>simp_all
   |some cv=>
    simp[hc]at e;have C:=NU _ _ _ (WO b c _ hc) e;split at h
    .rename_i m n g h3;simp at h;subst h;have D:=M1 (WO b x _ g);have N:=M1 (WO b y _ h3);refine⟨.bool (bif p then m else n),?_,WQ rfl⟩;simp only[execOp,C,D,N,asBool];cases p<;>rfl
    .cases p with
     |true=>
      cases hx:ev st x with
      |none=>simp_all
      |some v=>simp[hx]at h;subst h;exact⟨a.eval x,by simp_all [execOp,asBool],WO b x _ hx⟩
     |false=>
      cases hx:ev st y with
      |none=>simp_all
      |some v=>simp[hx]at h;subst h;exact⟨a.eval y,by simp_all [execOp,asBool],WO b y _ hx⟩
  grind
 .rename_i t x;obtain⟨y,j,h⟩:=rh h;cases ha:vz T st t y with
  |some z=>rw[ha]at h;simp only[]at h;injection h with h;subst h;exact kj rfl (WmE q b.h (WO b x _ j) ha)
  |none=>
   rw[ha]at h;cases B:rW T st t y with
   |none=>simp_all
   |some z=>simp[B]at h;subst h;exact kj rfl (Ss q b.h (WO b x _ j) B)
 .rename_i x;obtain⟨y,j,h⟩:=rh h;obtain⟨rfl,p,O⟩:=WtX (WO b x _ j) h;exact⟨_,Ww5 rfl O,by grind [WO]⟩
 .rename_i L t x y _;split at h
  .rename_i u v e g;split at h
   .rename_i z hz;injection h with h;subst h;exact kj rfl (Wo0 q b.h x y (WO b x _ e) (WO b y _ g) hz)
   .exact kj rfl (Wpf q x y (WO b x _ e) (WO b y _ g) h)
  grind
 .rename_i L t x;obtain⟨y,j,h⟩:=rh h;exact kj rfl (WrJ (WO b x _ j) h)
 .rename_i src J x;obtain⟨y,j,h⟩:=rh h;exact kj rfl (WmV q b.h (WO b x _ j) h)
 .rename_i t x lo hi;obtain⟨y,j,h⟩:=rh h;exact kj rfl (WlH q (WO b x _ j) (λl B=>rK b lo l B) (λl B=>rK b hi l B) h)
 .rename_i s x f;obtain⟨y,j,h⟩:=rh h;exact kj rfl (Whq q b.h (WO b x _ j) h)
 .rename_i s x f;obtain⟨y,j,h⟩:=rh h;exact kj rfl (Wmd q (WO b x _ j) h)
 .rename_i t x i;split at h
  .rename_i u v e g;exact kj rfl (Whi q b.h (WO b x _ e) (WO b i _ g) h)
  grind
 .rename_i t x i;split at h
  .rename_i u v e g;exact kj rfl (Wl8 q (WO b x _ e) (WO b i _ g) h)
  grind
 .rename_i t ix;split at h
  .rename_i xs e;cases hx:xs[ix]? with
   |none=>simp_all
   |some y=>
    simp[hx]at h;subst h;obtain⟨M,Q,B,R⟩:=WO b t _ e;have K:ix<M.length:=by grind
    exact kj rfl ⟨M[ix],by simp[Q,Instr.extract,K],R ix y _ hx (Xr K)⟩
  grind
 .rename_i f first captured
  split at h
  .rename_i hf;cases hc:pV st captured.toList with
   |none=>simp_all
   |some ids=>
    simp[hc]at h;subst h;obtain⟨e,g⟩:=Tl b _ _ hc;have U:first= #[]:=by simp_all
    subst U;refine kj rfl ⟨.func (.func f) #[] (captured.map a.eval),by simp[Instr.makeFunc],⟨captured.toList.map a.eval,?_,?_,g⟩,rfl⟩
    .apply Ws
     grind
    grind
  grind
 .rename_i c;obtain⟨H,A,d⟩:=c;obtain⟨A⟩:=A;obtain⟨d⟩:=d;simp only at h;split at h
  .rename_i x t;obtain⟨y,j,h⟩:=rh h;obtain⟨v,e,g⟩:=WpD (ty:=E) q b.h (WO b x _ j) h;refine⟨v,?_,g⟩;simp only[execOp,resolve,invoke,builtin,Sem.run_bind,Sem.run_pure,Result.andThen_ok,A8,bn,eL,e]
  .rename_i x y _ _;split at h
   .rename_i k m k' n e g;split at h
    .rename_i hk;subst hk;simp at h;subst h;have C:=z8 (WO b x _ e);have D:=z8 (WO b y _ g);refine⟨.int k (ZP m n),?_,WQ rfl⟩;simp only[execOp,resolve,invoke,builtin,Sem.run_bind,Sem.run_pure,Result.andThen_ok,A8,bn,eL,C,D,Builtin.min_];rfl
    grind
   grind
  .rename_i x y _ _;split at h
   .rename_i k m k' n e g;split at h
    .rename_i hk;subst hk;simp at h;subst h;have C:=z8 (WO b x _ e);have D:=z8 (WO b y _ g);refine⟨.int k (nd m n),?_,WQ rfl⟩;simp only[execOp,resolve,invoke,builtin,Sem.run_bind,Sem.run_pure,Result.andThen_ok,A8,bn,eL,C,D,Builtin.max_];rfl
    grind
   grind
  grind
 grind
end
section
variable{w0:World}{F:CS}{nt:Slots}{G0 G G':GH}{ν ν':Nat->Nu}{φ φ':Nat->CS}{objs objs':af}{nx am:Nat}{w w':World}{P:Program}{T:Tab}
theorem Live.of{id}{a}(h:Wt objs id=some a)(b:a≠ .dead):Live objs id:=⟨a,h,b⟩
theorem WM{α:Type}(k)(v)(l:List (Nat×α))(i):Wt ((k,v)::l) i=if k=i then some v else Wt l i:=by
 simp only[Wt];by_cases h:k=i
 .subst h;simp
 .have:aZ k i=false:=by
   grind [aZ,absurd,wS]
  rw[this,We h]
theorem vd{α:Type}:∀(l m:List (Nat×α)) (i),Wt (l++m) i=match Wt l i with
  |some x=>some x
  |none=>Wt m i
 | [],m,i=>rfl
 |(k,v)::l,m,i=>by
  rw[List.cons_append,WM,WM];split
  .rfl
  .exact vd l m i
theorem HR.blk_lt_g(h:HR w0 F G ν φ objs nx w){b o}{v}(a:G b o=some v):b<w.heap.size:=block_lt_of_cell (h.g b o v a)
theorem WLe.refl(S)(w):WLe S w w:=⟨Xj _,λ_ a _ h=>⟨a,h,rfl⟩,λ_ _ _ _=>rfl,λ_ _ _=>rfl,rfl,rfl,rfl⟩
theorem WLe.mono{S S'}(h:WLe S w w')(e:CS.le S S'):WLe S' w w':=
 ⟨h.size,h.row,λb o a c=>h.cell b o a (λd=>c (e b o d)),λb a c=>h.whole b a (λo d=>c o (e b o d)),h.os,h.output,h.tape⟩
theorem WLe.same{S S'}(h:WLe S w w')(i:CS.disj S S')(g:∀b o,S' b o->b<w.heap.size):Same S' w w':=
 ⟨λb n ⟨j,T,e,k⟩=>by obtain⟨c,f,l⟩:=h.row b j T e;exact⟨c,T,f,by omega⟩,λb o a=>h.cell b o (g b o a) (λd=>i b o d a)⟩
theorem WLe.rows{S}(h:WLe S w w'):Same (λ_ _=>False) w w':=
 ⟨λb n ⟨f,T,c,g⟩=>by obtain⟨a,d,i⟩:=h.row b f T c;exact⟨a,T,d,by omega⟩,λ_ _ e=>e.elim⟩
theorem WLe.trans{S S'}{w1 w2 w3}(h:WLe S w1 w2)(a:WLe S' w2 w3)(k:∀b o,S' b o->w1.heap.size<=b\/S b o):WLe S w1 w3 where
 size:=eO h.size a.size
 row b vs T hb:=by
  obtain⟨c,e,g⟩:=h.row b vs T hb;obtain⟨f,i,j⟩:=a.row b c T e;simp_all
 cell b o hb hn:=by
  rw[a.cell b o (l9 hb h.size) (λd=>by grind)];exact h.cell b o hb hn
 whole b hb hn:=by
  rw[a.whole b (l9 hb h.size) (λo d=>by grind)];exact h.whole b hb hn
 os:=a.os.trans h.os
 output:=a.output.trans h.output
 tape:=a.tape.trans h.tape
theorem WLe.alloc(S)(a:World)(o)(c:a.heap=w.heap)(f:a.os=w.os)(e:a.output=w.output)(d:a.tape=w.tape):WLe S w (a.alloc o) where
 size:=by simp[c]
 row b g T hb:=by
  have h:b<w.heap.size:=(Array.getElem?_eq_some_iff.1 hb).1;exact⟨g,by grind [heap_alloc_old],rfl⟩
 cell b o' hb _:=World.cell?_of_block (by show(a.alloc o).heap[b]?=w.heap[b]?;rw[heap_alloc_old a o (by simp_all),c])
 whole b hb _:=by rw[heap_alloc_old a o (by simp_all),c]
 os:=f
 output:=e
 tape:=d
theorem WLe.setRow{S}{b}{vs us}{T}(h:w.heap[b]?=some (Obj.cells vs T (0,0)))(d:us.size=vs.size)(c:∀o,¬S b o->us[o]?=vs[o]?):WLe S w (w.setRow b us) where
 size:=by simp
 row k a T' hk:=by
  by_cases e:k=b
  .grind [setRow_heap]
  .exact⟨a,by grind [setRow_other],rfl⟩
 cell k o hk hn:=by
  by_cases e:k=b
  .subst e;rw[cell_of_row _ k o us T (0,0) (setRow_heap w k vs us T (0,0) h),cell_of_row w k o vs T (0,0) h]
   grind
  grind [World.cell?_of_block,setRow_other]
 whole k hk hn:=by
  by_cases e:k=b
  .subst e;have:us=vs:=Array.ext_getElem? λo=>c o (hn o);rw[setRow_heap w k vs us T (0,0) h,h,this]
  grind [setRow_other]
 os:=rfl
 output:=rfl
 tape:=rfl
def Ot(φ:Nat->CS)(objs:af):CS:=λb o=>∃a,Live objs a/\φ a b o
theorem HR.step(h:HR w0 F G ν φ objs nx w)(k:WLe (Ot φ objs) w w')
  (q:∀a ob,Wt objs' a=some ob->ob≠ .dead->dQ G ν' am w' a (φ' a) ob)
  (l:∀a,Live objs' a->a<am)
  (j:∀a b o,Live objs' a->φ' a b o->Ot φ objs b o\/w.heap.size<=b)
  (n:∀a b o,Live objs' a->φ' a b o->b<w'.heap.size)
  (p:∀a d b o,Live objs' a->Live objs' d->φ' a b o->φ' d b o->a=d):
  HR w0 F G ν' φ' objs' am w' where
 g b o v hg:=by
  rw[k.cell b o (h.blk_lt_g hg) (λ⟨a,c,hp⟩=>by rw[h.gf a b o c hp]at hg;cases hg)];exact h.g b o v hg
 ob a ob ho:=by
  by_cases m:ob= .dead
  .subst m;trivial
  simp_all
 gf a b o c hp:=by
  rcases j a b o c hp with⟨i,e,f⟩|fv
  .exact h.gf i b o e f
  .cases hg:G b o with
   |none=>rfl
   |some v=>have:=h.blk_lt_g hg;omega
 inj:=p
 own a b o c hp:=by
  rcases j a b o c hp with⟨i,e,f⟩|fv
  .exact h.own i b o e f
  .exact .inl (eO h.le.size fv)
 lt:=l
 bl:=n
 le:=h.le.trans k (λb o ⟨a,c,hp⟩=>h.own a b o c hp)
def Ep(φ:Nat->CS)(i:Nat)(S:CS):Nat->CS:=λj=>if j=i then S else φ j
theorem DU(φ)(i)(S):Ep φ i S i=S:=by simp[Ep]
theorem vG(φ){i j}(S)(h:j≠i):Ep φ i S j=φ j:=by simp[Ep,h]
theorem Dv:∀(l) (id) (a),Wt (kill objs l) id=some a->a≠ .dead->Wt objs id=some a/\id∉l
 | [],id,a,h,_=>⟨h,by simp⟩
 |i::l,id,a,h,hd=>by
  simp only[kill]at h;rw[WM]at h;split at h
  .simp_all
  .rename_i bP;obtain⟨b,c⟩:=Dv l id a h hd
   grind
theorem zM{l}{id}(h:Live (kill objs l) id):Live objs id/\id∉l:=by
 obtain⟨b,c,a⟩:=h;obtain⟨d,e⟩:=Dv l id b c a;exact⟨⟨b,d,a⟩,e⟩
def H7(φ:Nat->CS)(objs:af)(t:Nat)(m:List Nat):CS:=λb o=>∃i,(i=t\/i∈m)/\Live objs i/\φ i b o
theorem HR.put(h:HR w0 F G ν φ objs nx w){t}{m}{ob}{S}(D:ni nx ν ν')(A:nx<=am)(L:t<am)
  (r:WLe (H7 φ objs t m) w w') (s:∀b o,S b o->H7 φ objs t m b o\/(w.heap.size<=b/\b<w'.heap.size))
  (K:ob≠ .dead->dQ G ν' am w' t S ob):HR w0 F G ν' (Ep φ t S) ((t,ob)::kill objs m) am w':=by
 have z:∀id e,Wt ((t,ob)::kill objs m) id=some e->e≠ .dead->(id=t/\e=ob)\/(id≠t/\id∉m/\Wt objs id=some e):=λid e q l=>by
  grind [WM,Dv]
 have p:∀id,Live ((t,ob)::kill objs m) id->(id=t)\/(id≠t/\id∉m/\Live objs id):=λid ⟨e,q,l⟩=>by
  rcases z id e q l with⟨a,j⟩|⟨a,j,d⟩
  .omega
  .exact .inr ⟨a,j,e,d,l⟩
 refine h.step (r.mono λb o ⟨i,_,a,j⟩=>⟨i,a,j⟩) (λid e q l=>?_) (λid f=>?_) (λid b o f c=>?_) (λid b o f c=>?_) (λid g b o f E c x=>?_)
 .rcases z id e q l with⟨a,j⟩|⟨a,j,d⟩
  .grind [DU]
  .rw[vG φ S a];have f:Live objs id:=⟨e,d,l⟩;refine C9 (λ_ _ _ u=>u) (r.same (λb o ⟨i,C,H,I⟩ c=>?_) (λb o c=>h.bl id b o f c)) (λ_ _ u=>u) D A (h.lt id f) e (h.ob id e d);have:=h.inj i id b o H f I c;simp_all
 .rcases p id f with a|⟨_,_,d⟩
  .omega
  .exact l9 (h.lt id d) A
 .rcases p id f with a|⟨a,_,d⟩
  .subst a;rw[DU]at c;rcases s b o c with⟨i,_,k,n⟩|k
   .exact .inl ⟨i,k,n⟩
   omega
  .rw[vG φ S a]at c;exact .inl ⟨id,d,c⟩
 .rcases p id f with a|⟨a,_,d⟩
  .subst a;rw[DU]at c;rcases s b o c with⟨i,_,k,n⟩|k
   .exact l9 (h.bl i b o k n) r.size
   omega
  .rw[vG φ S a]at c;exact l9 (h.bl id b o d c) r.size
 .have key:∀g,g≠t->g∉m->Live objs g->φ g b o->S b o->False:=λg a j d k n=>by
   rcases s b o n with⟨i,C,y,B⟩|y
   .have:=h.inj i g b o y d B k;simp_all
   .have:=h.bl g b o d k;omega
  rcases p id f with a|⟨a,j,d⟩<;>rcases p g E with v|⟨v,M,J⟩
  .rw[a,v]
  .simp_all [DU,vG]
  .simp_all [DU,vG]
  .rw[vG φ S a]at c;rw[vG φ S v]at x;exact h.inj id g b o d J c x
theorem HR.drew(h:HR w0 F G ν φ objs nx w):HR w0 F G ν φ objs nx w.drew:=by
 have i:WLe (Ot φ objs) w w.drew:=⟨Xj _,λ_ j _ h=>⟨j,h,rfl⟩,λ_ _ _ _=>rfl,λ_ _ _=>rfl,rfl,rfl,rfl⟩;exact h.step i (λa f g _=>C9 (w:=w) (w':=w.drew) (S:=φ a) (λ_ _ _ c=>c) ⟨λ_ _ c=>c,λ_ _ _=>rfl⟩ (λ_ _ c=>c) (λ_ _=>rfl) (Xj _) (h.lt a ⟨f,g,by assumption⟩) f (h.ob a f g))
  h.lt (λa b o d e=>.inl ⟨a,d,e⟩) (λa b o d e=>h.bl a b o d e) h.inj
theorem HRel.drew(h:HRel w0 F G ν objs nx w):HRel w0 F G ν objs nx w.drew:=by
 obtain⟨φ,h⟩:=h;exact⟨φ,h.drew⟩
end
section
variable{w0:World}{F:CS}{nt:Slots}{G0 G G':GH}{ν ν':Nat->Nu}{st:St}{a:Act}{w w':World}{P:Program}{T:Tab}
theorem Rel.put(h:Rel w0 F nt G0 G ν st a w){dst:Option Tmp}(c:∀d,dst=some d->nt.Ok d){x:AVal}{v:Value}(k:AValRel G ν st.nx x v):Rel w0 F nt G0 G ν (st.put dst x) (a.put dst v) w:=by
 cases dst with
 |none=>exact h
 |some d=>
  have g:d<a.tmps.size:=by rw[h.ntm];exact(c d rfl).1
  refine⟨h.defers,by simpa [Act.put]using h.ntm,λp f=>?_,λi y b=>?_,h.h,h.gx,h.ex⟩
  .simp only[Act.put];rw[Xff (λe=>(c d rfl).2 p f e.symm)];exact h.par p f
  simp only[St.put]at b;rw[WM]at b;split at b
  .rename_i e;subst e;injection b with b;subst b;exact⟨v,by simp[Act.put,g],k⟩
  .rename_i bP;obtain⟨u,l,j⟩:=h.env i y b;exact⟨u,by grind [Act.put,Xff],j⟩
theorem Rel.on(h:Rel w0 F nt G0 G ν st a w){objs':af}{am:Nat}(c:GLe G G')(e:ni st.nx ν ν')(g:st.nx<=am)
  (d:HRel w0 F G' ν' objs' am w') (b:GExt w0.heap.size F G0 G'):Rel w0 F nt G0 G' ν' {env:=st.env,objs:=objs',nx:=am} a w':=
 ⟨h.defers,h.ntm,h.par,λi y j=>by
  obtain⟨u,l,k⟩:=h.env i y j
  grind [AValRel.mono],d,b,λx v f=>AValRel.mono c e g x v (h.ex x v f)⟩
def upd(ν:Nat->Nu)(i:Nat)(n:Nu):Nat->Nu:=λj=>if j=i then n else ν j
theorem D0(ν)(i)(n):ni i ν (upd ν i n):=λj a=>by simp[upd];omega
theorem fb(ν)(i)(n):upd ν i n i=n:=by simp[upd]
theorem Rel.lay(h:Rel w0 F nt G0 G ν st a w){dst:Option Tmp}(c:∀d,dst=some d->nt.Ok d){objs'}{am}(e:ni st.nx ν ν')(g:st.nx<=am)
  (b:HRel w0 F G ν' objs' am w') {x} {v} (f:AValRel G ν' am x v):Rel w0 F nt G0 G ν' (({env:=st.env,objs:=objs',nx:=am}:St).put dst x) (a.put dst v) w':=
 (h.on (λ_ _ _ b=>b) e g b h.gx).put c f
theorem Rel.fresh(h:Rel w0 F nt G0 G ν st a w){dst:Option Tmp}(g:∀d,dst=some d->nt.Ok d)(m)(ob)(nu)(S:(Nat->CS)->CS)(x)(v)
  (j:∀φ,HR w0 F G ν φ st.objs st.nx w->WLe (H7 φ st.objs st.nx m) w w') (f:∀φ,HR w0 F G ν φ st.objs st.nx w->∀b o,S φ b o->H7 φ st.objs st.nx m b o\/(w.heap.size<=b/\b<w'.heap.size))
  (e:∀φ,HR w0 F G ν φ st.objs st.nx w->dQ G (upd ν st.nx nu) (st.nx+1) w' st.nx (S φ) ob)
  (i:AValRel G (upd ν st.nx nu) (st.nx+1) x v):
  Rel w0 F nt G0 G (upd ν st.nx nu) (({env:=st.env,objs:=(st.nx,ob)::kill st.objs m,nx:=st.nx+1}:St).put dst x) (a.put dst v) w':=by
 obtain⟨φ,c⟩:=h.h;exact h.lay g (D0 ν st.nx nu) (A9 _) ⟨_,c.put (D0 ν st.nx nu) (A9 _) (nj _) (j φ c) (f φ c) (λ_=>e φ c)⟩ i
theorem Rel.new(h:Rel w0 F nt G0 G ν st a w){dst:Option Tmp}(e:∀d,dst=some d->nt.Ok d)(ob)(nu)(x)(v)
  (j:WLe (λ_ _=>False) w w')
  (c:dQ G (upd ν st.nx nu) (st.nx+1) w' st.nx (λb _=>w.heap.size<=b/\b<w'.heap.size) ob)
  (i:AValRel G (upd ν st.nx nu) (st.nx+1) x v):
  Rel w0 F nt G0 G (upd ν st.nx nu) (st.new dst ob x) (a.put dst v) w':=
 h.fresh e [] ob nu (λ_ b _=>w.heap.size<=b/\b<w'.heap.size) x v (λφ _=>j.mono λ_ _ f=>f.elim) (λφ _ b o g=>.inr g) (λφ _=>c) i
end
theorem WtQ{v:Value}(h:v.oneCell'=true):v.cells= #[v]:=by
 cases v<;>first|rfl|simp[Value.oneCell']at h
section
variable{w0:World}{F:CS}{nt:Slots}{G0 G:GH}{ν:Nat->Nu}{objs:af}{nx:Nat}{st:St}{a:Act}{w w':World}{P:Program}{T:Tab}
theorem OP:∀(t),t.data=true->Enc G t t.dflt (cE t)
 | .int _,_=>rfl
 | .bool,_=>rfl
 | .str,_=>rfl
 | .slice e,_=>⟨_,rfl,.inl ⟨rfl,rfl⟩⟩
 | .own _,h=>by simp[Ty.data]at h
 | .prod a b,h=>by
  simp only[Ty.data,Xh]at h;exact⟨_,_,rfl,OP a h.1,OP b h.2⟩
theorem H5:∀(t),CellsRel G ν nx (m5 t) (cE t)
 | .int _=>CellsRel.one rfl rfl
 | .bool=>CellsRel.one rfl rfl
 | .str=>CellsRel.one rfl rfl
 | .slice e=>CellsRel.one rfl rfl
 | .own _=>CellsRel.one trivial rfl
 | .prod a b=>(H5 a).append (H5 b)
theorem nJ:∀(t),(cE t).length=t.size
 | .int _| .bool| .str| .slice _| .own _=>rfl
 | .prod a b=>by simp[cE,nJ a,nJ b,Ty.size]
theorem Hs{α}(l:List α):∀n,(rep l n).length=n*l.length
 |0=>by simp[rep]
 |n+1=>by rw[rep,Xv,Hs l n,fC,qo]
theorem Ad{e}(h:e.data=true):∀n,bO (Enc G e) (Xp n e.dflt) (rep (cE e) n)
 |0=>rfl
 |n+1=>⟨_,_,rfl,OP e h,Ad h n⟩
theorem zZ{t}{te}(a:TEok P T t te):∃z,(zeroValue t).run P w= .ok z w/\z.cells.toList=te.cells:=by
 obtain⟨i,z,c,_,d,b,_⟩:=a.info;simp_all [zeroValue,SK]
theorem vc{a:TE}(h:a.plain=true):a.cells=cE a.ty:=by
 unfold TE.plain at h;unfold TE.cells;split at h<;>simp_all
theorem M6(w:World)(o):(w.alloc o).heap[w.heap.size]?=some o:=heap_alloc_new w o
theorem zty:∀(t),∃f,WD G w t t.dflt (cE t.ro) f/\∀p∈f,p.fp= λ_ _=>False
 | .int _=>⟨[],⟨rfl,rfl⟩,by simp⟩
 | .bool=>⟨[],⟨rfl,rfl⟩,by simp⟩
 | .str=>⟨[],⟨rfl,rfl⟩,by simp⟩
 | .slice e=>⟨[],⟨rfl,_,rfl,.inl ⟨rfl,rfl⟩⟩,by simp⟩
 | .own e=>⟨[⟨⟨none,0,0,0,e.size⟩,λ_ _=>False⟩],⟨_,rfl,rfl,rfl,rfl,rfl⟩,by simp⟩
 | .prod a b=>by
  obtain⟨c,g,i⟩:=zty a;obtain⟨d,h,j⟩:=zty b;refine⟨c++d,⟨_,_,c,d,rfl,rfl,g,h⟩,λp k=>?_⟩
  grind
theorem Yp(e):∀n,∃c,cz (WD G w e) (Xp n e.dflt) (rep (cE e.ro) n) c/\∀p∈c,p.fp= λ_ _=>False
 |0=>⟨[],⟨rfl,rfl⟩,by simp⟩
 |n+1=>by
  obtain⟨a,d,g⟩:=zty (G:=G) (w:=w) e;obtain⟨b,f,h⟩:=Yp e n;refine⟨a++b,⟨_,_,a,b,rfl,rfl,d,f⟩,λp i=>?_⟩
  grind
theorem Uw:∀(a:List Pc),(∀p∈a,p.fp= λ_ _=>False)->Sep (a.map Pc.fp)
 | [],_=>List.Pairwise.nil
 |p::a,h=>Xw.2 ⟨λs _ b o d _=>by simp_all,Uw a λq c=>h q (Xg _ c)⟩
theorem XY(h:Rel w0 F nt G0 G ν st a w){dst:Option Tmp}(e:∀d,dst=some d->nt.Ok d){cs}{vs}{t}(c:CellsRel G ν st.nx cs vs.toList):
  ∃ν',Rel w0 F nt G0 G ν' (st.new dst (.box cs) (.s (.one (.ptr st.nx 0)))) (a.put dst (.pointer (some ⟨w.heap.size,0,none⟩))) (w.alloc (.cells vs t)):=by
 refine⟨upd ν st.nx ⟨some w.heap.size,0,0,0,0⟩,h.new e (.box cs) _ _ _ (WLe.alloc _ w _ rfl rfl rfl rfl) ?_ ?_⟩
 .have hl:vs.size=cs.length:=by have:=c.1;omega
  refine⟨w.heap.size,vs.toList,by rw[fb],⟨vs,t,M6 w _,by grind [fb]⟩,?_,c.mono (λ_ _ _ f=>f) (D0 _ _ _) (A9 _),λb o ⟨g,_⟩=>by simp_all⟩;rw[fb];exact Ye (M6 w _) (λj v i=>by simp_all)
 .exact⟨⟨nj _,w.heap.size,by rw[fb],by rw[fb]⟩,rfl⟩
def FromL(φ:Nat->CS)(objs:af)(m:List Nat):CS:=λb o=>∃i∈m,Live objs i/\φ i b o
theorem G8(h:Rel w0 F nt G0 G ν st a w){dst:Option Tmp}(M:∀d,dst=some d->nt.Ok d)(m){e}{xs}{cap}{vs}{t}{cs}(S:xs.length<=cap)(U:cap<=maxLen)
  (V:vs.size=cap*e.size) (L:∀φ,HR w0 F G ν φ st.objs st.nx w->∃n,cz (WD G w e) xs cs n/\Sep (n.map Pc.fp)/\∀p∈n,CS.le p.fp (FromL φ st.objs m)) (O:cs<+:vs.toList)
  (f:World) (I:f.heap=w.heap) (H:f.os=w.os) (D:f.output=w.output) (C:f.tape=w.tape):
  (∃ν',Rel w0 F nt G0 G ν' (({env:=st.env,objs:=(st.nx,.arr e xs)::kill st.objs m,nx:=st.nx+1}:St).put dst (.s (.one (.own st.nx)))) (a.put dst (.slice (some ⟨w.heap.size,0,none⟩) xs.length cap)) (f.alloc (.cells vs t)))/\
  (∃ν',Rel w0 F nt G0 G ν' (({env:=st.env,objs:=(st.nx,.arr e xs)::kill st.objs m,nx:=st.nx+1}:St).put dst (.s (.one (.aptr st.nx)))) (a.put dst (.pointer (some ⟨w.heap.size,0,none⟩))) (f.alloc (.cells vs t))):=by
 have E:(f.alloc (.cells vs t)).heap[w.heap.size]?=some (Obj.cells vs t (0,0)):=by grind [M6]
 have r:∀(x:AVal) (v:Value),AValRel G (upd ν st.nx ⟨some w.heap.size,0,xs.length,cap,e.size⟩) (st.nx+1) x v->
   ∃ν',Rel w0 F nt G0 G ν' (({env:=st.env,objs:=(st.nx,.arr e xs)::kill st.objs m,nx:=st.nx+1}:St).put dst x) (a.put dst v) (f.alloc (.cells vs t)):=λx v R=>by
  refine⟨upd ν st.nx ⟨some w.heap.size,0,xs.length,cap,e.size⟩,h.fresh M m (.arr e xs) _ (λφ b o=>FromL φ st.objs m b o\/b=w.heap.size) x v (λφ _=>WLe.alloc _ f _ I H D C) (λφ z b o g=>?_) (λφ z=>?_) R⟩
  .rcases g with⟨i,N,u,y⟩|g
   .exact .inl ⟨i,.inr N,u,y⟩
   simp_all
  .obtain⟨n,u,y,B⟩:=L φ z;have T:∀p∈n,∀b o,p.fp b o->b<w.heap.size:=λp l b o k=>by
    obtain⟨i,_,J,K⟩:=B p l b o k;exact z.bl i b o J K
   show aq (f.alloc (.cells vs t)) (WD G _ e) e.size (upd ν st.nx ⟨some w.heap.size,0,xs.length,cap,e.size⟩ st.nx) xs _;rw[fb];refine⟨rfl,rfl,S,U,⟨vs,t,E,by simp_all⟩,cs,n,?_,?_,Xw.2 ⟨λs g b o ⟨W,_⟩ A=>?_,y⟩,λs g b o A=>?_⟩
   .refine pl (Q:=λp=>∀b o,p.fp b o->b<w.heap.size) (λx c p l k=>?_) _ _ _ T u;exact ls (λ_ _ _ k=>k) e x c p (λq P=>(WLe.alloc (λ_ _=>False) f _ I H D C).same (λ_ _ k _=>k) (l q P)) k
   .obtain⟨Y,Z⟩:=O;exact Ye E (λj v X=>by grind)
   .obtain⟨p,l,rfl⟩:=Xx.1 g
    grind
   .rcases Xq.1 g with rfl|g
    .exact .inr A.1
    .obtain⟨p,l,rfl⟩:=Xx.1 g;exact .inl (B p l b o A)
 refine⟨r _ _ ⟨⟨nj _,?_⟩,rfl⟩,r _ _ ⟨⟨nj _,w.heap.size,by rw[fb],by rw[fb]⟩,rfl⟩⟩;rw[fb];rfl
theorem NC(h:Rel w0 F nt G0 G ν st a w){dst:Option Tmp}(g:∀d,dst=some d->nt.Ok d){e}(i:e.data=true){xs}{cap}{vs}{t}{cs}(k:xs.length<=cap)(m:cap<=maxLen)
  (c:vs.size=cap*e.size) (f:bO (Enc G e) xs cs) (j:cs<+:vs.toList) (b:World) (p:b.heap=w.heap) (o:b.os=w.os) (n:b.output=w.output) (l:b.tape=w.tape):
  (∃ν',Rel w0 F nt G0 G ν' (st.new dst (.arr e xs) (.s (.one (.own st.nx)))) (a.put dst (.slice (some ⟨w.heap.size,0,none⟩) xs.length cap)) (b.alloc (.cells vs t)))/\
  (∃ν',Rel w0 F nt G0 G ν' (st.new dst (.arr e xs) (.s (.one (.aptr st.nx)))) (a.put dst (.pointer (some ⟨w.heap.size,0,none⟩))) (b.alloc (.cells vs t))):=
 G8 h g [] k m c (λφ _=>⟨[],(ri i xs cs []).2 ⟨f,rfl⟩,List.Pairwise.nil,by simp⟩) j b p o n l
theorem zO{x}{v}{cs}(e:AValRel G ν nx x v)(a:kq x=some cs):CellsRel G ν nx cs v.cells.toList/\∀u∈v.cells.toList,u.oneCell'=true:=by
 cases x with
 |tup xs=>simp[kq]at a
 |s y=>
  cases y with
  |one c=>
   simp[kq]at a;subst a;obtain⟨b,h⟩:=e
   grind [WtQ,CellsRel.one]
  |agg ds=>
   simp[kq]at a;subst a;obtain⟨i,rfl,b⟩:=e;refine⟨by grind [Value.cells],λu d=>?_⟩;simp[Value.cells]at d;obtain⟨j,g⟩:=List.getElem?_of_mem d;have f:j<ds.length:=by rw[←b.1];grind
   exact(b.2 j _ u (Xr f) g).2
theorem zC(t)(vs):(newRow t vs).run P w= .ok ⟨w.heap.size,0,none⟩ (w.alloc (.cells vs t)):=rfl
theorem Gt{cs ds}{off}(h:off+ds.length<=cs.length):(lB cs off ds).length=cs.length:=by
 simp[lB];omega
theorem Gs{cs ds}{vs us}{off}(a:CellsRel G ν nx cs vs)(b:CellsRel G ν nx ds us):
  CellsRel G ν nx (lB cs off ds) (vs.take off++us++vs.drop (off+us.length)):=by
 rw[b.1];exact((a.take off).append b).append (a.drop _)
theorem My(us:List Value):∀(off k) (cs:Array Value),off+k+us.length<=cs.size->
  ((us.zipIdx k).foldl (λcs (c,j)=>cs.setIfInBounds (off+j) c) cs).toList=cs.toList.take (off+k)++us++cs.toList.drop (off+k+us.length):=by
 induction us with
 |nil=>simp_all
 |cons u us ih=>
  intro off k cs h;simp only[List.zipIdx_cons,List.foldl_cons,Xs]at h⊢;rw[ih off (k+1) _ (by simp;omega)];have a:off+k<cs.toList.length:=by simp;omega
  simp only[Array.toList_setIfInBounds];generalize cs.toList=l at*;have b:(l.set (off+k) u).take (off+(k+1))=l.take (off+k)++ [u]:=by
   rw[←dN,List.take_succ_eq_append_getElem (by simp_all),List.take_set_of_le (Xj _)];simp
  grind [List.drop_set_of_lt]
end
section
variable{w0:World}{F:CS}{nt:Slots}{G0 G:GH}{ν:Nat->Nu}{objs:af}{nx:Nat}{st ai:St}{a:Act}{w w':World}{P:Program}{T:Tab}
def Done(P:Program)(w0:World)(F:CS)(nt:Slots)(G0:GH)(o:Oper)(a:Act)(w:World)(ai:St):Prop:=
 ∃n v w' G' ν',(execOp a.eval o).run P w= .ok n w'/\(n= .value v\/(n= .skip/\v=undef))/\Rel w0 F nt G0 G' ν' ai (a.put o.dst v) w'
theorem GO(e:Rel w0 F nt G0 G ν st a w):∀(l) (b),ly st l=some b->
  b.length=l.length/\∀(j:Nat) (p) (q),b[j]?=some p->l[j]?=some q->p.1=q.1/\AValRel G ν st.nx p.2 (a.eval q.2)
 | [],b,h=>by simp[ly]at h;simp_all
 |(i,x)::l,b,h=>by
  simp only[ly]at h;split at h
  .rename_i y ys h1 h2;injection h with h;subst h;obtain⟨f,g⟩:=GO e l ys h2;refine⟨by simp[f],λj p q c d=>?_⟩;cases j with
   |zero=>simp at c d;subst c d;exact⟨rfl,WO e x _ h1⟩
   |succ j=>grind
  grind
theorem Tv(w:au P T){fs}{place}
  (g:∀(i off) (a:TypeId) (te),fs[i]?=some (off,a)->Wt T a=some te->place i=some (off,te.size)) (f:∀(i off:Nat) (a:TypeId) (te),fs[i]?=some (off,a)->Wt T a=some te->te.plain=true):
  ∀(l) (ps) (cs dv) (vs),CellsRel G ν nx cs vs.toList->ps.length=l.length->
   (∀(j:Nat) (p) (q),l[j]?=some p->ps[j]?=some q->p.1=q.1/\AValRel G ν nx p.2 q.2)->sq T fs l cs=some dv->
   ∃b,Instr.fill place vs ps=some b/\CellsRel G ν nx dv b.toList
 | [],[],cs,dv,vs,d,_,_,h=>by simp[sq]at h;subst h;exact⟨vs,rfl,d⟩
 |(i,x)::l,[],_,_,_,_,e,_,_=>by simp at e
 | [],_::_,_,_,_,_,e,_,_=>by simp at e
 |(i,x)::l,(i',v)::ps,cs,dv,vs,d,e,o,h=>by
  obtain⟨n,r⟩:=o 0 _ _ rfl rfl;simp only at n r;subst n;simp only[sq]at h;split at h
  .rename_i off a hf;split at h
   .rename_i te ds cu kc;split at h
    .rename_i bX;simp only[Xh,Wh]at bX;obtain⟨A,B⟩:=bX;obtain⟨m,_⟩:=zO r kc;have z:v.cells.size=ds.length:=by have:=m.1;omega
     have E:vs.size=cs.length:=by have:=d.1;omega
     have y:=f _ _ _ _ hf cu;have k:=My v.cells.toList off 0 vs (by simp;omega);simp only[c9,fW]at k;have s:CellsRel G ν nx (lB cs off ds) (v.cells.toList.zipIdx.foldl (λcs (c,j)=>cs.setIfInBounds (off+j) c) vs).toList:=by
      rw[k];have:=Gs (off:=off) d m;omega
     obtain⟨b,t,u⟩:=Tv w g f l ps _ dv _ s (by simp_all) (λj p q C D=>o (j+1) p q (by simp_all) (by simp_all)) h;refine⟨b,?_,u⟩;simp only[Instr.fill,g _ _ _ _ hf cu];rw[We (by grind [W4])];rw[←t];congr 1;rw[←Array.foldl_toList];simp
    grind
   grind
  grind
theorem Si{α β:Type}(f:α->Sem β)(g):∀(l:List α),(∀x∈l,(f x).run P w= .ok (g x) w)->(l.mapM f).run P w= .ok (l.map g) w
 | [],_=>by simp
 |x::l,h=>by
  simp only[EX,Sem.run_bind,h x (Xl ..),Result.andThen_ok,Si f g l (λy a=>h y (Xg _ a)),Sem.run_pure,bn]
theorem Wn0{α β:Type}(f:α->Sem β)(g)(l:Array α)(h:∀x∈l,(f x).run P w= .ok (g x) w):(l.mapM f).run P w= .ok (l.map g) w:=by
 rw[Array.mapM_eq_mapM_toList];simp only[Sem.run_map,Si f g l.toList (λx a=>h x (by simp_all)),Result.andThen_ok];congr 1
 grind
theorem Wra(m:au P T)(v:Rel w0 F nt G0 G ν st a w){o:Oper}(I:∀d,o.dst=some d->nt.Ok d){t}{parts}(K:o.op= .build t parts)
  {ty} {fs} {ps} {cs} (J:Wt T t=some ⟨ty,true,.struct fs⟩) (B:ly st parts.toList=some ps) (h:sq T fs ps (m5 ty)=some cs)
  (r:∀f∈fs,∃c,Wt T f.2=some c/\c.plain=true):
  Done P w0 F nt G0 o a w (st.put o.dst (.s (.agg cs))):=by
 have n:=m _ _ J;obtain⟨_,b,L,R,_⟩:=n.und;obtain⟨z,M,C⟩:=zZ (w:=w) n;obtain⟨D,S⟩:=GO v _ _ B;have A:∀f∈b,∃c,Wt T f.type=some c/\c.plain=true:=λf h=>r (f.offset,f.type) (by grind)
 let k:Field->Nat:=λf=>match Wt T f.type with|some c=>c.size|none=>0
 have y:(b.mapM λf=>(do pure (f.offset,←sizeOf f.type):Sem (Nat×Nat))).run P w= .ok (b.map λf=>(f.offset,k f)) w:=by
  refine Wn0 _ (λf=>(f.offset,k f)) b (λf h=>?_);obtain⟨c,e,_⟩:=A f h;simp[k,(m _ _ e).sizeOf,e]
 have N:∀(i off:Nat) (g:TypeId) (c:TE),fs[i]?=some (off,g)->Wt T g=some c->(b.map λf=>(f.offset,k f))[i]?=some (off,c.size):=λi off g c u e=>by
  grind
 have O:CellsRel G ν st.nx (m5 ty) z.cells.toList:=by
  rw[C];exact H5 ty
 obtain⟨l,E,H⟩:=Tv m N (λi off g c u e=>by
   obtain⟨Q,U,V⟩:=r _ (List.mem_of_getElem? u);simp_all) ps (parts.toList.map λp=>(p.1,a.eval p.2)) _ cs z.cells O (by simp[D]) (λj p q W X=>by
   grind) h
 refine⟨.value (.agg l),.agg l,w,G,ν,?_,.inl rfl,v.put I ⟨l.toList,by simp,H⟩⟩;simp only[execOp,K,Instr.build,Sem.run_bind,M,Result.andThen_ok,Wm L,y];have:(parts.map λx=>match x with|(i,x)=>(i,a.eval x)).toList=parts.toList.map λp=>(p.1,a.eval p.2):=by simp
 rw[this,E];rfl
theorem Wrk(b:au P T)(f:Rel w0 F nt G0 G ν st a w){o:Oper}(c:∀d,o.dst=some d->nt.Ok d){t}(i:o.op= .alloc t){te}(e:Wt T t=some te)(j:te.plain=true):
  Done P w0 F nt G0 o a w (st.new o.dst (.box (m5 te.ty)) (.s (.one (.ptr st.nx 0)))):=by
 obtain⟨z,k,g⟩:=zZ (w:=w) (b _ _ e);obtain⟨ν',h⟩:=XY (t:=t) (vs:=z.cells) f c (cs:=m5 te.ty) (by grind [vc,H5]);refine⟨_,_,_,G,ν',?_,.inl rfl,h⟩;simp_all [execOp,Instr.alloc,Sem.run_bind,Result.andThen_ok,newVar,zC,Sem.run_pure]
theorem Wly(g:au P T)(l:Rel w0 F nt G0 G ν st a w){o:Oper}(i:∀d,o.dst=some d->nt.Ok d){t}(p:o.op= .alloc t){e}{n}{et}(j:Wt T t=some ⟨e,true,.arr n et⟩)(b:e.data=true)(m:Wx n=true):
  Done P w0 F nt G0 o a w (st.new o.dst (.arr e (Xp n e.dflt)) (.s (.one (.aptr st.nx)))):=by
 obtain⟨z,q,f⟩:=zZ (w:=w) (g _ _ j);have k:n<=maxLen:=by grind [Wx,maxLen]
 have c:z.cells.size=n*e.size:=by
  grind [fW,TE.cells,Hs,nJ]
 obtain⟨_,ν',h⟩:=NC (t:=t) (vs:=z.cells) l i (e:=e) b (xs:=Xp n e.dflt) (cap:=n) (cs:=rep (cE e) n) (by simp) k c (Ad b n) (by rw[f];exact List.prefix_refl _) w rfl rfl rfl rfl;refine⟨_,_,_,G,ν',?_,.inl rfl,h⟩;simp_all [execOp,Instr.alloc,Sem.run_bind,Result.andThen_ok,newVar,zC,Sem.run_pure]
theorem WvB(b:Rel w0 F nt G0 G ν st a w){o:Oper}(f:∀d,o.dst=some d->nt.Ok d){t}{x}(g:o.op= .box t x){v}{cs}(i:ev st x=some v)(e:kq v=some cs):
  Done P w0 F nt G0 o a w (st.new o.dst (.box cs) (.s (.one (.ptr st.nx 0)))):=by
 obtain⟨c,_⟩:=zO (WO b x _ i) e;obtain⟨ν',h⟩:=XY (t:=t) b f c;refine⟨_,_,_,G,ν',?_,.inl rfl,h⟩;simp only[execOp,g,Instr.box,Sem.run_bind,Result.andThen_ok,newVar,zC,Sem.run_pure]
theorem Wsu(f:au P T)(b:Rel w0 F nt G0 G ν st a w){o:Oper}(g:∀d,o.dst=some d->nt.Ok d){r}(h:b5 T st o.op=some (true,r)):Done P w0 F nt G0 o a w (st.put o.dst r):=by
 obtain⟨v,c,e⟩:=WqV f b h;exact⟨_,v,w,G,ν,c,.inl rfl,b.put g e⟩
end
theorem L5{t a:Ty}{d}{d'}(h:D1 t a d=some d'):∃e:t=a,e▸d=d':=by
 grind [D1]
theorem j3{e e':Ty}{d:List e.den}{d':List e'.den}(h:jy e e' d=some d'):∃a:e=e',a▸d=d':=by
 grind [jy]
theorem WtR{A a:Type}(b:A=a)(h:List A=List a)(l)(i):cast h (l.take i)=(cast h l).take i:=by
 grind
theorem Wuu{A a:Type}(b:A=a)(h:List A=List a)(l)(i):cast h (l.drop i)=(cast h l).drop i:=by
 grind
theorem Wry(e)(l)(i):dX e (l.take i)=(dX e l).take i:=WtR (lD e).symm _ l i
theorem Wro(e)(l)(i):dX e (l.drop i)=(dX e l).drop i:=Wuu (lD e).symm _ l i
section
variable{w0:World}{F:CS}{G G':GH}{ν:Nat->Nu}{φ:Nat->CS}{objs:af}{nx:Nat}{w:World}
def Lent(G':GH)(w:World)(φ:Nat->CS)(objs:af)(l:List Nat):Prop:=∀a∈l,Live objs a->Froz G' w (φ a)
theorem Lent.mono{l m}(h:Lent G' w φ objs m)(c:∀i∈l,i∈m):Lent G' w φ objs l:=λa b=>h a (c a b)
theorem CellsRel.single{c}{vs}(h:CellsRel G ν nx [c] vs):∃v,vs= [v]/\CellRel G ν nx c v/\v.oneCell'=true:=by
 obtain⟨a,b⟩:=h
 match vs,a with
 | [v],_=>exact⟨v,rfl,b 0 c v rfl rfl⟩
theorem GP{t}{c}{d}{v}(f:GLe G G')(h:CellRel G ν nx c v)(a:n9 t c=some d):Enc G' t d [v]:=by
 unfold n9 at a;split at a
 .obtain⟨e,b⟩:=L5 a;subst e;simp only at b;subst b;exact jc f _ _ _ h
 grind
theorem FromL.mono{m m'}(h:∀i∈m,i∈m'):CS.le (FromL φ objs m) (FromL φ objs m'):=λb o ⟨i,c,a⟩=>⟨i,h i c,a⟩
theorem FromL.one{i}{m}(hi:i∈m)(a:Live objs i):CS.le (φ i) (FromL φ objs m):=λb o h=>⟨i,hi,a,h⟩
theorem FromL.disj(h:HR w0 F G ν φ objs nx w){m m'}(f:∀i∈m,i∉m'):CS.disj (FromL φ objs m) (FromL φ objs m'):=λb o ⟨i,g,a,c⟩ ⟨j,k,d,e⟩=>by
 have:=h.inj i j b o a d c e;simp_all
theorem CS.disj.mono{A B A' B'}(h:CS.disj A B)(a:CS.le A' A)(c:CS.le B' B):CS.disj A' B':=λb o d e=>h b o (a b o d) (c b o e)
theorem CS.disj.symm{A B}(h:CS.disj A B):CS.disj B A:=λb o a c=>h b o c a
theorem NV{l m}{A B}(a:Sep l)(b:Sep m)(c:∀s∈l,CS.le s A)(d:∀s∈m,CS.le s B)(e:CS.disj A B):Sep (l++m):=
 ef.2 ⟨a,b,λs f t g=>e.mono (c s f) (d t g)⟩
theorem UM{l1 l2 l3}(d:Sep (l1++l3))(f:Sep l2)(c:∀s∈l2,∀t∈l1++l3,CS.disj s t):Sep (l1++(l2++l3)):=by
 obtain⟨e,g,h⟩:=ef.1 d;refine ef.2 ⟨e,ef.2 ⟨f,g,λs b t a=>c s b t (Xi _ a)⟩,λs b t a=>?_⟩;rcases Xo.1 a with a|a
 .exact(c t a s (Xm _ b)).symm
 simp_all
theorem GT{b off i n cap}(hi:i<cap){S}(g:CS.le (rng b off (i*n)) S)(h:CS.le (rng b (off+i*n) n) S)(j:CS.le (rng b (off+(i+1)*n) ((cap-(i+1))*n)) S):CS.le (rng b off (cap*n)) S:=λa o ⟨e,f,m⟩=>by
 have k:(i+1)*n=i*n+n:=fC i n;have l:(cap-(i+1))*n+(i+1)*n=cap*n:=by rw[←kR];grind
 by_cases c:o<off+i*n
 .exact g a o ⟨e,f,c⟩
 .by_cases d:o<off+i*n+n
  .exact h a o ⟨e,by omega,d⟩
  .exact j a o ⟨e,by omega,by omega⟩
theorem WuM{b a n c m}(h:a+n<=c):CS.disj (rng b a n) (rng b c m):=λd o ⟨_,e,f⟩ ⟨_,g,i⟩=>by omega
theorem V4{e}{nu np}{xs}{i}{S S1 S2}(h:lR w (WD G w e) e.size nu np xs i S){d}{vs}{ns}(H:WD G w e d vs ns)
  {b} (Z:np.blk=some b) (I:Mem w b np.off vs) (u:CS.le (rng b np.off e.size) S1) (g:Sep (ns.map Pc.fp)) (l:∀p∈ns,CS.le p.fp S2) (N:CS.disj S S1) (v:CS.disj S S2) (O:CS.disj S1 S2)
  {S'} (l1:CS.le S S') (l2:CS.le S1 S') (l3:CS.le S2 S'):aq w (WD G w e) e.size nu (xs.set i d) S':=by
 obtain⟨h1,T,U,B,V,r,W,h7,X,Y,L,M,z,A,D,P,Q,g4,R,y⟩:=h;rw[Z]at r;injection r with r;subst r;have C:=ia (λx c q hx=>WI e x c q hx) _ _ _ D;rw[ca,mg (by omega)]at C;have K:=WI _ _ _ _ H;have e1:(i+1)*e.size=i*e.size+e.size:=fC i e.size;refine⟨by simp_all,T,?_⟩;simp only[V];have E:=y _ (Xl ..);have F:=y _ (Xg _ (Xl ..));have k:∀s∈(z++A).map Pc.fp,CS.le s S:=λs g=>y s (Xg _ (Xg _ g));obtain⟨q1,q2⟩:=Xw.1 R;obtain⟨q3,J⟩:=Xw.1 q2;rw[W]at I u;refine⟨by simp_all,X,Y,L++(vs++M),z++(ns++A),VV U D H P,?_,Xw.2 ⟨λs a=>?_,?_⟩,λs a=>?_⟩
 .refine Q.app (n:=i*e.size) ?_ C;refine I.app (n:=e.size) ?_ K
  grind
 .
  simp only[Xy,Xo]at a;have m:∀s,(CS.disj s (rng b nu.off (i*e.size)))->CS.disj s (rng b (nu.off+i*e.size) e.size)->CS.disj s (rng b (nu.off+(i+1)*e.size) ((nu.cap-(i+1))*e.size))->CS.disj (rng b nu.off (nu.cap*e.size)) s:=λs k1 k2 k3 B o mo lE=>
   (GT (show i<nu.cap by omega) (S:=λb o=>¬s b o) (λb o f g=>k1 b o g f) (λb o f g=>k2 b o g f) (λb o f g=>k3 b o g f) B o mo) lE
  have BK:∀s∈(z++A).map Pc.fp,CS.disj (rng b nu.off (nu.cap*e.size)) s:=λs g=>m s (q1 s (Xg _ g)).symm (N.mono (k s g) u) (q3 s g).symm;rcases a with a|a|a
  .simp_all
  .obtain⟨p,j,rfl⟩:=Xx.1 a;exact m _ (v.mono E (l p j)).symm (O.mono u (l p j)).symm (v.mono F (l p j)).symm
  simp_all
 .rw[Xy,Xy];rw[Xy]at J k;refine UM J g (λs a t ht=>?_);obtain⟨p,j,rfl⟩:=Xx.1 a;exact(v.mono (k t ht) (l p j)).symm
 .rcases Xq.1 a with rfl|a
  .exact GT (show i<nu.cap by omega) (λb o f=>l1 b o (E b o f)) (λb o f=>l2 b o (u b o f)) (λb o f=>l1 b o (F b o f))
  .simp only[Xy,Xo]at a;rcases a with a|a|a
   .exactλb o f=>l1 b o (k s (by simp_all) b o f)
   .obtain⟨p,j,rfl⟩:=Xx.1 a
    exactλb o f=>l3 b o (l p j b o f)
   .exactλb o f=>l1 b o (k s (by simp_all) b o f)
def Nu.part(n:Nu)(lo hi:Nat):Nu:=⟨n.blk,if n.cap=lo then n.off else n.off+lo*n.esz,hi-lo,n.cap-lo,n.esz⟩
theorem VK{n:Nu}{lo hi}:(n.part lo hi).hdr=n.vhdr lo hi:=by
 unfold Nu.hdr Nu.vhdr Nu.part;cases n.blk<;>rfl
theorem Vo{e}{nu}{xs}{S}{lo hi}(h:aq w (WD G w e) e.size nu xs S)(h1:lo<=hi)(h2:hi<=nu.len):aq w (WD G w e) e.size (nu.part lo hi) ((xs.take hi).drop lo) S:=by
 obtain⟨Z,l,m⟩:=h;refine⟨by simp[Nu.part];omega,l,?_⟩;show match nu.blk with|none=>_|some b=>_
 cases hb:nu.blk with
 |none=>simp_all
 |some b=>
  simp only[hb]at m;obtain⟨g4,g5,B,y,O,C,n,D,U⟩:=m;obtain⟨u,W,N,p2,H,I,J,k4⟩:=Ds xs y O hi C;obtain⟨X,z,q1,P,K,L,M,t⟩:=Ds (xs.take hi) u N lo J;have r:=ia (λx c q F=>WI e x c q F) _ _ _ M;rw[ca,ca,mg (by omega)]at r;have Y:(nu.cap-lo)*e.size+lo*e.size=nu.cap*e.size:=by rw[←kR];grind
  have V:((xs.take hi).drop lo).length=hi-lo:=by simp;omega
  by_cases p:nu.cap=lo
  .have h0:(xs.take hi).drop lo= []:=ee (by omega);have A:nu.cap-lo=0:=by omega
   simp only[Nu.part,Wf p,A,Nat.zero_mul,c9];rw[h0]at t⊢;refine⟨kP _,kP _,?_,[],[],⟨rfl,rfl⟩,λj v E=>by simp at E,Xw.2 ⟨by simp,List.Pairwise.nil⟩,λs a=>?_⟩
   .obtain⟨R,T,d,f⟩:=B;exact⟨R,T,d,by omega⟩
   .simp at a;subst a
    exactλb o ⟨_,d,f⟩=>Wy f (by omega)
  .simp only[Nu.part,We p,l];have k:CS.le (rng b (nu.off+lo*e.size) ((nu.cap-lo)*e.size)) (rng b nu.off (nu.cap*e.size)):=λg o ⟨Q,d,f⟩=>⟨Q,by omega,by omega⟩;refine⟨by omega,by omega,?_,z,P,t,?_,?_,λs a=>?_⟩
   .grind
   .rw[H,K,List.append_assoc]at n;exact(n.right r).left
   .obtain⟨d,f⟩:=Xw.1 D;rw[I,L,Xy,Xy]at d f;refine Xw.2 ⟨λs a=>(d s (Xm _ (Xi _ a))).mono k (λ_ _ i=>i),?_⟩
    grind
   .rcases Xq.1 a with rfl|a
    .exactλg o i=>U _ (Xl ..) g o (k g o i)
    simp_all
theorem WuA{e}{nu}{xs}{S}{lo hi}(h:aq w (WD G w e) e.size nu xs S)(a:lo<=hi)(b:hi<=nu.len):aq w (WD G w e) e.size (nu.part lo hi) (List.drop lo (List.take hi xs)) S:=Vo h a b
theorem WrM(B:GLe G G'){e}{nu np}{xs}{i}{S S1}(h:lR w (WD G w e) e.size nu np xs i S){d}{vs}(A:Enc G' e.ro d vs)
  {b} (R:np.blk=some b) (C:Mem w b np.off vs) (D:CS.le (rng b np.off e.size) S1) (m:Froz G' w S) (I:Froz G' w S1):n8 G' (Enc G' e.ro) ((dX e xs).set i d) nu.hdr:=by
 obtain⟨N,h2,h3,Y,O,l,P,h7,Q,h9,c1,c2,U,V,u,y,J,K,g5,o⟩:=h;rw[R]at l;injection l with l;subst l;have H:=ia (λx c q f=>WI e x c q f) _ _ _ u;have T:=ia (λx c q f=>WI e x c q f) _ _ _ y;rw[ca,mg (by omega)]at H;rw[kO]at T;have F:=c3 _ _ _ A;rw[ik]at F;have Z:(i+1)*e.size=i*e.size+e.size:=fC i e.size;rw[P]at C D;have L:=o _ (Xl ..);have M:=o _ (Xg _ (Xl ..));have z:∀p∈U++V,Froz G' w p.fp:=λp k=>m.mono (o _ (Xg _ (Xg _ (eG k))));have mL:(xs.length-(i+1))*e.size<=(nu.cap-(i+1))*e.size:=gA _ (by omega);have s:=Hj (λx c p k f=>vt B e x c p k f) _ _ _ (λq r=>z q (Xm _ r)) u;have t:=Hj (λx c p k f=>vt B e x c p k f) _ _ _ (λq r=>z q (Xi _ r)) y;rw[Wry]at s;rw[Wro]at t;have E:(dX e xs).length=xs.length:=GU e xs;have g:(dX e xs).set i d=(dX e xs).take i++(d::(dX e xs).drop (i+1)):=by
  rw[Xey,Wf (by omega)]
 unfold Nu.hdr;simp only[O];refine .inr (.inl ⟨b,nu.off,nu.cap,c1++(vs++c2),by rw[List.length_set,E,N],by grind,Q,?_,λj v a=>?_⟩)
 .rw[g];exact F9 _ _ _ _ s ⟨vs,c2,rfl,A,t⟩
 .have s1:nW G' b nu.off c1:=J.stored (n:=i*e.size) (by omega) (m.mono L);have W:nW G' b (nu.off+i*e.size) vs:=C.stored (n:=e.size) (by omega) (I.mono D);have X:nW G' b (nu.off+(i+1)*e.size) c2:=K.stored (n:=(nu.cap-(i+1))*e.size) (by omega) (m.mono M);rw[fh]at a;split at a
  .exact s1 j v a
  .rename_i fv;rw[fh]at a;split at a
   .have:=W _ v a
    grind
   .have:=X _ v a
    grind
theorem Wrf{α}{R}{n}(i:∀x c,R x c->c.length=n){nu:Nu}{xs:List α}(h:n8 G R xs nu.hdr)(z:xs.length=nu.len)(u:nu.esz=n){lo hi}(H:lo<=hi)(I:hi<=nu.len)(t:nu.blk=none->hi=0)(w:nu.blk≠none->nu.len<=nu.cap/\nu.cap<=maxLen):
  n8 G R ((xs.take hi).drop lo) (nu.vhdr lo hi):=by
 unfold Nu.hdr at h;unfold Nu.vhdr;cases hb:nu.blk with
 |none=>
  have:=t hb;refine .inl ⟨rfl,ee (by simp;omega)⟩
 |some b=>
  obtain⟨K,J⟩:=w (by grind);simp only[hb]at h;have k:((xs.take hi).drop lo).length=hi-lo:=by simp;omega
  by_cases s:hi-lo=0
  .refine .inr (.inr ⟨_,nu.cap-lo,by rw[s],ee (by omega)⟩)
  .rcases h with⟨e,_⟩|⟨A,y,d,l,e,E,F,q,r⟩|⟨a,d,e,B⟩
   .cases e
   .injection e with f C m;injection f with f;injection f with o p D;subst o p m;rw[We (by omega)];refine .inr (.inl ⟨b,nu.off+lo*nu.esz,nu.cap-lo,(l.take (hi*n)).drop (lo*n),by rw[k],by omega,by omega,Du i _ _ lo (Dq i _ _ hi q),λj v g=>?_⟩);rw[ma,mc]at g;split at g
    .rw[dN,u];exact r _ _ g
    grind
   simp_all
def Leaf(ν:Nat->Nu)(t:Ty)(cs:List Cell)(c:List Pc):Prop:=∀(a k r:Nat),ii t a=some k->cs[k]?=some (.own r)->∃b,c[a]?=some b/\b.nu=ν r
theorem Gw:∀(t) (c k),ii t c=some k->c<t.owns/\k<t.size
 | .own _,c,k,h=>by
  cases c with
  |zero=>simp[ii]at h;subst h;exact⟨Nat.one_pos,Nat.one_pos⟩
  |succ n=>simp[ii]at h
 | .prod a b,c,k,h=>by
  simp only[ii]at h;split at h
  .obtain⟨d,e⟩:=Gw a c k h;exact⟨by show _<a.owns+b.owns;omega,by show _<a.size+b.size;omega⟩
  .obtain⟨j,f,rfl⟩:=Xz.1 h;obtain⟨d,e⟩:=Gw b _ j f;exact⟨by show _<a.owns+b.owns;omega,by show _<a.size+b.size;omega⟩
 | .int _,_,_,h=>by simp[ii]at h
 | .bool,_,_,h=>by simp[ii]at h
 | .str,_,_,h=>by simp[ii]at h
 | .slice _,_,_,h=>by simp[ii]at h
theorem Leaf.none{ν}{t}{cs}{ns}(h:t.owns=0):Leaf ν t cs ns:=λb k r a c=>by
 have:=(Gw t b k a).1;omega
theorem ZN{ν}{e}{c}{ns}(a:∀r,c≠ .own r):Leaf ν (.own e) [c] ns:=λf k r b d=>by
 grind
theorem ga(h:HR w0 F G ν φ objs nx w)(D:GLe G G'):∀(t) (cs) (vs) (d) (m l),CellsRel G ν nx cs vs->Lent G' w φ objs l->m.Nodup->
  aC t cs objs=some (d,m,l)->∃T,WD G' w t d vs T/\Sep (T.map Pc.fp)/\(∀p∈T,CS.le p.fp (FromL φ objs m))/\(∀i∈m,Live objs i)/\(∀i∈l,Live objs i)/\Leaf ν t cs T
 | .prod a b,cs,vs,d,m,l,u,H,P,f=>by
  simp only[aC]at f;split at f
  .rename_i x m1 l1 y m2 l2 Q R;simp only[Option.some.injEq,Prod.mk.injEq]at f;obtain⟨rfl,rfl,rfl⟩:=f;obtain⟨n1,n2,n3⟩:=List.nodup_append.1 P;obtain⟨q1,U,s1,h4,h5,h5',f1⟩:=ga h D a _ (vs.take a.size) x m1 l1 (u.take _) (H.mono (by simp_all)) n1 Q;obtain⟨q2,h6,s2,h7,h8,wx,f2⟩:=ga h D b _ (vs.drop a.size) y m2 l2 (u.drop _) (H.mono (by simp_all)) n2 R;refine⟨q1++q2,⟨_,_,q1,q2,(List.take_append_drop a.size vs).symm,rfl,U,h6⟩,?_,?_,?_,?_,?_⟩
   .rw[Xy];refine NV s1 s2 (A:=FromL φ objs m1) (B:=FromL φ objs m2) (λs hs=>?_) (λs hs=>?_) (FromL.disj h (λi E X=>n3 i E i X rfl))
    .grind
    grind
   .intro p O b o L;rcases Xo.1 O with O|O
    .exact FromL.mono (λi E=>Xm _ E) b o (h4 p O b o L)
    .exact FromL.mono (λi E=>Xi _ E) b o (h7 p O b o L)
   .grind
   .grind
   .intro lf k r k1 k2;have hq:=gG _ _ _ _ U;simp only[ii]at k1;split at k1
    .rename_i ab;obtain⟨_,hk⟩:=Gw a lf k k1;obtain⟨pc,k3,k4⟩:=f1 lf k r k1 (by simp_all)
     grind
    .obtain⟨j,X,rfl⟩:=Xz.1 k1;obtain⟨pc,k3,k4⟩:=f2 _ j r X (by simp_all)
     grind
  grind
 | .own e,cs,vs,d,m,l,u,H,P,f=>by
  simp only[aC]at f;split at f
  .rename_i id;obtain⟨v,rfl,⟨_,q⟩,_⟩:=u.single;subst q;have qr:∀{S:CS},Leaf ν (.own e) [.own id] [⟨ν id,S⟩]:=λ{S} lf k r k1 k2=>by
    cases lf with
    |zero=>
     simp[ii]at k1;simp_all
    |succ n=>simp[ii]at k1
   obtain⟨⟨ys,m'⟩,g,f⟩:=Xz.1 f;simp only[Prod.mk.injEq]at f;obtain⟨rfl,rfl,rfl⟩:=f;unfold H1 at g;split at g
   .rename_i e' xs z;obtain⟨Z,J,g⟩:=Xz.1 g;have g:=Prod.mk.inj g;obtain⟨rfl,rfl⟩:=g;obtain⟨K,C⟩:=j3 J;subst K;simp only at C;subst C;have N:Live objs id:=⟨_,z,by simp⟩;have I:aq w (WD G w e') e'.size (ν id) xs (φ id):=h.ob _ _ z;refine⟨[⟨ν id,φ id⟩],⟨_,rfl,rfl,vq D (Same.refl _ w) (λ_ _ L=>L) I⟩,sJ _ _,?_,?_,by simp,qr⟩
    .simp_all [FromL.one]
    simp_all
   .rename_i e' xs i p z;split at g
    .rename_i Z dv J W;split at g
     .rename_i d' m'' tG;simp only[Option.some.injEq,Prod.mk.injEq]at g;obtain⟨rfl,rfl⟩:=g;obtain⟨K,C⟩:=j3 J;subst K;simp only at C;subst C;obtain⟨n1,n2⟩:=cx.1 P;obtain⟨n3,n4⟩:=cx.1 n2;have N:Live objs id:=⟨_,z,by simp⟩;have gX:Live objs p:=⟨_,W,by simp⟩;obtain⟨pF,M⟩:p<nx/\lR w (WD G w e') e'.size (ν id) (ν p) xs i (φ id):=h.ob _ _ z;obtain⟨b,us,hb,bv,aK,V,Y⟩:dQ G ν nx w p (φ p) (.box dv):=h.ob _ _ W;obtain⟨T,t1,t2,t3,t4,_,_⟩:=ga h D e' dv us d' m'' [] V (λi E=>by simp at E) n4 tG;have eS:=WI _ _ _ _ t1;have tK:=Tq D (Same.refl _ w) (λ_ _ L=>L) M;rw[←V.1,eS]at Y;have bP:id≠p:=λe=>n1 (by simp_all);refine⟨[⟨ν id,FromL φ objs (id::p::m'')⟩],⟨_,rfl,rfl,V4 tK t1 hb aK Y t2 t3 ?_ ?_ ?_ ?_ ?_ ?_⟩,sJ _ _,?_,?_,by simp,qr⟩
      .exactλb o Q R=>bP (h.inj id p b o N gX Q R)
      .exactλb o Q ⟨j,X,R,U⟩=>by
        have:=h.inj id j b o N R Q U;simp_all
      .exactλb o Q ⟨j,X,R,U⟩=>by
        have:=h.inj p j b o gX R Q U;simp_all
      .simp_all [FromL.one]
      .simp_all [FromL.one]
      .grind [FromL.mono,Xg]
      .intro p O;simp at O;subst O;exactλ_ _ L=>L
      simp_all
     grind
    grind
   grind
  .rename_i id lo E;obtain⟨v,rfl,⟨_,g1,g2,g3,q⟩,_⟩:=u.single;subst q;split at f
   .rename_i e' xs z;obtain⟨Z,J,f⟩:=Xz.1 f;have f:=And.intro (Prod.mk.inj f).1 (Prod.mk.inj (Prod.mk.inj f).2);obtain⟨rfl,rfl,rfl⟩:=f;obtain⟨K,C⟩:=j3 J;subst K;simp only at C;subst C;have N:Live objs id:=⟨_,z,by simp⟩;have I:aq w (WD G w e') e'.size (ν id) xs (φ id):=h.ob _ _ z;refine⟨[⟨(ν id).part lo E,φ id⟩],⟨_,rfl,by rw[VK],WuA (vq D (Same.refl _ w) (λ_ _ L=>L) I) g1 g2⟩,sJ _ _,?_,?_,by simp,ZN (by simp_all)⟩
    .simp_all [FromL.one]
    simp_all
   grind
  .simp only[Option.some.injEq,Prod.mk.injEq]at f;obtain⟨rfl,rfl,rfl⟩:=f;obtain⟨v,rfl,q,_⟩:=u.single;simp only[CellRel]at q;subst q;exact⟨[⟨⟨none,0,0,0,e.size⟩,λ_ _=>False⟩],⟨_,rfl,rfl,rfl,rfl,rfl⟩,sJ _ _,λp O b o L=>by simp_all,by simp,by simp,ZN (by simp_all)⟩
  grind
 | .slice e,cs,vs,d,m,l,u,H,P,f=>by
  simp only[aC]at f;split at f
  .rename_i id;obtain⟨v,rfl,⟨_,q⟩,_⟩:=u.single;subst q;obtain⟨⟨ys,l'⟩,g,f⟩:=Xz.1 f;simp only[Prod.mk.injEq]at f;obtain⟨rfl,rfl,rfl⟩:=f;unfold Ym at g;split at g
   .rename_i e' xs z;obtain⟨Z,J,g⟩:=Xz.1 g;have g:=Prod.mk.inj g;obtain⟨rfl,rfl⟩:=g;obtain⟨K,C⟩:=j3 J;subst K;simp only at C;subst C;have N:Live objs id:=⟨_,z,by simp⟩;have I:aq w (WD G w e') e'.size (ν id) xs (φ id):=h.ob _ _ z;refine⟨[],⟨rfl,_,rfl,Mu D (H id (by simp) N) I⟩,List.Pairwise.nil,by simp,by simp,?_,Leaf.none rfl⟩;simp_all
   .rename_i e' xs i p z;split at g
    .rename_i Z dv J W;split at g
     .rename_i d' l'' tG;simp only[Option.some.injEq,Prod.mk.injEq]at g;obtain⟨rfl,rfl⟩:=g;obtain⟨K,C⟩:=j3 J;subst K;simp only at C;subst C;have N:Live objs id:=⟨_,z,by simp⟩;have gX:Live objs p:=⟨_,W,by simp⟩;obtain⟨pF,M⟩:p<nx/\lR w (WD G w e') e'.size (ν id) (ν p) xs i (φ id):=h.ob _ _ z;obtain⟨b,us,hb,bv,aK,V,Y⟩:dQ G ν nx w p (φ p) (.box dv):=h.ob _ _ W;obtain⟨T,t1,t2,t3,t4,t5,_⟩:=ga h D e'.ro dv us d' [] l'' V (H.mono (λi E=>Xg _ (Xg _ E))) qC tG;obtain⟨t6,_⟩:=(nI e'.ro d' us T (Nz e')).1 t1;have eS:=c3 _ _ _ t6;rw[ik]at eS;rw[←V.1,eS]at Y;refine⟨[],⟨rfl,_,rfl,WrM D M t6 hb aK Y (H id (by simp) N) (H p (by simp) gX)⟩,List.Pairwise.nil,by simp,by simp,?_,Leaf.none rfl⟩;simp_all
     grind
    grind
   grind
  .rename_i id lo E;obtain⟨v,rfl,⟨_,g1,g2,g3,q⟩,_⟩:=u.single;subst q;split at f
   .rename_i e' xs z;obtain⟨Z,J,f⟩:=Xz.1 f;have f:=And.intro (Prod.mk.inj f).1 (Prod.mk.inj (Prod.mk.inj f).2);obtain⟨rfl,rfl,rfl⟩:=f;obtain⟨K,C⟩:=j3 J;subst K;simp only at C;subst C;have N:Live objs id:=⟨_,z,by simp⟩;have I:aq w (WD G w e') e'.size (ν id) xs (φ id):=h.ob _ _ z;have kx:=Mu D (H id (by simp) N) I;refine⟨[],⟨rfl,_,rfl,?_⟩,List.Pairwise.nil,by simp,by simp,?_,Leaf.none rfl⟩
    .refine Wrf (n:=e'.size) (λx c u=>by grind [ik,c3]) kx (by rw[GU];exact I.1) I.2.1 g1 g2 g3 (λhb=>?_);cases tL:(ν id).blk with
     |none=>simp_all
     |some b=>
      have:=I.2.2;simp only[tL]at this;exact⟨by rw[←I.1];omega,this.2.1⟩
    simp_all
   grind
  .simp only[Option.some.injEq,Prod.mk.injEq]at f;obtain⟨rfl,rfl,rfl⟩:=f;obtain⟨v,rfl,q,_⟩:=u.single;simp only[CellRel]at q;subst q;exact⟨[],⟨rfl,_,rfl,.inl ⟨rfl,rfl⟩⟩,List.Pairwise.nil,by simp,by simp,by simp,Leaf.none rfl⟩
  .rename_i c _ _ _;cases gV:n9 (.slice e) c with
   |none=>simp_all
   |some x=>
    simp only[gV,me,Option.some.injEq,Prod.mk.injEq]at f;obtain⟨rfl,rfl,rfl⟩:=f;obtain⟨v,rfl,q,_⟩:=u.single;exact⟨[],⟨rfl,GP D q gV⟩,List.Pairwise.nil,by simp,by simp,by simp,Leaf.none rfl⟩
  grind
 | .int k,cs,vs,d,m,l,u,H,P,f=>by
  simp only[aC]at f;split at f
  .rename_i c;cases gV:n9 (.int k) c with
   |none=>simp_all
   |some x=>
    simp only[gV,me,Option.some.injEq,Prod.mk.injEq]at f;obtain⟨rfl,rfl,rfl⟩:=f;obtain⟨v,rfl,q,_⟩:=u.single;exact⟨[],⟨rfl,GP D q gV⟩,List.Pairwise.nil,by simp,by simp,by simp,Leaf.none rfl⟩
  grind
 | .bool,cs,vs,d,m,l,u,H,P,f=>by
  simp only[aC]at f;split at f
  .rename_i c;cases gV:n9 .bool c with
   |none=>simp_all
   |some x=>
    simp only[gV,me,Option.some.injEq,Prod.mk.injEq]at f;obtain⟨rfl,rfl,rfl⟩:=f;obtain⟨v,rfl,q,_⟩:=u.single;exact⟨[],⟨rfl,GP D q gV⟩,List.Pairwise.nil,by simp,by simp,by simp,Leaf.none rfl⟩
  grind
 | .str,cs,vs,d,m,l,u,H,P,f=>by
  simp only[aC]at f;split at f
  .rename_i c;cases gV:n9 .str c with
   |none=>simp_all
   |some x=>
    simp only[gV,me,Option.some.injEq,Prod.mk.injEq]at f;obtain⟨rfl,rfl,rfl⟩:=f;obtain⟨v,rfl,q,_⟩:=u.single;exact⟨[],⟨rfl,GP D q gV⟩,List.Pairwise.nil,by simp,by simp,by simp,Leaf.none rfl⟩
  grind
theorem Uy(h:HRel w0 F G ν objs nx w){t}{cs}{vs}{d}(b:CellsRel G ν nx cs vs)(g:t.data=true)(c:aC t cs objs=some (d,[],[])):Enc G t d vs:=by
 obtain⟨φ,h⟩:=h;obtain⟨j,f,_⟩:=ga (G':=G) h (λ_ _ _ e=>e) t cs vs d [] [] b (λi a=>by simp at a) qC c
 grind [nI]
end
section
variable{w0:World}{F:CS}{nt:Slots}{G0 G G':GH}{ν ν':Nat->Nu}{φ:Nat->CS}{objs objs':af}{nx am:Nat}{st ai:St}{a:Act}{w w':World}{P:Program}{T:Tab}{Γ:Ctx}
theorem Mo(i:Nat):∀(l:List Nat),dz i l=true↔i∈l
 | []=>by simp[dz]
 |j::l=>by
  simp only[dz,Bool.or_eq_true,Mo i l,Xq];simp_all
open Classical in
noncomputable def lS(G:GH)(w:World)(S:CS):GH:=λb o=>if S b o then w.cell? ⟨b,o,none⟩else G b o
theorem XV{S:CS}{b o:Nat}(h:S b o):lS G w S b o=w.cell? ⟨b,o,none⟩:=by unfold lS;rw[Wf h]
theorem rG{S:CS}{b o:Nat}(h:¬S b o):lS G w S b o=G b o:=by unfold lS;rw[We h]
theorem ML(S:CS):Froz (lS G w S) w S:=λb o v a c=>by grind [XV]
theorem HR.addG_le(h:HR w0 F G ν φ objs nx w)(l:List Nat):GLe G (lS G w (FromL φ objs l)):=λb o v a=>by
 by_cases e:FromL φ objs l b o
 .obtain⟨i,_,c,d⟩:=e;rw[h.gf i b o c d]at a;cases a
 grind [rG]
theorem HR.addG_w(h:HR w0 F G ν φ objs nx w)(l:List Nat):∀b o v,lS G w (FromL φ objs l) b o=some v->w.cell? ⟨b,o,none⟩=some v:=λb o v a=>by
 by_cases c:FromL φ objs l b o
 .grind [XV]
 .rw[rG c]at a;exact h.g b o v a
theorem HRel.freezeL(h:HRel w0 F G ν objs nx w)(q:GExt w0.heap.size F G0 G)(l:List Nat):∃c,GLe G c/\HRel w0 F c ν (Sx.kill objs l) nx w/\GExt w0.heap.size F G0 c/\
  ∀p∈l,∀(e:Ty) (xs:List e.den),Wt objs p=some (.arr e xs)->n8 c (Enc c e.ro) (dX e xs) (ν p).hdr:=by
 obtain⟨φ,h⟩:=h;have f:=h.addG_le l;refine⟨lS G w (FromL φ objs l),f,⟨φ,?_⟩,⟨λb o v d=>f b o v (q.le b o v d),λb o v d=>?_⟩,λp u e xs s=>?_⟩
 .exact{
   g:=h.addG_w l
   ob:=λj ob a=>by
    by_cases n:ob= .dead
    .subst n;trivial
    .obtain⟨a,r⟩:=Dv l j ob a n;exact C9 f (Same.refl _ w) (λ_ _ y=>y) (λ_ _=>rfl) (Xj _) (h.lt j ⟨ob,a,n⟩) ob (h.ob j ob a)
   gf:=λj b o a t=>by
    obtain⟨a,r⟩:=zM a;rw[rG (λ⟨i,hi,k,m⟩=>r (by rw[h.inj j i b o a k t m];exact hi))];exact h.gf j b o a t
   inj:=λj z b o a x=>h.inj j z b o (zM a).1 (zM x).1
   own:=λj b o a=>h.own j b o (zM a).1
   lt:=λj a=>h.lt j (zM a).1
   bl:=λj b o a=>h.bl j b o (zM a).1
   le:=h.le}
 .by_cases hs:FromL φ objs l b o
  .obtain⟨i,_,k,m⟩:=hs;exact .inr (h.own i b o k m)
  .rw[rG hs]at d;exact q.new b o v d
 .exact Mu f ((ML _).mono (FromL.one u ⟨_,s,by simp⟩)) (h.ob _ _ s)
structure Frz(w0:World)(F:CS)(nt:Slots)(G0 G:GH)(ν:Nat->Nu)(st:St)(l:List Nat)(a:Act)(w:World)(G1:GH):Prop where
 le:GLe G G1
 rel:Rel w0 F nt G0 G1 ν {env:=st.env,objs:=kill st.objs l,nx:=st.nx} a w
 sl:∀id∈l,∀(e:Ty) (xs:List e.den),Wt st.objs id=some (.arr e xs)->n8 G1 (Enc G1 e.ro) (dX e xs) (ν id).hdr
theorem Rel.frz(h:Rel w0 F nt G0 G ν st a w)(l:List Nat):∃G1,Frz w0 F nt G0 G ν st l a w G1:=by
 obtain⟨G1,b,c,d,e⟩:=h.h.freezeL h.gx l;exact⟨G1,b,h.on b (λ_ _=>rfl) (Xj _) c d,e⟩
theorem Frz.cell{l:List Nat}{j:GH}(h:Frz w0 F nt G0 G ν st l a w j):∀(c:Cell) (v:Value),CellRel G ν st.nx c v->CellRel j ν st.nx (Hx st.objs l c) v:=by
 have b:=λc v (g:CellRel G ν st.nx c v)=>CellRel.mono (G':=j) (ν':=ν) (am:=st.nx) h.le (λ_ _=>rfl) (Xj _) c v g;intro c v g;cases c with
 |own id=>
  simp only[Hx];cases he:dz id l with
  |false=>simp_all
  |true=>
   simp only[Wa];have k:=(Mo id l).1 he;split
   .rename_i e xs ho;obtain⟨_,m⟩:=g;rw[m];exact⟨_,rfl,h.sl id k e xs ho⟩
   .trivial
 |vw id lo hi=>exact b _ v g
 |val t d=>exact b _ v g
 |nils=>exact b _ v g
 |aptr id=>exact b _ v g
 |ptr id off=>exact b _ v g
 |eptr id i off=>exact b _ v g
 |rptr t d off=>exact b _ v g
 |clos f caps=>exact b _ v g
 |junk=>trivial
theorem Frz.val{l:List Nat}{b:GH}(h:Frz w0 F nt G0 G ν st l a w b):∀(x:AVal) (v:Value),AValRel G ν st.nx x v->AValRel b ν st.nx (se st.objs l x) v
 | .s (.one c),v,hx=>⟨h.cell c v hx.1,hx.2⟩
 | .s (.agg cs),v,⟨n,m,k,e⟩=>by
  refine⟨n,m,by simp[k],λj c u f i=>?_⟩;rw[d5]at f;obtain⟨d,g,rfl⟩:=Xz.1 f;exact⟨h.cell d u (e j d u g i).1,(e j d u g i).2⟩
 | .tup xs,v,hx=>AValRel.mono h.le (λ_ _=>rfl) (Xj _) (.tup xs) v hx
end
end Go.Sx
