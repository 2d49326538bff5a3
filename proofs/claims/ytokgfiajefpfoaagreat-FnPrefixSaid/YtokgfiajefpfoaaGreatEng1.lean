/- The abstract machine, part 1: a reflective interpreter of the program's code over data, with its soundness over the model. -/
import Derived.WalkKit
import Derived.LoopN
import Derived.KernelRfl
import Derived.ProofKit
import Derived.OpenShut
import Derived.JoinedCond
open Nat renaming beq→eb,blt→Ip,succ_mul→gz,add_comm→qG,add_assoc→eK,lt_of_lt_of_le→mb,mul_le_mul_right→iv,min_eq_left→fV,add_zero→eL,eq_of_beq_eq_true→B2,add_mul→lC,le_refl→Xl,zero_le→iw,le_trans→jR,le_succ→B7,lt_succ_self→nn
open List renaming length→Xb,getD→Xc,append→Xe,replicate→Xt,length_append→Xx,length_cons→Xu,drop_drop→B5,take_length_add_append→XD,drop_left→XO,getElem?_append→hG,getElem?_take→mu,getElem?_drop→mn,mem_append_left→Xm,mem_append_right→Xh,set_eq_take_append_cons_drop→VZ,getElem?_eq_some_iff→fe,mem_cons_of_mem→Xf,mem_map_of_mem→fU,mem_cons_self→Xg,mem_singleton→bH,length_take→di,length_drop→Fa,pairwise_cons→bq,getElem?_eq_getElem→Xp,mapM_cons→Fi,map_cons→bK,getElem?_map→ff,eq_nil_of_length_eq_zero→Xv,length_map→Xy,map_nil→cV,map_toArray→B6,mem_map→Xz,mem_cons→Xs,pairwise_append→dx,mem_append→Xn,map_append→Xw,pairwise_singleton→tN,nodup_cons→cC,nodup_nil→qE
open Bool renaming and_eq_true→Xj
open Option renaming map_some→mz,map_eq_some_iff→dw
open Array renaming getElem?_setIfInBounds_ne→V4,length_toList→gX
namespace Go.Sx
abbrev Wa:=@if_neg
abbrev Wb:=@if_pos
abbrev Wf:=@decide_eq_true
abbrev Wl:=@decide_eq_false
abbrev Wg:=@decide_eq_true_eq
abbrev Wy:=@decide_eq_false_iff_not
abbrev Wx:=@of_decide_eq_true
abbrev Wi:=@absurd
abbrev Wp:=@congrArg
abbrev ep:=@if_true
abbrev gH:=@if_false
theorem We{A:Type}(a b:A):cond true a b=a:=rfl
theorem Wc{A:Type}(a b:A):cond false a b=b:=rfl
inductive Ty where
 |int (k:IntKind)|bool|str|slice (e:Ty)|own (e:Ty)|prod (a b:Ty)
 deriving DecidableEq
def Ty.den:Ty->Type
 | .int _=>Int
 | .bool=>Bool
 | .str=>List UInt8
 | .slice e=>List e.den
 | .own e=>List e.den
 | .prod a b=>a.den×b.den
def Ty.size:Ty->Nat
 | .prod a b=>a.size+b.size
 |_=>1
def Ty.dflt:(t:Ty)->t.den
 | .int _=>(0:Int)
 | .bool=>false
 | .str=>([]:List UInt8)
 | .slice e=>([]:List e.den)
 | .own e=>([]:List e.den)
 | .prod a b=>(a.dflt,b.dflt)
def Ty.noRo:Ty->Bool
 | .slice _=>false
 | .own e=>e.noRo
 | .prod a b=>a.noRo&&b.noRo
 |_=>true
def Ty.ro:Ty->Ty
 | .own e=>.slice e.ro
 | .slice e=>.slice e
 | .prod a b=>.prod a.ro b.ro
 | .int k=>.int k
 | .bool=>.bool
 | .str=>.str
theorem lP:∀t:Ty,t.ro.den=t.den
 | .own e=>Wp List (lP e)
 | .slice _=>rfl
 | .prod a b=>by show(a.ro.den×b.ro.den)=(a.den×b.den);rw[lP a,lP b]
 | .int _| .bool| .str=>rfl
def tp(t:Ty)(d:t.den):t.ro.den:=cast (lP t).symm d
def fi(t:Ty)(l:List t.den):List t.ro.den:=cast (Wp List (lP t).symm) l
def Ey(t a:Ty)(d:t.den):Option a.den:=
 if h:t=a then some (h▸d)else none
def ki(e a:Ty)(l:List e.den):Option (List a.den):=
 if h:e=a then some (h▸l)else none
inductive Cell where
 |val (t:Ty) (d:t.den)
 |nils
 |own (id:Nat)
 |vw (id lo hi:Nat)
 |aptr (id:Nat)
 |ptr (id off:Nat)
 |eptr (id i off:Nat)
 |rptr (t:Ty) (d:t.den) (off:Nat)
 |clos (f:FuncId) (caps:List Nat)
 |junk
inductive AV where
 |one (c:Cell)
 |agg (cs:List Cell)
inductive AVal where
 |s (x:AV)
 |tup (xs:List AV)
inductive Ob where
 |box (cs:List Cell)
 |arr (e:Ty) (xs:List e.den)
 |hole (e:Ty) (xs:List e.den) (i p:Nat)
 |dead
abbrev ad:=List (Nat×Ob)
structure St where
 env:List (Nat×AVal)
 objs:ad
 nx:Nat
universe u
def Wt{α:Type u}:List (Nat×α)->Nat->Option α
 | [],_=>none
 |(k,v)::l,i=>match eb k i with|true=>some v|false=>Wt l i
abbrev GH:=Nat->Nat->Option Value
abbrev CS:=Nat->Nat->Prop
def CS.disj(A B:CS):Prop:=∀b o,A b o->B b o->False
def CS.le(A B:CS):Prop:=∀b o,A b o->B b o
def rng(b lo n:Nat):CS:=λa o=>a=b/\lo<=o/\o<lo+n
def Sep(l:List CS):Prop:=l.Pairwise CS.disj
structure Nu where
 blk:Option Nat
 off:Nat
 len:Nat
 cap:Nat
 esz:Nat
def Nu.hdr(n:Nu):Value:=match n.blk with
 |none=>.slice none 0 0
 |some b=>.slice (some ⟨b,n.off,none⟩) n.len n.cap
def Nu.vhdr(n:Nu)(lo hi:Nat):Value:=match n.blk with
 |none=>.slice none 0 0
 |some b=>.slice (some ⟨b,if n.cap=lo then n.off else n.off+lo*n.esz,none⟩) (hi-lo) (n.cap-lo)
structure Pc where
 nu:Nu
 fp:CS
def ox(G:GH)(b off:Nat)(cs:List Value):Prop:=∀(j:Nat) (v:Value),cs[j]?=some v->G b (off+j)=some v
def b4{α:Type}(R:α->List Value->Prop):List α->List Value->Prop
 | [],cs=>cs= []
 |x::l,cs=>∃a b,cs=a++b/\R x a/\b4 R l b
def oF{α:Type}(G:GH)(R:α->List Value->Prop)(l:List α)(v:Value):Prop:=
 (v= .slice none 0 0/\l= [])\/
 (∃b d c e,v= .slice (some ⟨b,d,none⟩) l.length c/\l.length<=c/\c<=maxLen/\b4 R l e/\ox G b d e)\/
 ∃a c,v= .slice (some a) 0 c/\l= []
def Enc(G:GH):(t:Ty)->t.den->List Value->Prop
 | .int k,n,cs=>cs= [.int k n]
 | .bool,b,cs=>cs= [.bool b]
 | .str,s,cs=>cs= [.string ⟨List.toArray s⟩]
 | .slice e,l,cs=>∃v,cs= [v]/\oF G (Enc G e) l v
 | .own _,_,_=>False
 | .prod a b,d,cs=>∃c f,cs=c++f/\Enc G a d.1 c/\Enc G b d.2 f
def CellRel(G:GH)(ν:Nat->Nu)(nx:Nat):Cell->Value->Prop
 | .val t d,v=>Enc G t d [v]
 | .nils,v=>v= .slice none 0 0
 | .own a,v=>a<nx/\v=(ν a).hdr
 | .vw a lo hi,v=>a<nx/\lo<=hi/\hi<=(ν a).len/\((ν a).blk=none->hi=0)/\v=(ν a).vhdr lo hi
 | .aptr a,v=>a<nx/\∃b,(ν a).blk=some b/\v= .pointer (some ⟨b,(ν a).off,none⟩)
 | .ptr a off,v=>a<nx/\∃b,(ν a).blk=some b/\v= .pointer (some ⟨b,(ν a).off+off,none⟩)
 | .eptr a i off,v=>a<nx/\i<(ν a).len/\∃b,(ν a).blk=some b/\v= .pointer (some ⟨b,(ν a).off+(i*(ν a).esz+off),none⟩)
 | .rptr t d off,v=>∃b o e,v= .pointer (some ⟨b,o+off,none⟩)/\Enc G t d e/\ox G b o e
 | .clos f caps,v=>∃c:List Value,v= .func (.func f) #[] c.toArray/\c.length=caps.length/\
   ∀(j a:Nat) (u:Value),caps[j]?=some a->c[j]?=some u->a<nx/\u.oneCell'=true/\∃b,(ν a).blk=some b/\u= .pointer (some ⟨b,(ν a).off+0,none⟩)
 | .junk,_=>True
def CellsRel(G:GH)(ν:Nat->Nu)(nx:Nat)(cs:List Cell)(vs:List Value):Prop:=
 vs.length=cs.length/\∀(j:Nat) (c:Cell) (v:Value),cs[j]?=some c->vs[j]?=some v->CellRel G ν nx c v/\v.oneCell'=true
def AvRel(G:GH)(ν:Nat->Nu)(nx:Nat):AV->Value->Prop
 | .one c,v=>CellRel G ν nx c v/\v.oneCell'=true
 | .agg cs,v=>∃a:List Value,v= .agg a.toArray/\CellsRel G ν nx cs a
def Nv(G:GH)(ν:Nat->Nu)(nx:Nat)(xs:List AV)(vs:List Value):Prop:=
 vs.length=xs.length/\∀(j:Nat) (x:AV) (v:Value),xs[j]?=some x->vs[j]?=some v->AvRel G ν nx x v
def AValRel(G:GH)(ν:Nat->Nu)(nx:Nat):AVal->Value->Prop
 | .s x,v=>AvRel G ν nx x v
 | .tup xs,v=>∃a:List Value,v= .tuple a.toArray/\Nv G ν nx xs a
def Row(w:World)(b n:Nat):Prop:=∃a T,w.heap[b]?=some (.cells a T (0,0))/\n<=a.size
def Mem(w:World)(b o:Nat)(vs:List Value):Prop:=∀(j:Nat) (v:Value),vs[j]?=some v->w.cell? ⟨b,o+j,none⟩=some v
def cJ{α:Type}(R:α->List Value->List Pc->Prop):List α->List Value->List Pc->Prop
 | [],a,ps=>a= []/\ps= []
 |x::l,a,ps=>∃b c d e,a=b++c/\ps=d++e/\R x b d/\cJ R l c e
def aF{α:Type}(w:World)(R:α->List Value->List Pc->Prop)(n:Nat)(nu:Nu)(xs:List α)(S:CS):Prop:=
 xs.length=nu.len/\nu.esz=n/\match nu.blk with
  |none=>xs= []
  |some b=>xs.length<=nu.cap/\nu.cap<=maxLen/\Row w b (nu.off+nu.cap*n)/\∃c a,cJ R xs c a/\Mem w b nu.off c/\
    Sep (rng b nu.off (nu.cap*n)::a.map Pc.fp)/\∀s∈rng b nu.off (nu.cap*n)::a.map Pc.fp,CS.le s S
def WF(G:GH)(w:World):(t:Ty)->t.den->List Value->List Pc->Prop
 | .own e,j,c,ns=>∃p:Pc,ns= [p]/\c= [p.nu.hdr]/\aF w (WF G w e) e.size p.nu j p.fp
 | .prod a b,d,c,ns=>∃h i f g,c=h++i/\ns=f++g/\WF G w a d.1 h f/\WF G w b d.2 i g
 | .int k,d,c,ns=>ns= []/\Enc G (.int k) d c
 | .bool,d,c,ns=>ns= []/\Enc G .bool d c
 | .str,d,c,ns=>ns= []/\Enc G .str d c
 | .slice e,d,c,ns=>ns= []/\Enc G (.slice e) d c
def mW{α:Type}(w:World)(R:α->List Value->List Pc->Prop)(n:Nat)(nu f:Nu)(xs:List α)(i:Nat)(S:CS):Prop:=
 xs.length=nu.len/\nu.esz=n/\i<xs.length/\∃b,nu.blk=some b/\f.blk=some b/\f.off=nu.off+i*n/\xs.length<=nu.cap/\nu.cap<=maxLen/\Row w b (nu.off+nu.cap*n)/\
  ∃d e a c,cJ R (xs.take i) d a/\cJ R (xs.drop (i+1)) e c/\Mem w b nu.off d/\Mem w b (nu.off+(i+1)*n) e/\
   Sep (rng b nu.off (i*n)::rng b (nu.off+(i+1)*n) ((nu.cap-(i+1))*n)::(a++c).map Pc.fp)/\
   ∀s∈rng b nu.off (i*n)::rng b (nu.off+(i+1)*n) ((nu.cap-(i+1))*n)::(a++c).map Pc.fp,CS.le s S
def fc(G:GH)(ν:Nat->Nu)(nx:Nat)(w:World)(a:Nat)(S:CS):Ob->Prop
 | .box cs=>∃b c,(ν a).blk=some b/\Row w b ((ν a).off+cs.length)/\Mem w b (ν a).off c/\CellsRel G ν nx cs c/\CS.le (rng b (ν a).off cs.length) S
 | .arr e xs=>aF w (WF G w e) e.size (ν a) xs S
 | .hole e xs i p=>p<nx/\mW w (WF G w e) e.size (ν a) (ν p) xs i S
 | .dead=>True
def Live(objs:ad)(b:Nat):Prop:=∃a,Wt objs b=some a/\a≠ .dead
structure WLe(F:CS)(w w':World):Prop where
 size:w.heap.size<=w'.heap.size
 row:∀(b:Nat) (vs:Array Value) (T:TypeId),w.heap[b]?=some (Obj.cells vs T (0,0))->∃aC:Array Value,w'.heap[b]?=some (Obj.cells aC T (0,0))/\aC.size=vs.size
 cell:∀(b o:Nat),b<w.heap.size->¬F b o->w'.cell? ⟨b,o,none⟩=w.cell? ⟨b,o,none⟩
 whole:∀(b:Nat),b<w.heap.size->(∀o,¬F b o)->w'.heap[b]?=w.heap[b]?
 os:w'.os=w.os
 output:w'.output=w.output
 tape:w'.tape=w.tape
structure HR(w0:World)(F:CS)(G:GH)(ν:Nat->Nu)(φ:Nat->CS)(objs:ad)(nx:Nat)(w:World):Prop where
 g:∀b o v,G b o=some v->w.cell? ⟨b,o,none⟩=some v
 ob:∀id ob,Wt objs id=some ob->fc G ν nx w id (φ id) ob
 gf:∀id b o,Live objs id->φ id b o->G b o=none
 inj:∀id cz b o,Live objs id->Live objs cz->φ id b o->φ cz b o->id=cz
 own:∀id b o,Live objs id->φ id b o->w0.heap.size<=b\/F b o
 lt:∀id,Live objs id->id<nx
 bl:∀id b o,Live objs id->φ id b o->b<w.heap.size
 le:WLe F w0 w
def HRel(w0:World)(F:CS)(G:GH)(ν:Nat->Nu)(objs:ad)(nx:Nat)(w:World):Prop:=∃φ,HR w0 F G ν φ objs nx w
structure GExt(B:Nat)(F:CS)(G G':GH):Prop where
 le:∀b o v,G b o=some v->G' b o=some v
 new:∀b o v,G' b o=some v->G b o=some v\/B<=b\/F b o
structure Slots where
 n:Nat
 kept:List (Nat×Value)
def Slots.Ok(s:Slots)(d:Nat):Prop:=d<s.n/\∀p∈s.kept,p.1≠d
structure Rel(w0:World)(F:CS)(nt:Slots)(G0 G:GH)(ν:Nat->Nu)(st:St)(a:Act)(w:World):Prop where
 defers:a.defers= []
 ntm:a.tmps.size=nt.n
 par:∀p∈nt.kept,a.tmps[p.1]?=some p.2
 env:∀i x,Wt st.env i=some x->∃v,a.tmps[i]?=some v/\AValRel G ν st.nx x v
 h:HRel w0 F G ν st.objs st.nx w
 gx:GExt w0.heap.size F G0 G
set_option linter.unusedVariables false
inductive Shape where
 |basic|slice (e:TypeId)|struct (fs:List (Nat×TypeId))|ptr (e:TypeId)|arr (n:Nat) (e:TypeId)
structure TE where
 ty:Ty
 agg:Bool
 shape:Shape
abbrev Tab:=List (TypeId×TE)
def TE.plain(a:TE):Bool:=match a.shape with
 | .arr _ _=>false
 |_=>true
def Wm(k:IntKind)(a b:Int):Int:=k.wrap (a+b)
def W3(k:IntKind)(a b:Int):Int:=k.wrap (a-b)
def cE(k:IntKind)(a b:Int):Int:=k.wrap (a*b)
def gV(k:IntKind)(a b:Int):Int:=k.wrap (a.tdiv b)
def bp(a b:Int):Int:=a.tmod b
def tu(k:IntKind)(a b:Int):Int:=k.wrap (BitVec.ofInt k.bits a&&&BitVec.ofInt k.bits b).toNat
def ior(k:IntKind)(a b:Int):Int:=k.wrap (BitVec.ofInt k.bits a|||BitVec.ofInt k.bits b).toNat
def EX(k:IntKind)(a b:Int):Int:=k.wrap (BitVec.ofInt k.bits a^^^BitVec.ofInt k.bits b).toNat
def ZB(k:IntKind)(a b:Int):Int:=k.wrap (BitVec.ofInt k.bits a&&& ~~~BitVec.ofInt k.bits b).toNat
def K6(k:IntKind)(a b:Int):Int:=k.wrap (a*2^(min b.toNat k.bits))
def nj(k:IntKind)(a b:Int):Int:=a.fdiv (2^(min b.toNat k.bits))
def OS(a b:List UInt8):Bool:=!decide (((a.length+b.length:Nat):Int)>IntKind.i64.max)
def Wh{α:Type}(l:List α):Int:=(l.length:Int)
def inb(i:Int)(n:Nat):Bool:=decide (0<=i)&&decide (i<(n:Int))
def WC(n:Nat):Bool:=decide (n<=1073741824)
def HS(l:List Int):List UInt8:=l.map λn=>UInt8.ofNat n.toNat
def ieq(a b:Int):Bool:=a==b
def beq(a b:Bool):Bool:=a==b
def seq(a b:List UInt8):Bool:=a==b
def inz(b:Int):Bool:=!decide (b=0)
def inn(b:Int):Bool:=!decide (b<0)
def one(t:Ty)(d:t.den):AVal:=.s (.one (.val t d))
def K8(c:BinOp)(k:IntKind)(a b:Int):Option (Bool×AVal):=
 match c with
 | .add=>some (true,one (.int k) (Wm k a b))
 | .sub=>some (true,one (.int k) (W3 k a b))
 | .mul=>some (true,one (.int k) (cE k a b))
 | .quo=>some (inz b,one (.int k) (gV k a b))
 | .rem=>some (inz b,one (.int k) (bp a b))
 | .and=>some (true,one (.int k) (tu k a b))
 | .or=>some (true,one (.int k) (ior k a b))
 | .xor=>some (true,one (.int k) (EX k a b))
 | .andNot=>some (true,one (.int k) (ZB k a b))
 | .eql=>some (true,one .bool (a==b))
 | .neq=>some (true,one .bool (a !=b))
 | .lss=>some (true,one .bool (decide (a<b)))
 | .leq=>some (true,one .bool (decide (a<=b)))
 | .gtr=>some (true,one .bool (decide (a>b)))
 | .geq=>some (true,one .bool (decide (a>=b)))
 |_=>none
def KZ(c:BinOp)(a b:List UInt8):Option (Bool×AVal):=
 match c with
 | .add=>some (OS a b,one .str (a++b))
 | .eql=>some (true,one .bool (seq a b))
 | .neq=>some (true,one .bool (!seq a b))
 |_=>none
def Hz(e:TE)(c d:Cell):Option Bool:=
 match e,c,d with
 |⟨.int _,false,.basic⟩,.val (.int k) a,.val (.int k') b=>if k=k' then some (ieq a b)else none
 |⟨.bool,false,.basic⟩,.val .bool a,.val .bool b=>some (beq a b)
 |⟨.str,false,.basic⟩,.val .str a,.val .str b=>some (seq a b)
 |_,_,_=>none
def mJ(T:Tab):List TypeId->List Cell->List Cell->Option Bool
 | [],[],[]=>some true
 |t::ts,c::cs,d::ds=>match Wt T t with
  |some te=>match Hz te c d,mJ T ts cs ds with
   |some x,some y=>some (x&&y)
   |_,_=>none
  |none=>none
 |_,_,_=>none
def binOp(T:Tab)(c:BinOp)(t:TypeId)(x y:AVal):Option (Bool×AVal):=
 match x,y with
 | .s (.one (.val (.int k) a)),.s (.one (.val (.int k') b))=>
  match c with
  | .shl=>some (inn b,one (.int k) (K6 k a b))
  | .shr=>some (inn b,one (.int k) (nj k a b))
  |_=>if k=k' then K8 c k a b else none
 | .s (.one (.val .str a)),.s (.one (.val .str b))=>KZ c a b
 | .s (.one (.val .bool a)),.s (.one (.val .bool b))=>
  match Wt T t with
  |some ⟨.bool,false,.basic⟩=>
   match c with
   | .eql=>some (true,one .bool (beq a b))
   | .neq=>some (true,one .bool (!beq a b))
   |_=>none
  |_=>none
 | .s (.agg cs),.s (.agg ds)=>
  match Wt T t with
  |some ⟨_,true,.struct fs⟩=>
   if decide (fs.map (·.1)=List.range fs.length)then
    match c,mJ T (fs.map (·.2)) cs ds with
    | .eql,some b=>some (true,one .bool b)
    | .neq,some b=>some (true,one .bool (!b))
    |_,_=>none
   else none
  |_=>none
 |_,_=>none
def unOp(a:UnOp)(x:AVal):Option (Bool×AVal):=
 match a,x with
 | .not,.s (.one (.val .bool b))=>some (true,one .bool (!b))
 | .neg,.s (.one (.val (.int k) n))=>some (true,one (.int k) (W3 k 0 n))
 |_,_=>none
def split:(t:Ty)->t.den->List Cell
 | .prod a b,d=>split a d.1++split b d.2
 | .int k,d=>[.val (.int k) d]
 | .bool,d=>[.val .bool d]
 | .str,d=>[.val .str d]
 | .slice e,d=>[.val (.slice e) d]
 | .own e,d=>[.junk]
def iS:Value->Option Cell
 | .int k n=>some (.val (.int k) n)
 | .bool b=>some (.val .bool b)
 | .string s=>some (.val .str s.data.toList)
 | .slice none 0 0=>some .nils
 | .pointer none=>some .junk
 | .nilFunc=>some .junk
 |_=>none
def Ts:Value->Option AVal
 | .agg cs=>(cs.toList.mapM iS).map λl=>.s (.agg l)
 |v=>(iS v).map λc=>.s (.one c)
def ev(st:St):Operand->Option AVal
 | .tmp t=>Wt st.env t
 | .const v=>Ts v
 | .func f=>some (.s (.one (.clos f [])))
 | .global _=>none
def St.put(st:St)(dst:Option Tmp)(x:AVal):St:=
 match dst with
 |some d=>{st with env:=(d,x)::st.env}
 |none=>st
def sub(a:Bool)(cs:List Cell)(off n:Nat):Option AVal:=
 if a then(if off+n<=cs.length then some (.s (.agg ((cs.drop off).take n)))else none)
 else(cs[off]?).map λc=>.s (.one c)
def rR(T:Tab)(st:St)(t:TypeId)(x:AVal):Option AVal:=
 match Wt T t with
 |some te=>
  if te.plain then
   match x with
   | .s (.one (.ptr id off))=>match Wt st.objs id with
    |some (.box cs)=>sub te.agg cs off te.ty.size
    |_=>none
   | .s (.one (.eptr id i off))=>match Wt st.objs id with
    |some (.arr e xs)=>sub te.agg (split e (xs.getD i e.dflt)) off te.ty.size
    |_=>none
   | .s (.one (.rptr t' d off))=>sub te.agg (split t' d) off te.ty.size
   |_=>none
  else none
 |none=>none
def tg(k:IntKind)(xs:List Int):Nat->Nat->List Cell
 |_,0=>[]
 |i,n+1=>.val (.int k) (xs.getD i (0:Int))::tg k xs (i+1) n
def xe(T:Tab)(st:St)(t:TypeId)(x:AVal):Option (Bool×AVal):=
 match Wt T t with
 |some ⟨.int k,true,.arr n _⟩=>match x with
  | .s (.one (.aptr id))=>match Wt st.objs id with
   |some (.arr (.int k') xs)=>if k'=k then some (decide (Xb xs=n),.s (.agg (tg k xs 0 n)))else none
   |_=>none
  |_=>none
 |_=>none
def fJ(k:IntKind):List Cell->Option (List Int)
 | []=>some []
 | .val (.int k') d::cs=>if k'=k then(fJ k cs).map λl=>(d:Int)::l else none
 |_=>none
def asI:AVal->Option Int
 | .s (.one (.val (.int _) n))=>some n
 |_=>none
def asB:AVal->Option Bool
 | .s (.one (.val .bool b))=>some b
 |_=>none
def obL(o:Option Ob):Option (Bool×AVal):=match o with
 |some (.arr _ xs)=>some (true,one (.int .i64) (Wh xs))
 |some (.hole _ xs _ _)=>some (true,one (.int .i64) (Wh xs))
 |_=>none
def oD(T:Tab)(st:St)(t:TypeId)(x:AVal):Option (Bool×AVal):=
 match Wt T t,x with
 |some ⟨_,false,.slice _⟩,.s (.one (.val (.slice _) l))=>some (true,one (.int .i64) (Wh l))
 |some ⟨_,false,.slice _⟩,.s (.one .nils)=>some (true,one (.int .i64) (0:Int))
 |some ⟨_,false,.slice _⟩,.s (.one (.own id))=>obL (Wt st.objs id)
 |some ⟨_,false,.slice _⟩,.s (.one (.vw _ lo hi))=>some (true,one (.int .i64) ((hi-lo:Nat):Int))
 |some ⟨.str,false,.basic⟩,.s (.one (.val .str s))=>some (true,one (.int .i64) (Wh (α:=UInt8) s))
 |_,_=>none
def Eb(T:Tab)(t:TypeId)(f:Nat):Option (Nat×TE):=
 match Wt T t with
 |some ⟨_,_,.struct fs⟩=>match fs[f]? with
  |some (off,ft)=>match Wt T ft with
   |some te=>if te.plain then some (off,te)else none
   |none=>none
  |none=>none
 |_=>none
def Aq(T:Tab)(st:St)(t:TypeId)(x:AVal)(f:Nat):Option (Bool×AVal):=
 match Eb T t f,x with
 |some (off,_),.s (.one (.ptr id o))=>match Wt st.objs id with
  |some (.box _)=>some (true,.s (.one (.ptr id (o+off))))
  |_=>none
 |some (off,_),.s (.one (.eptr id i o))=>match Wt st.objs id with
  |some (.arr _ _)=>some (true,.s (.one (.eptr id i (o+off))))
  |_=>none
 |some (off,_),.s (.one (.rptr t' d o))=>some (true,.s (.one (.rptr t' d (o+off))))
 |_,_=>none
def Ng(T:Tab)(t:TypeId)(x:AVal)(f:Nat):Option (Bool×AVal):=
 match Eb T t f,x with
 |some (off,te),.s (.agg cs)=>(sub te.agg cs off te.ty.size).map λv=>(true,v)
 |_,_=>none
def obI(a:TE)(n:Int)(b:Nat)(o:Option Ob):Option (Bool×AVal):=match o with
 |some (.arr e xs)=>if a.ty=e.ro then some (inb n xs.length,.s (.one (.eptr b n.toNat 0)))else none
 |some (.hole e xs i p)=>if a.ty=e.ro then some (inb n xs.length&&eb n.toNat i,.s (.one (.ptr p 0)))else none
 |_=>none
def EV(b:TE)(n:Int)(a lo hi:Nat)(o:Option Ob):Option (Bool×AVal):=match o with
 |some (.arr e xs)=>if b.ty=e.ro then some (inb n (hi-lo),.s (.one (.eptr a (lo+n.toNat) 0)))else none
 |_=>none
def EZ(b:TE)(n:Int)(k a:Nat)(o:Option Ob):Option (Bool×AVal):=match o with
 |some (.arr e xs)=>if b.ty=e then some (inb n k&&decide (xs.length=k),.s (.one (.eptr a n.toNat 0)))else none
 |_=>none
def Ao(T:Tab)(st:St)(t:TypeId)(x i:AVal):Option (Bool×AVal):=
 match Wt T t,asI i with
 |some ⟨_,_,.slice et⟩,some n=>match Wt T et with
  |some te=>
   if te.plain then match x with
    | .s (.one (.val (.slice e) l))=>if te.ty=e then some (inb n (Xb l),.s (.one (.rptr e (Xc l n.toNat e.dflt) 0)))else none
    | .s (.one .nils)=>some (false,.s (.one .junk))
    | .s (.one (.own id))=>obI te n id (Wt st.objs id)
    | .s (.one (.vw id lo hi))=>EV te n id lo hi (Wt st.objs id)
    |_=>none
   else none
  |none=>none
 |some ⟨_,_,.arr k et⟩,some n=>match Wt T et with
  |some te=>
   if te.plain then match x with
    | .s (.one (.aptr id))=>EZ te n k id (Wt st.objs id)
    |_=>none
   else none
  |none=>none
 |_,_=>none
def Nh(T:Tab)(t:TypeId)(x i:AVal):Option (Bool×AVal):=
 match Wt T t,x,asI i with
 |some ⟨.str,_,.basic⟩,.s (.one (.val .str s)),some n=>some (inb n (Xb s),one (.int .u8) ((Xc s n.toNat 0).toNat:Int))
 |some ⟨.int k,_,.arr m et⟩,.s (.agg cs),some n=>match Wt T et with
  |some ⟨.int k',false,.basic⟩=>match fJ k cs with
   |some l=>if k'=k/\cs.length=m then some (inb n m,one (.int k) (Xc l n.toNat (0:Int)))else none
   |none=>none
  |_=>none
 |_,_,_=>none
def aX(n:Nat)(lo hi:Option Int):Bool×Nat×Nat:=
 match lo,hi with
 |none,none=>(true,0,n)
 |some l,none=>(decide (0<=l)&&decide (l<=(n:Int)),l.toNat,n)
 |none,some h=>(decide (0<=h)&&decide (h<=(n:Int)),0,h.toNat)
 |some l,some h=>(decide (0<=h)&&decide (h<=(n:Int))&&decide (0<=l)&&decide (l<=h),l.toNat,h.toNat)
def tw{α:Type}(l:List α)(lo hi:Option Int):List α:=
 match lo,hi with
 |none,none=>l
 |some a,none=>l.drop a.toNat
 |none,some b=>l.take b.toNat
 |some a,some b=>(l.take b.toNat).drop a.toNat
def gR(st:St):Option Operand->Option (Option Int)
 |none=>some none
 |some x=>((ev st x).bind asI).map some
def Hk(T:Tab)(st:St)(t:TypeId)(x:AVal)(lo hi:Option Operand):Option (Bool×AVal):=
 match Wt T t,x,gR st lo,gR st hi with
 |some ⟨.str,_,.basic⟩,.s (.one (.val .str s)),some l,some h=>some ((aX (Xb s) l h).1,one .str (tw s l h))
 |some ⟨_,_,.slice et⟩,.s (.one (.val (.slice e) xs)),some l,some h=>match Wt T et with
  |some te=>if te.ty=e/\te.plain then some ((aX (Xb xs) l h).1,one (.slice e) (tw xs l h))else none
  |none=>none
 |_,_,_,_=>none
def HT(st:St):AVal->Option Ob
 | .s (.one (.own id))=>Wt st.objs id
 |_=>none
def VN(T:Tab)(o:Option Ob)(a dst:TypeId)(x:AVal):Option (Bool×AVal):=
 match Wt T a,Wt T dst,x with
 |some ⟨.int _,false,.basic⟩,some ⟨.int k,false,.basic⟩,.s (.one (.val (.int _) n))=>some (true,one (.int k) (k.wrap n))
 |some ⟨.str,false,.basic⟩,some ⟨.str,false,.basic⟩,.s (.one (.val .str s))=>some (true,one .str s)
 |some ⟨_,_,.slice et⟩,some ⟨.str,false,.basic⟩,.s (.one c)=>
  match Wt T et with
  |some ⟨.int .u8,false,.basic⟩=>match c with
   | .val (.slice (.int .u8)) l=>some (true,one .str (HS l))
   | .nils=>some (true,one .str ([]:List UInt8))
   | .own _=>match o with
    |some (.arr (.int .u8) xs)=>some (true,one .str (HS xs))
    |_=>none
   |_=>none
  |_=>none
 |_,_,_=>none
def Bz(T:Tab)(st:St)(a dst:TypeId)(x:AVal):Option (Bool×AVal):=VN T (HT st x) a dst x
def BN(st:St)(x:AVal):Option (Bool×AVal):=
 match x with
 | .s (.one (.rptr _ _ _))=>some (true,x)
 | .s (.one (.ptr id _))=>match Wt st.objs id with
  |some (.box _)=>some (true,x)
  |_=>none
 | .s (.one (.eptr id _ _))| .s (.one (.aptr id))=>match Wt st.objs id with
  |some (.arr _ _)=>some (true,x)
  |_=>none
 |_=>none
def qf(st:St):List Operand->Option (List Nat)
 | []=>some []
 |o::l=>match ev st o,qf st l with
  |some (.s (.one (.ptr a 0))),some r=>some (a::r)
  |_,_=>none
def OQ(a b:Int):Int:=if b<a then b else a
def BR(a b:Int):Int:=if a<b then b else a
def BO(T:Tab)(st:St)(c:BinOp)(t:TypeId)(a b:AVal):Option (Bool×AVal):=
 match a,b with
 | .s (.one (.own id)),.s (.one .nils)=>match Wt T t with
  |some ⟨_,false,.slice _⟩=>match Wt st.objs id with
   |some (.arr _ xs)=>match c with
    | .eql=>some (Ip 0 xs.length,one .bool false)
    | .neq=>some (Ip 0 xs.length,one .bool true)
    |_=>none
   |_=>none
  |_=>none
 |_,_=>none
def cr(T:Tab)(st:St):Op->Option (Bool×AVal)
 | .move x| .assign x=>(ev st x).map λv=>(true,v)
 | .pick c a b=>match(ev st c).bind asB with
  |some p=>match ev st a,ev st b with
   |some (.s (.one (.val .bool x))),some (.s (.one (.val .bool y)))=>some (true,one .bool (bif p then x else y))
   |e,vb=>(bif p then e else vb).map λv=>(true,v)
  |none=>none
 | .load t a=>(ev st a).bind λv=>match xe T st t v with
  |some r=>some r
  |none=>(rR T st t v).map λr=>(true,r)
 | .nilCheck x=>(ev st x).bind (BN st)
 | .binOp op t x y _=>match ev st x,ev st y with
  |some a,some b=>match BO T st op t a b with
   |some r=>some r
   |none=>binOp T op t a b
  |_,_=>none
 | .unOp op _ x=>(ev st x).bind (unOp op)
 | .convert src dst x=>(ev st x).bind (Bz T st src dst)
 | .slice t x lo hi none=>(ev st x).bind λv=>Hk T st t v lo hi
 | .fieldAddr s x f=>(ev st x).bind λv=>Aq T st s v f
 | .field t x f=>(ev st x).bind λv=>Ng T t v f
 | .indexAddr t x i=>match ev st x,ev st i with
  |some a,some b=>Ao T st t a b
  |_,_=>none
 | .index t x i=>match ev st x,ev st i with
  |some a,some b=>Nh T t a b
  |_,_=>none
 | .extract t ix=>match ev st t with
  |some (.tup xs)=>(xs[ix]?).map λx=>(true,.s x)
  |_=>none
 | .makeFunc (.func f) first captured=>if first.isEmpty then(qf st captured.toList).map λd=>(true,.s (.one (.clos f d)))else none
 | .call c=>match c.callee,c.args.toList,c.argTypes.toList with
  | .builtin .len,[x],[t]=>(ev st x).bind (oD T st t)
  | .builtin .min,[x,y],[_,_]=>match ev st x,ev st y with
   |some (.s (.one (.val (.int k) a))),some (.s (.one (.val (.int k') b)))=>if k=k' then some (true,one (.int k) (OQ a b))else none
   |_,_=>none
  | .builtin .max,[x,y],[_,_]=>match ev st x,ev st y with
   |some (.s (.one (.val (.int k) a))),some (.s (.one (.val (.int k') b)))=>if k=k' then some (true,one (.int k) (BR a b))else none
   |_,_=>none
  |_,_,_=>none
 |_=>none
def mV:Ty->List Cell
 | .prod a b=>mV a++mV b
 | .int k=>[.val (.int k) (0:Int)]
 | .bool=>[.val .bool false]
 | .str=>[.val .str ([]:List UInt8)]
 | .slice _=>[.nils]
 | .own _=>[.junk]
def Ty.data:Ty->Bool
 | .own _=>false
 | .prod a b=>a.data&&b.data
 |_=>true
def unfold:(t:Ty)->t.den->Nat->List Cell×ad×Nat
 | .prod a b,d,nx=>
  let x:=unfold a d.1 nx
  let y:=unfold b d.2 x.2.2
  (x.1++y.1,x.2.1++y.2.1,y.2.2)
 | .own e,d,nx=>([.own nx],[(nx,.arr e d)],nx+1)
 | .int k,d,nx=>([.val (.int k) d],[],nx)
 | .bool,d,nx=>([.val .bool d],[],nx)
 | .str,d,nx=>([.val .str d],[],nx)
 | .slice e,d,nx=>([.val (.slice e) d],[],nx)
def oG(t:Ty)(c:Cell):Option t.den:=
 match c with
 | .val t' d=>Ey t' t d
 |_=>none
def HQ(e:Ty)(objs:ad)(c:List Cell->Option (e.den×List Nat×List Nat))(a:Nat):Option (List e.den×List Nat):=
 match Wt objs a with
 |some (.arr e' xs)=>(ki e' e xs).map λb=>(b,[a])
 |some (.hole e' xs i p)=>match ki e' e xs,Wt objs p with
  |some b,some (.box cs)=>match c cs with
   |some (d,m,[])=>some (b.set i d,a::p::m)
   |_=>none
  |_,_=>none
 |_=>none
def Vg(e:Ty)(objs:ad)(c:List Cell->Option (e.den×List Nat×List Nat))(a:Nat):Option (List e.den×List Nat):=
 match Wt objs a with
 |some (.arr e' xs)=>(ki e'.ro e (fi e' xs)).map λb=>(b,[a])
 |some (.hole e' xs i p)=>match ki e'.ro e (fi e' xs),Wt objs p with
  |some b,some (.box cs)=>match c cs with
   |some (d,[],l)=>some (b.set i d,a::p::l)
   |_=>none
  |_,_=>none
 |_=>none
def aY:(t:Ty)->List Cell->ad->Option (t.den×List Nat×List Nat)
 | .prod a b,f,objs=>match aY a (f.take a.size) objs,aY b (f.drop a.size) objs with
  |some (x,m,r),some (y,h,r')=>some ((x,y),m++h,r++r')
  |_,_=>none
 | .own e,f,objs=>match f with
  | [.own id]=>(HQ e objs (λf=>aY e f objs) id).map λp=>(p.1,p.2,[])
  | [.vw id lo hi]=>match Wt objs id with
   |some (.arr e' xs)=>(ki e' e xs).map λg=>((g.take hi).drop lo,[id],[])
   |_=>none
  | [.nils]=>some (([]:List e.den),[],[])
  |_=>none
 | .slice e,f,objs=>match f with
  | [.own id]=>(Vg e objs (λf=>aY e f objs) id).map λp=>(p.1,[],p.2)
  | [.vw id lo hi]=>match Wt objs id with
   |some (.arr e' xs)=>(ki e'.ro e (fi e' xs)).map λg=>((g.take hi).drop lo,[],[id])
   |_=>none
  | [.nils]=>some (([]:List e.den),[],[])
  | [c]=>(oG (.slice e) c).map λd=>(d,[],[])
  |_=>none
 | .int k,f,_=>match f with
  | [c]=>(oG (.int k) c).map λd=>(d,[],[])
  |_=>none
 | .bool,f,_=>match f with
  | [c]=>(oG .bool c).map λd=>(d,[],[])
  |_=>none
 | .str,f,_=>match f with
  | [c]=>(oG .str c).map λd=>(d,[],[])
  |_=>none
def ew(i:Nat):List Nat->Bool
 | []=>false
 |j::l=>eb i j||ew i l
def fL:List Nat->Bool
 | []=>true
 |i::l=>!ew i l&&fL l
def eqN:List Nat->List Nat->Bool
 | [],[]=>true
 |i::l,j::m=>eb i j&&eqN l m
 |_,_=>false
def lu(l m:List Nat):Bool:=l.all λi=>!ew i m
def kill(objs:ad):List Nat->ad
 | []=>objs
 |i::l=>(i,.dead)::kill objs l
def cellsOf(a:Bool):AVal->Option (List Cell)
 | .s (.one c)=>if a then none else some [c]
 | .s (.agg cs)=>if a then some cs else none
 | .tup _=>none
inductive PTy where
 |v (t:Ty) (agg:Bool)
 |box (t:Ty)
 |mut (e:Ty)
 |clos (g:FuncId) (n:Nat)
 |kv (t:Ty) (agg:Bool)
 |rp (t:Ty)
 |boxal (t:Ty) (lf:Nat)
 |vj (t:Ty)
def Ty.owns:Ty->Nat
 | .own _=>1
 | .prod a b=>a.owns+b.owns
 |_=>0
def c6:List PTy->Type
 | []=>Unit
 | .v t _::ps=>t.den×c6 ps
 | .box t::ps=>t.den×c6 ps
 | .mut e::ps=>List e.den×c6 ps
 | .clos _ _::ps=>c6 ps
 | .kv t _::ps=>t.den×c6 ps
 | .rp t::ps=>t.den×c6 ps
 | .vj _::ps=>c6 ps
 | .boxal t _::ps=>t.den×Nat×c6 ps
def dv:List PTy->Type
 | []=>Unit
 | .v _ _::ps=>dv ps
 | .box t::ps=>t.den×dv ps
 | .mut e::ps=>List e.den×dv ps
 | .clos _ _::ps=>dv ps
 | .kv t _::ps=>t.den×dv ps
 | .rp _::ps=>dv ps
 | .vj _::ps=>dv ps
 | .boxal t _::ps=>t.den×dv ps
def d7:List PTy->Type
 | []=>Unit
 | .v t _::rs=>t.den×d7 rs
 | .box t::rs=>t.den×d7 rs
 | .mut _::rs=>d7 rs
 | .clos _ _::rs=>d7 rs
 | .kv _ _::rs=>d7 rs
 | .rp _::rs=>d7 rs
 | .vj t::rs=>t.den×d7 rs
 | .boxal _ _::rs=>d7 rs
structure Kp where
 id:Nat
 off:Nat
def kp0(l:List Nat):List Kp:=l.map λi=>⟨i,0⟩
structure Args(ps:List PTy) where
 d:c6 ps
 moved:List Nat
 lent:List Nat
 kept:List Kp
 all:List Nat
def jD:Ty->Nat->Option Nat
 | .own _,n=>match n with
  |0=>some 0
  |_+1=>none
 | .prod a b,n=>if n<a.owns then jD a n else(jD b (n-a.owns)).map (a.size+ ·)
 | .int _,_=>none
 | .bool,_=>none
 | .str,_=>none
 | .slice _,_=>none
def Nw(objs:ad):Cell->AVal->Option Nat
 | .own r,.s (.one (.ptr p off))=>match off,Wt objs r with
  |0,some (.hole _ _ i p')=>if eb p p' then some i else none
  |_,_=>none
 | .own r,.s (.one (.eptr r' i off))=>match off,Wt objs r with
  |0,some (.arr _ _)=>if eb r r' then some i else none
  |_,_=>none
 |_,_=>none
def NB:Cell->Bool
 | .vw _ _ _=>false
 |_=>true
def Vc:AVal->Bool
 | .s (.one c)=>NB c
 | .s (.agg cs)=>cs.all NB
 | .tup _=>true
def EB(objs:ad)(t:Ty)(m:List Nat)(x:AVal):Bool:=decide (m.length=t.owns)&&Vc x&&m.all λa=>match Wt objs a with
 |some (.arr _ _)=>true
 |_=>false
def fS(l:List Nat):List AVal:=l.map λa=>.s (.one (.ptr a 0))
def fw:(f:List PTy)->List AVal->ad->Option (Args f)
 | [],a,_=>match a with
  | []=>some ⟨(),[],[],[],[]⟩
  |_=>none
 | .v t agg::f,a,objs=>match a with
  |x::a=>match(cellsOf agg x).bind λh=>aY t h objs,fw f a objs with
   |some (d,m,r),some A=>some ⟨(d,A.d),m++A.moved,r++A.lent,A.kept,m++A.all⟩
   |_,_=>none
  |_=>none
 | .box t::f,a,objs=>match a with
  | .s (.one (.ptr id b))::a=>match Wt objs id with
   |some (.box h)=>match aY t ((h.drop b).take t.size) objs,fw f a objs with
    |some (d,m,[]),some A=>some ⟨(d,A.d),m++A.moved,A.lent,⟨id,b⟩::A.kept,id::(m++A.all)⟩
    |_,_=>none
   |_=>none
  |_=>none
 | .mut e::f,a,objs=>match a with
  | .s (.one (.own id))::a=>match Wt objs id with
   |some (.arr e' ys)=>match ki e' e ys,fw f a objs with
    |some d,some A=>some ⟨(d,A.d),A.moved,A.lent,⟨id,0⟩::A.kept,id::A.all⟩
    |_,_=>none
   |_=>none
  |_=>none
 | .clos g n::f,a,objs=>match a with
  | .s (.one (.clos g' caps))::a=>if g'=g/\caps.length=n then(fw f (fS caps++a) objs).map λA=>⟨A.d,A.moved,A.lent,A.kept,A.all⟩else none
  |_=>none
 | .kv t agg::f,a,objs=>match a with
  |x::a=>match(cellsOf agg x).bind λh=>aY t h objs,fw f a objs with
   |some (d,m,r),some A=>if EB objs t m x then some ⟨(d,A.d),A.moved,r++A.lent,kp0 m++A.kept,m++A.all⟩else none
   |_,_=>none
  |_=>none
 | .rp t::f,a,objs=>match a with
  | .s (.one (.ptr id b))::a=>match Wt objs id with
   |some (.box h)=>match aY t ((h.drop b).take t.size) objs,fw f a objs with
    |some (d,[],r),some A=>if t.data then some ⟨(d,A.d),A.moved,id::(r++A.lent),A.kept,A.all⟩else none
    |_,_=>none
   |_=>none
  | .s (.one (.rptr t' d b))::a=>match aY t (((split t' d).drop b).take t.size) objs,fw f a objs with
   |some (d,[],[]),some A=>if t.data then some ⟨(d,A.d),A.moved,A.lent,A.kept,A.all⟩else none
   |_,_=>none
  |_=>none
 | .vj _::_,_,_=>none
 | .boxal t lf::f,a,objs=>match a with
  | .s (.one (.ptr id b))::y::a=>match Wt objs id with
   |some (.box h)=>match aY t ((h.drop b).take t.size) objs,fw f a objs,((jD t lf).bind λk=>((h.drop b).take t.size)[k]?).bind λc=>Nw objs c y with
    |some (d,m,[]),some A,some i=>some ⟨(d,i,A.d),m++A.moved,A.lent,⟨id,b⟩::A.kept,id::(m++A.all)⟩
    |_,_,_=>none
   |_=>none
  |_=>none
def eC:(t:Ty)->t.den->List Nat->ad
 | .own e,d,ids=>match ids with
  |id::_=>[(id,.arr e d)]
  | []=>[]
 | .prod a b,d,ids=>eC a d.1 (ids.take a.owns)++eC b d.2 (ids.drop a.owns)
 | .int _,_,_=>[]
 | .bool,_,_=>[]
 | .str,_,_=>[]
 | .slice _,_,_=>[]
def lO(cs:List Cell)(off:Nat)(a:List Cell):List Cell:=cs.take off++a++cs.drop (off+a.length)
def rS(o:Option Ob)(off:Nat)(a:List Cell):Ob:=match o with
 |some (.box cs)=>.box (lO cs off a)
 |_=>.dead
def ek:(b:List PTy)->dv b->List Kp->ad->Nat->ad×Nat
 | [],_,_,objs,nx=>(objs,nx)
 | .v _ _::b,o,a,objs,nx=>ek b o a objs nx
 | .box t::b,o,a,objs,nx=>match a with
  |k::a=>
   let x:=unfold t o.1 nx
   ek b o.2 a ((k.id,rS (Wt objs k.id) k.off x.1)::(x.2.1++objs)) x.2.2
  | []=>(objs,nx)
 | .mut e::b,o,a,objs,nx=>match a with
  |k::a=>ek b o.2 a ((k.id,.arr e o.1)::objs) nx
  | []=>(objs,nx)
 | .clos _ _::b,o,a,objs,nx=>ek b o a objs nx
 | .kv t _::b,o,a,objs,nx=>ek b o.2 (a.drop t.owns) (eC t o.1 ((a.take t.owns).map Kp.id)++objs) nx
 | .rp _::b,o,a,objs,nx=>ek b o a objs nx
 | .vj _::b,o,a,objs,nx=>ek b o a objs nx
 | .boxal t _::b,o,a,objs,nx=>match a with
  |k::a=>
   let x:=unfold t o.1 nx
   ek b o.2 a ((k.id,rS (Wt objs k.id) k.off x.1)::(x.2.1++objs)) x.2.2
  | []=>(objs,nx)
def EU(a:Bool)(cs:List Cell):AV:=if a then .agg cs else match cs with
 | [c]=>.one c
 |_=>.agg cs
def fy:(a:List PTy)->d7 a->ad->Nat->List AV×ad×Nat
 | [],_,objs,nx=>([],objs,nx)
 | .v t agg::a,d,objs,nx=>
  let x:=unfold t d.1 nx
  let y:=fy a d.2 (x.2.1++objs) x.2.2
  (EU agg x.1::y.1,y.2)
 | .box t::a,d,objs,nx=>
  let x:=unfold t d.1 (nx+1)
  let y:=fy a d.2 ((nx,.box x.1)::(x.2.1++objs)) x.2.2
  (.one (.ptr nx 0)::y.1,y.2)
 | .mut _::a,d,objs,nx=>fy a d objs nx
 | .clos _ _::a,d,objs,nx=>fy a d objs nx
 | .kv _ _::a,d,objs,nx=>fy a d objs nx
 | .rp _::a,d,objs,nx=>fy a d objs nx
 | .vj t::a,d,objs,nx=>
  let x:=unfold t d.1 nx
  let y:=fy a d.2 (x.2.1++objs) x.2.2
  (.agg (x.1++ [.junk])::y.1,y.2)
 | .boxal _ _::a,d,objs,nx=>fy a d objs nx
def Vz:List AV->AVal
 | [x]=>.s x
 |a=>.tup a
structure Sig where
 ps:List PTy
 rs:List PTy
 fn:(R:Type)->c6 ps->(dv ps×d7 rs->Option R)->Option R
 run:c6 ps->Option (dv ps×d7 rs)
 law:∀(R:Type) (d:c6 ps) (k:dv ps×d7 rs->Option R),fn R d k=(run d).bind k
noncomputable def Sig.of(b c:List PTy)(a:c6 b->Option (dv b×d7 c)):Sig:=⟨b,c,λ_ d k=>(a d).bind k,a,λ_ _ _=>rfl⟩
theorem Sig.law'(s:Sig){R:Type}(d:c6 s.ps)(k:dv s.ps×d7 s.rs->Option R)(r:R)(h:s.fn R d k=some r):∃o,s.run d=some o/\k o=some r:=by
 rw[s.law]at h;cases hr:s.run d with
 |none=>simp_all
 |some o=>simp_all
def PTy.fresh:PTy->Bool
 | .v _ _=>true
 | .box t=>t.noRo
 | .mut e=>e.noRo
 | .clos _ _=>true
 | .kv t _=>t.noRo
 | .rp _=>true
 | .vj _=>true
 | .boxal t _=>t.noRo
def PTy.freshR:PTy->Bool
 | .v t _=>t.noRo
 | .box t=>t.noRo
 | .mut _=>true
 | .clos _ _=>true
 | .kv _ _=>true
 | .rp _=>true
 | .vj t=>t.noRo
 | .boxal _ _=>true
def Sig.fresh(s:Sig):Bool:=s.rs.all PTy.freshR&&s.ps.all PTy.fresh
abbrev Ctx:=List (FuncId×Sig)
def evs(st:St):List Operand->Option (List AVal)
 | []=>some []
 |o::l=>match ev st o,evs st l with
  |some x,some xs=>some (x::xs)
  |_,_=>none
abbrev KV(R:Type):=AVal->ad->Nat->Option R
def ot{R:Type}(a:Sig)(st:St)(xs:List AVal)(k:KV R):Option R:=
 match fw a.ps xs st.objs with
 |some A=>
  if fL A.all&&lu A.lent A.all&&(a.fresh||A.lent.isEmpty)then
   a.fn R A.d λo=>
    let p:=ek a.ps o.1 A.kept (kill st.objs A.moved) st.nx
    let q:=fy a.rs o.2 p.1 p.2
    k (Vz q.1) q.2.1 q.2.2
  else none
 |none=>none
def HF(objs:ad)(a:List Nat):Cell->Cell
 | .own id=>bif ew id a then(match Wt objs id with
  |some (.arr e xs)=>.val (.slice e.ro) (fi e xs)
  |_=>.junk)else .own id
 | .vw id lo hi=>.vw id lo hi
 | .val t d=>.val t d
 | .nils=>.nils
 | .aptr id=>.aptr id
 | .ptr id off=>.ptr id off
 | .eptr id i off=>.eptr id i off
 | .rptr t d off=>.rptr t d off
 | .clos f caps=>.clos f caps
 | .junk=>.junk
def sw(objs:ad)(a:List Nat):AVal->AVal
 | .s (.one c)=>.s (.one (HF objs a c))
 | .s (.agg cs)=>.s (.agg (cs.map (HF objs a)))
 | .tup xs=>.tup xs
def NN:Cell->List Nat
 | .own id=>[id]
 | .vw _ _ _=>[]
 | .val _ _=>[]
 | .nils=>[]
 | .aptr _=>[]
 | .ptr _ _=>[]
 | .eptr _ _ _=>[]
 | .rptr _ _ _=>[]
 | .clos _ _=>[]
 | .junk=>[]
def TV:AVal->List Nat
 | .s (.one c)=>NN c
 | .s (.agg cs)=>cs.flatMap NN
 | .tup _=>[]
def HY:Ty->List Cell->List Nat
 | .prod a b,cs=>HY a (cs.take a.size)++HY b (cs.drop a.size)
 | .slice _,cs=>match cs with
  |c::_=>NN c
  | []=>[]
 | .own _,_=>[]
 | .int _,_=>[]
 | .bool,_=>[]
 | .str,_=>[]
def r9(e:Ty):AVal->List Nat
 | .s (.one c)=>HY e [c]
 | .s (.agg cs)=>HY e cs
 | .tup _=>[]
def xa(objs:ad)(p v:AVal):List Nat:=match p with
 | .s (.one (.eptr id _ _))=>match Wt objs id with
  |some (.arr e _)=>bif e.data then TV v else r9 e v
  |_=>[]
 |_=>[]
def Hn(a:List (Nat×AVal)):List Nat:=a.flatMap λp=>TV p.2
def p3(objs:ad)(l:List Nat):ad:=kill objs l
def MJ(objs:ad)(a:List (Nat×AVal)):List (Nat×AVal):=a.map λp=>(p.1,sw objs (Hn a) p.2)
def sG{R:Type}(a:Sig)(st:St)(xs:List AVal)(k:KV R):Option R:=
 bif a.fresh then ot a st xs k else match fw a.ps xs st.objs with
  |some A=>match A.lent with
   | []=>ot a st xs k
   |_=>ot a {env:=st.env,objs:=kill st.objs A.lent,nx:=st.nx} (xs.map (sw st.objs A.lent)) k
  |none=>none
def St.new(st:St)(dst:Option Tmp)(a:Ob)(x:AVal):St:=
 {env:=st.env,objs:=(st.nx,a)::st.objs,nx:=st.nx+1:St}.put dst x
def St.turn(st:St)(a:Nat)(b:Ob):St:={st with objs:=(a,b)::st.objs}
def lv:AVal->Option (List Cell)
 | .s (.one c)=>some [c]
 | .s (.agg cs)=>some cs
 | .tup _=>none
def mM(T:Tab)(st:St)(t:TypeId)(x v:AVal):Option St:=
 match Wt T t,x,lv v with
 |some te,.s (.one (.ptr a off)),some ds=>match Wt st.objs a with
  |some (.box cs)=>if decide (te.ty.size=ds.length)&&te.plain&&decide (off+ds.length<=cs.length)then some (st.turn a (.box (lO cs off ds)))else none
  |_=>none
 |some te,.s (.one (.eptr a i off)),some ds=>match Wt st.objs a with
  |some (.arr e xs)=>
   if decide (te.ty.size=ds.length)&&te.plain&&decide (off+ds.length<=e.size)&&e.data then
    match aY e (lO (split e (xs.getD i e.dflt)) off ds) st.objs with
    |some (d,[],[])=>some (st.turn a (.arr e (xs.set i d)))
    |_=>none
   else if decide (te.ty.size=ds.length)&&te.plain&&decide (off=0)&&decide (ds.length=e.size)then
    match aY e ds st.objs with
    |some (d,m,[])=>if fL (a::m)then some {env:=st.env,objs:=(a,.arr e (xs.set i d))::kill st.objs m,nx:=st.nx}else none
    |_=>none
   else none
  |_=>none
 |_,_,_=>none
def NW(st:St)(e:Ty):AVal->Option (List e.den)
 | .s (.one (.val (.slice e') d))=>ki e' e d
 | .s (.one .nils)=>some []
 | .s (.one (.own id))=>match Wt st.objs id with
  |some (.arr e' xs)=>ki e' e xs
  |_=>none
 | .s (.one (.vw id lo hi))=>match Wt st.objs id with
  |some (.arr e' xs)=>(ki e' e xs).map λa=>(a.take hi).drop lo
  |_=>none
 |_=>none
def H0(st:St)(e:Ty):AVal->Option (List e.den×List Nat)
 | .s (.one .nils)=>some ([],[])
 | .s (.one (.own id))=>match Wt st.objs id with
  |some (.arr e' xs)=>(ki e' e xs).map λa=>(a,[id])
  |_=>none
 |_=>none
def YQ(st:St):AVal->Option Ty
 | .s (.one (.own id))=>match Wt st.objs id with
  |some (.arr e _)=>some e
  |_=>none
 |_=>none
def rQ{R:Type}(st:St)(b:Ty)(s x:AVal)(k:KV R):Option R:=
 match s with
 | .s (.one .nils)=>match YQ st x with
  |some e=>if e.ro=b then match H0 st e x with
    |some (l,m)=>bif WC l.length then k (.s (.one (.own st.nx))) ((st.nx,.arr e l)::kill st.objs m) (st.nx+1)else none
    |none=>none
   else none
  |none=>none
 | .s (.one (.own a))=>match Wt st.objs a with
  |some (.arr e xs)=>if e.ro=b then match H0 st e x with
    |some (l,m)=>if fL (a::m)then(bif WC (xs.length+l.length)then k (.s (.one (.own st.nx))) ((st.nx,.arr e (Xe xs l))::kill st.objs (a::m)) (st.nx+1)else none)else none
    |none=>none
   else none
  |_=>none
 |_=>none
def H1(st:St):AVal->AVal->Bool
 | .s (.one (.own id)),_=>match Wt st.objs id with
  |some (.arr e _)=>e.data
  |_=>true
 | .s (.one .nils),.s (.one (.own id))=>match Wt st.objs id with
  |some (.arr e _)=>e.data
  |_=>true
 |_,_=>true
def wN{R:Type}(T:Tab)(st:St)(t a:TypeId)(s x:AVal)(k:KV R):Option R:=
 match Wt T t,Wt T a with
 |some ⟨_,false,.slice et⟩,some _=>match Wt T et with
  |some te=>
   if t=a/\te.plain/\te.ty.data then
    bif !H1 st s x then rQ st te.ty s x k else
    match s,NW st te.ty x with
    | .s (.one .nils),some l=>bif WC l.length then k (.s (.one (.own st.nx))) ((st.nx,.arr te.ty l)::st.objs) (st.nx+1)else none
    | .s (.one (.own id)),some l=>match Wt st.objs id with
     |some (.arr e xs)=>match Ey (.own e) (.own te.ty) xs with
      |some ys=>bif WC (Xb ys+l.length)then k (.s (.one (.own st.nx))) ((st.nx,.arr te.ty (Xe ys l))::(id,.dead)::st.objs) (st.nx+1)else none
      |none=>none
     |_=>none
    | .s (.one (.vw id 0 hi)),some l=>match Wt st.objs id with
     |some (.arr e xs)=>match Ey (.own e) (.own te.ty) xs with
      |some ys=>bif WC (hi+l.length)then k (.s (.one (.own st.nx))) ((st.nx,.arr te.ty (Xe (ys.take hi) l))::(id,.dead)::st.objs) (st.nx+1)else none
      |none=>none
     |_=>none
    |_,_=>none
   else none
  |none=>none
 |_,_=>none
def tc(T:Tab)(a:List (Nat×TypeId)):List (Nat×AVal)->List Cell->Option (List Cell)
 | [],cs=>some cs
 |(i,x)::ps,cs=>match a[i]? with
  |some (off,ft)=>match Wt T ft,lv x with
   |some te,some ds=>if decide (te.ty.size=ds.length)&&decide (off+ds.length<=cs.length)then tc T a ps (lO cs off ds)else none
   |_,_=>none
  |none=>none
def BP(e:Ty)(objs:ad):List (Nat×AVal)->List e.den->Option (List e.den)
 | [],xs=>some xs
 |(i,x)::ps,xs=>match lv x with
  |some ds=>match aY e ds objs with
   |some (d,[],[])=>if i<xs.length then BP e objs ps (xs.set i d)else none
   |_=>none
  |none=>none
def lK(st:St):List (Nat×Operand)->Option (List (Nat×AVal))
 | []=>some []
 |(i,o)::l=>match ev st o,lK st l with
  |some x,some xs=>some ((i,x)::xs)
  |_,_=>none
inductive An where
 |nest (e:Ty)
 |view
 |opn
def Ie(A:List (Nat×An))(o:Oper):Option An:=match o.dst with
 |some d=>Wt A d
 |none=>none
def ol{R:Type}(st:St)(e:Ty)(a:List (Nat×AVal))(k:KV R):Option R:=
 match a with
 | [p]=>if p.1=0 then match lv (sw st.objs (r9 e p.2) p.2)with
  |some ds=>match aY e ds (p3 st.objs (r9 e p.2))with
   |some (d,m,[])=>if fL m then k (.s (.one (.own st.nx))) ((st.nx,.arr e [d])::kill (p3 st.objs (r9 e p.2)) m) (st.nx+1)else none
   |_=>none
  |none=>none
  else none
 |_=>none
def oC{R:Type}(st:St)(b:Ty)(a:Nat)(l h:Option Int)(k:KV R):Option R:=
 match Wt st.objs a with
 |some (.arr e xs)=>if b=e.ro then bif (aX (Xb xs) l h).1 then k (.s (.one (.vw a (aX (Xb xs) l h).2.1 (aX (Xb xs) l h).2.2))) st.objs st.nx else none else none
 |_=>none
def NH(o:Option Ob)(n:Nat):Bool:=match o with
 |some (.box cs)=>eb cs.length n
 |_=>false
def rxe{R:Type}(T:Tab)(Γ:Ctx)(A:List (Nat×An))(o:Oper)(st:St)(k:KV R):Option R:=
 match o.op with
 | .alloc t=>match Wt T t with
  |some ⟨e,true,.arr n _⟩=>if e.data&&WC n then k (.s (.one (.aptr st.nx))) ((st.nx,.arr e (Xt n e.dflt))::st.objs) (st.nx+1)else none
  |some te=>if te.plain then k (.s (.one (.ptr st.nx 0))) ((st.nx,.box (mV te.ty))::st.objs) (st.nx+1)else none
  |none=>none
 | .box t x=>match Wt T t,(ev st x).bind lv with
  |some _,some cs=>k (.s (.one (.ptr st.nx 0))) ((st.nx,.box cs)::st.objs) (st.nx+1)
  |_,_=>none
 | .build t parts=>match Wt T t,lK st parts.toList with
  |some ⟨d,true,.struct fs⟩,some ps=>
   if fs.all (λf=>match Wt T f.2 with|some te=>te.plain|none=>false)then
    match tc T fs ps (mV d)with
    |some cs=>k (.s (.agg cs)) st.objs st.nx
    |none=>none
   else none
  |_,_=>none
 | .buildSlice t n parts=>match Wt T t,lK st parts.toList with
  |some ⟨_,false,.slice et⟩,some ps=>match Wt T et with
   |some te=>match Ie A o with
    |some (.nest e)=>if decide (n=1)&&decide (e.ro=te.ty)&&te.plain&&decide (te.ty.size<=16777216)then ol st e ps k else none
    |_=>match BP te.ty (p3 st.objs (Hn ps)) (MJ st.objs ps) (Xt n te.ty.dflt)with
    |some xs=>if decide (n*te.ty.size<=16777216)&&te.ty.data&&te.plain then k (.s (.one (.own st.nx))) ((st.nx,.arr te.ty xs)::p3 st.objs (Hn ps)) (st.nx+1)else none
    |none=>none
   |none=>none
  |_,_=>none
 | .makeSlice t n c=>match Wt T t,(ev st n).bind asI,(ev st c).bind asI with
  |some ⟨_,false,.slice et⟩,some n',some c'=>match Wt T et with
   |some te=>match Ie A o with
    |some (.nest e)=>if decide (e.ro=te.ty)&&te.plain then(bif decide (0<=n')&&decide (n'<=c')&&WC c'.toNat then k (.s (.one (.own st.nx))) ((st.nx,.arr e (Xt n'.toNat e.dflt))::st.objs) (st.nx+1)else none)else none
    |_=>if te.ty.data&&te.plain then(bif decide (0<=n')&&decide (n'<=c')&&WC c'.toNat then k (.s (.one (.own st.nx))) ((st.nx,.arr te.ty (Xt n'.toNat te.ty.dflt))::st.objs) (st.nx+1)else none)else none
   |none=>none
  |_,_,_=>none
 | .store t a x=>match ev st a,ev st x with
  |some p,some v=>match mM T {env:=st.env,objs:=p3 st.objs (xa st.objs p v),nx:=st.nx} t p (sw st.objs (xa st.objs p v) v)with
   |some ai=>match o.dst with
    |none=>k (.tup []) ai.objs ai.nx
    |some _=>none
   |none=>none
  |_,_=>none
 | .slice t x lo hi none=>match ev st x with
  |some (.s (.one (.own id)))=>match Wt T t,gR st lo,gR st hi with
   |some ⟨_,false,.slice et⟩,some l,some h=>match Wt T et with
    |some te=>match Ie A o with
     |some .view=>if te.plain then oC st te.ty id l h k else none
     |_=>match l,h,Wt st.objs id with
      |none,some h,some (.arr e xs)=>if te.ty=e.ro/\te.plain then(bif decide (0<=h)&&decide (h<=(xs.length:Int))then k (.s (.one (.own st.nx))) ((st.nx,.arr e (xs.take h.toNat))::(id,.dead)::st.objs) (st.nx+1)else none)else none
      |none,some h,some (.hole e xs i p)=>if te.ty=e.ro/\te.plain/\NH (Wt st.objs p) e.size then(bif decide (0<=h)&&decide (h<=(xs.length:Int))&&decide (h<=(i:Int))then k (.s (.one (.own st.nx))) ((st.nx,.arr e (xs.take h.toNat))::(id,.dead)::(p,.dead)::st.objs) (st.nx+1)else none)else none
      |_,_,_=>none
    |none=>none
   |_,_,_=>none
  |_=>match cr T st o.op with
   |some (c,v)=>bif c then k v st.objs st.nx else none
   |none=>none
 | .call c=>match c.callee,c.args.toList,c.argTypes.toList with
  | .builtin .append,[s,x],[t,t2]=>match ev st s,ev st x with
   |some sv,some xv=>wN T st t t2 sv xv k
   |_,_=>none
  | .builtin .clear,[x],[t]=>match ev st x with
   |some (.s (.one (.vw id lo hi)))=>match Wt T t,Wt st.objs id with
    |some ⟨_,false,.slice et⟩,some (.arr e xs)=>match Wt T et with
     |some te=>if te.ty=e/\te.plain/\e.data then k (.tup []) ((id,.arr e (xs.take lo++Xt (hi-lo) e.dflt++xs.drop hi))::st.objs) st.nx else none
     |none=>none
    |_,_=>none
   |_=>none
  | .builtin _,_,_=>match cr T st o.op with
   |some (c,v)=>bif c then k v st.objs st.nx else none
   |none=>none
  | .value f,b,_=>match ev st f,evs st b with
   |some (.s (.one (.clos g caps))),some xs=>match Wt Γ g with
    |some sg=>sG sg st (xs++fS caps) k
    |none=>none
   |_,_=>none
  |_,_,_=>none
 |op=>match cr T st op with
  |some (c,v)=>bif c then k v st.objs st.nx else none
  |none=>none
def rx1{R:Type}(T:Tab)(Γ:Ctx)(A:List (Nat×An))(o:Oper)(st:St)(k:St->Option R):Option R:=
 rxe T Γ A o st λx objs nx=>k (({env:=st.env,objs:=objs,nx:=nx}:St).put o.dst x)
def rxg{R:Type}(T:Tab)(Γ:Ctx)(A:List (Nat×An))(ops:Array Oper)(o:Oper)(st:St)(k:St->Option R):Option R:=
 match o.guard with
 |none=>rx1 T Γ A o st k
 |some (j,want)=>match(ops[j]?).bind (·.dst)with
  |some t=>match Wt st.env t with
   |some (.tup [])=>k (st.put o.dst (.tup []))
   |some x=>match asB x with
    |some b=>bif b
     then(if want then rx1 T Γ A o (st.put (some t) (one .bool true)) k else k ((st.put (some t) (one .bool true)).put o.dst (.tup [])))
     else(if want then k ((st.put (some t) (one .bool false)).put o.dst (.tup []))else rx1 T Γ A o (st.put (some t) (one .bool false)) k)
    |none=>none
   |none=>none
  |none=>none
inductive Ex where
 |normal|exit (id:Nat)|ret
def xH{R:Type}(f:St->(Ex->St->Option R)->Option R):Nat->St->(Ex->St->Option R)->Option R
 |0,_,_=>none
 |n+1,st,k=>f st λe ai=>match e with
  | .normal=>xH f n ai k
  | .exit id=>k (.exit id) ai
  | .ret=>k .ret ai
inductive Ghost where
 |canon (slots:List Nat)
 |adoptC (slot off:Nat) (e:Ty)
 |nest (dst:Nat) (e:Ty)
 |view (dst:Nat)
 |opn (dst:Nat)
 |unfE (slot:Nat)
def tM:List Ghost->List (Nat×An)
 | []=>[]
 | .nest d e::l=>(d,.nest e)::tM l
 | .view d::l=>(d,.view)::tM l
 | .opn d::l=>(d,.opn)::tM l
 | .canon _::l=>tM l
 | .adoptC _ _ _::l=>tM l
 | .unfE _::l=>tM l
def hU:Cell->List Nat
 | .own id| .aptr id| .ptr id _| .eptr id _ _| .vw id _ _=>[id]
 | .clos _ caps=>caps
 |_=>[]
def iW:AV->List Nat
 | .one c=>hU c
 | .agg cs=>cs.flatMap hU
def gc:AVal->List Nat
 | .s x=>iW x
 | .tup xs=>xs.flatMap iW
def qr:Nat->List Nat->List Nat->ad->List Nat
 |0,_,a,_=>a
 |n+1,b,a,objs=>match b with
  | []=>a
  |i::l=>if ew i a then qr n l a objs else
   match Wt objs i with
   |some (.box cs)=>qr n (l++cs.flatMap hU) (a++ [i]) objs
   |some (.arr _ _)=>qr n l (a++ [i]) objs
   |some (.hole _ _ _ p)=>qr n (l++ [p]) (a++ [i]) objs
   |_=>qr n l a objs
def nb(i:Nat):List Nat->Option Nat
 | []=>none
 |j::l=>if eb i j then some 0 else(nb i l).map (· +1)
def EJ(m:List Nat):List Nat->Option (List Nat)
 | []=>some []
 |i::l=>match nb i m,EJ m l with
  |some j,some r=>some (j::r)
  |_,_=>none
def mQ(m:List Nat):Cell->Cell
 | .own id=>match nb id m with|some j=>.own j|none=>.junk
 | .vw id lo hi=>match nb id m with|some j=>.vw j lo hi|none=>.junk
 | .aptr id=>match nb id m with|some j=>.aptr j|none=>.junk
 | .ptr id off=>match nb id m with|some j=>.ptr j off|none=>.junk
 | .eptr id i off=>match nb id m with|some j=>.eptr j i off|none=>.junk
 | .clos f caps=>match EJ m caps with|some js=>.clos f js|none=>.junk
 | .val t d=>.val t d
 | .nils=>.nils
 | .rptr t d off=>.rptr t d off
 | .junk=>.junk
def NT(m:List Nat):AV->AV
 | .one c=>.one (mQ m c)
 | .agg cs=>.agg (cs.map (mQ m))
def M0(m:List Nat):AVal->AVal
 | .s x=>.s (NT m x)
 | .tup xs=>.tup (xs.map (NT m))
def EP(m:List Nat):Ob->Ob
 | .box cs=>.box (cs.map (mQ m))
 | .arr e xs=>.arr e xs
 | .hole e xs i p=>match nb p m with|some j=>.hole e xs i j|none=>.dead
 | .dead=>.dead
def xd(env:List (Nat×AVal)):List Nat->List (Nat×AVal)
 | []=>[]
 |i::l=>match Wt env i with
  |some x=>(i,x)::xd env l
  |none=>xd env l
def pX(m:List Nat)(objs:ad):Nat->List Nat->ad
 |_,[]=>[]
 |j,i::l=>match Wt objs i with
  |some ob=>(j,EP m ob)::pX m objs (j+1) l
  |none=>pX m objs (j+1) l
def canon(a:List Nat)(st:St):St:=
 let env:=xd st.env a
 let m:=qr 400 (env.flatMap λp=>gc p.2) [] st.objs
 {env:=env.map λp=>(p.1,M0 m p.2),objs:=pX m st.objs 0 m,nx:=m.length}
def HO(st:St)(r i:Nat):Option St:=
 match Wt st.objs r with
 |some (.arr e xs)=>
  let x:=unfold e (xs.getD i e.dflt) (st.nx+1)
  some {env:=st.env,objs:=(r,.hole e xs i st.nx)::(st.nx,.box x.1)::(x.2.1++st.objs),nx:=x.2.2}
 |_=>none
def BK(g:Ghost)(st:St):Option (Bool×St):=
 match g with
 | .canon slots=>some (true,canon slots st)
 | .adoptC slot off e=>match Wt st.env slot with
  |some (.s (.one (.ptr id 0)))=>match Wt st.objs id with
   |some (.box cs)=>match cs[off]? with
    |some .nils=>some (true,{env:=st.env,objs:=(id,.box (cs.set off (.own st.nx)))::(st.nx,.arr e [])::st.objs,nx:=st.nx+1})
    |some (.own _)=>some (true,st)
    |_=>none
   |_=>none
  |_=>none
 | .nest _ _=>some (true,st)
 | .view _=>some (true,st)
 | .opn _=>some (true,st)
 | .unfE slot=>match Wt st.env slot with
  |some (.s (.one (.eptr r i 0)))=>(HO st r i).map λai=>(true,ai.put (some slot) (.s (.one (.ptr st.nx 0))))
  |_=>none
def lL:List Ghost->St->Option (Bool×St)
 | [],st=>some (true,st)
 |g::l,st=>match BK g st with
  |some (c,ai)=>match lL l ai with
   |some (c',cX)=>some (c&&c',cX)
   |none=>none
  |none=>none
def opG(A:List (Nat×An))(o:Oper)(st:St):Option (Bool×St):=match Ie A o,o.dst with
 |some .opn,some d=>match Wt st.env d with
  |some (.tup [])=>some (true,st)
  |_=>BK (.unfE d) st
 |some .view,_=>some (true,st)
 |some (.nest _),_=>some (true,st)
 |none,_=>some (true,st)
 |some .opn,none=>some (true,st)
def rxs{R:Type}(T:Tab)(Γ:Ctx)(A:List (Nat×An))(ops:Array Oper):List Oper->St->(St->Option R)->Option R
 | [],st,k=>k st
 |o::l,st,k=>rxg T Γ A ops o st λai=>match opG A o ai with
  |some (c,cX)=>bif c then rxs T Γ A ops l cX k else none
  |none=>none
def w3:Code->Option Nat
 | .region id _ _=>some id
 | .seq a b=>match w3 a with
  |some i=>some i
  |none=>w3 b
 | .cond _ a b=>match w3 a with
  |some i=>some i
  |none=>w3 b
 | .block _ c=>w3 c
 | .loop c=>(w3 c).map (· +100000)
 |_=>none
def xg(c:Code):Nat:=match w3 c with
 |some i=>i+100000
 |none=>99999
def By{R:Type}(a:List Ghost)(f:St->(Ex->St->Option R)->Option R)(st:St)(k:Ex->St->Option R):Option R:=
 f st λe ai=>match e with
  | .normal=>match lL a ai with
   |some (c,cX)=>bif c then k .normal cX else none
   |none=>none
  | .exit id=>k (.exit id) ai
  | .ret=>k .ret ai
def aJ:Op->List Operand
 | .move x| .assign x| .box _ x| .load _ x| .nilCheck x| .unOp _ _ x| .convert _ _ x| .fieldAddr _ x _| .field _ x _| .extract x _=>[x]
 | .pick c a b=>[c,a,b]
 | .build _ ps| .buildSlice _ _ ps=>ps.toList.map (·.2)
 | .store _ a v| .binOp _ _ a v _| .makeSlice _ a v| .indexAddr _ a v| .index _ a v=>[a,v]
 | .makeFunc _ first captured=>first.toList++captured.toList
 | .slice _ x l h m=>x::(l.toList++(h.toList++m.toList))
 | .call c=>(match c.callee with| .value f=>[f]|_=>[])++c.args.toList
 |_=>[]
def bL(o:Oper):Bool:=match o.op with
 | .alloc _| .box _ _| .buildSlice _ _ _| .makeSlice _ _ _| .store _ _ _| .slice _ _ _ _ _=>true
 | .call c=>match c.callee with
  | .builtin .append=>true
  | .builtin .clear=>true
  | .builtin _=>false
  |_=>true
 |_=>false
def N2:Op->Bool
 | .load _ _| .nilCheck _| .binOp _ _ _ _ _| .convert _ _ _| .fieldAddr _ _ _| .indexAddr _ _ _| .call _=>true
 |_=>false
def rI(st:St):List Operand->List Nat
 | []=>[]
 |x::l=>match ev st x with
  |some v=>gc v++rI st l
  |none=>rI st l
def mL(o:Oper)(st:St):List Nat:=bif N2 o.op then rI st (aJ o.op)else []
def ss(l:ad):List Nat:=l.map (·.1)
def NJ(a b:ad):List Nat:=ss (b.take (b.length-a.length))
def H8(x:Nat)(l:List Nat):List Nat:=bif ew x l then l else x::l
def EE:List Nat->List Nat->List Nat
 | [],l=>l
 |x::m,l=>EE m (H8 x l)
def iu(o:Oper):List Nat:=(o.after.toList.filter (Region.binds .any)).map (·.on)
def qo(a:List (List Nat)):List Nat->List Nat->List Nat
 | [],l=>l
 |j::ds,l=>qo a ds (EE (a.getD j []) (H8 j l))
def ik:List Oper->List (List Nat)->List (List Nat)
 | [],acc=>acc
 |o::l,acc=>ik l (acc++ [qo acc (iu o) []])
def fm(B:List (List Nat))(j i:Nat):Bool:=ew j (B.getD i [])
def H7:List Oper->Nat->Bool
 | [],_=>true
 |o::l,n=>(iu o).all (λd=>Ip d n)&&H7 l (n+1)
def NM:Operand->List Nat
 | .tmp t=>[t]
 |_=>[]
def oj(ops:Array Oper)(o:Oper):List Nat:=(aJ o.op).flatMap NM++(match o.guard with
 |some (j,_)=>((ops[j]?).bind (·.dst)).toList
 |none=>[])
def rT:List Oper->Nat->List (Nat×Nat)
 | [],_=>[]
 |o::l,i=>match o.dst with
  |some d=>(d,i)::rT l (i+1)
  |none=>rT l (i+1)
def Hx(ops:Array Oper)(B:List (List Nat))(D:List (Nat×Nat)):List Oper->Nat->Bool
 | [],_=>true
 |o::l,i=>(oj ops o).all (λt=>D.all λp=>!eb p.1 t||eb p.2 i||fm B p.2 i||fm B i p.2)&&Hx ops B D l (i+1)
def NR(ops:Array Oper)(B:List (List Nat)):Bool:=
 H7 ops.toList 0&&fL ((rT ops.toList 0).map (·.1))&&Hx ops B (rT ops.toList 0) ops.toList 0
def sq:List Oper->Nat->List Nat
 | [],_=>[]
 |o::l,i=>bif bL o then i::sq l (i+1)else sq l (i+1)
def xN(B:List (List Nat)):Nat->List Nat->List (List Nat)
 |0,_=>[[]]
 |n+1,rem=>match rem with
  | []=>[[]]
  |_=>(rem.filter λm=>rem.all λa=>!fm B a m).flatMap λm=>(xN B n (rem.filter λx=>!eb x m)).map (m:: ·)
def UW(ops:List Oper)(B:List (List Nat))(a σ:List Nat):Nat->Option Nat:=λi=>match ops with
 | []=>none
 |o::l=>bif !ew i a&&(B.getD i []).all (λj=>ew j a)&&(!bL o||(match σ with|m::_=>eb m i| []=>false))then some i else UW l B a σ (i+1)
def Hv(ops:List Oper)(B:List (List Nat)):Nat->List Nat->List Nat->List Nat
 |0,_,_=>[]
 |n+1,a,σ=>match UW ops B a σ 0 with
  |some i=>i::Hv ops B n (i::a) (match σ with|m::σ'=>bif eb m i then σ' else σ| []=>[])
  |none=>[]
def oH(ops:Array Oper):List Nat->List Nat->Bool
 | [],done=>eb done.length ops.size
 |i::l,done=>!ew i done&&(match ops[i]? with|some o=>(iu o).all (λd=>ew d done)|none=>false)&&oH ops l (i::done)
def qb{α:Type}:List Nat->(List Nat->α)->α
 | [],k=>k []
 |x::l,k=>qb l λa=>k (x::a)
def HK{α:Type}:List (List Nat)->(List (List Nat)->α)->α
 | [],k=>k []
 |x::l,k=>qb x λx'=>HK l λa=>k (x'::a)
def rdx{R:Type}(T:Tab)(Γ:Ctx)(A:List (Nat×An))(ops:Array Oper)(B:List (List Nat)):List Nat->List (Nat×List Nat)->List (Nat×List Nat)->St->(St->Option R)->Option R
 | [],_,_,st,k=>k st
 |i::l,b,c,st,k=>match ops[i]? with
  |some o=>bif bL o
   then rxg T Γ A ops o st λai=>qb (NJ st.objs ai.objs) λa=>
    bif b.all (λp=>fm B p.1 i||lu p.2 a)then rdx T Γ A ops B l b ((i,a)::c) ai k else none
   else qb (mL o st) λa=>
    bif c.all (λp=>fm B p.1 i||lu a p.2)then rxg T Γ A ops o st λai=>rdx T Γ A ops B l ((i,a)::b) c ai k else none
  |none=>none
def Wz{α β:Type}(x:α)(f:α->β):β:=f x
open Classical in
noncomputable def dg{α:Type}(a b:Option α):Option α:=if a=b then a else none
noncomputable def EY{R:Type}(T:Tab)(Γ:Ctx)(A:List (Nat×An))(ops:Array Oper)(B:List (List Nat))(st:St)(k:St->Option R):List (List Nat)->Option R
 | []=>none
 |σ::l=>
  let a:=qb (Hv ops.toList B ops.size [] σ) λL=>bif oH ops L []&&eqN (L.filter λi=>ew i σ) σ then rdx T Γ A ops B L [] [] st k else none
  match l with
  | []=>a
  |_=>dg a (EY T Γ A ops B st k l)
noncomputable def NS{R:Type}(T:Tab)(Γ:Ctx)(A:List (Nat×An))(ops:Array Oper)(st:St)(k:St->Option R):Option R:=
 HK (ik ops.toList []) λB=>bif NR ops B then EY T Γ A ops B st k (xN B ops.size (sq ops.toList 0))else none
noncomputable def sx{R:Type}(T:Tab)(Γ:Ctx)(d:Nat->List Ghost)(N:Nat):Code->St->(Ex->St->Option R)->Option R
 | .skip,st,k=>k .normal st
 | .region id ops draw,st,k=>
  bif draw then NS T Γ (tM (d id)) ops st λai=>match lL (d id) ai with
   |some (c,cX)=>bif c then k .normal cX else none
   |none=>none
  else rxs T Γ (tM (d id)) ops ops.toList st λai=>match lL (d id) ai with
   |some (c,cX)=>bif c then k .normal cX else none
   |none=>none
 | .seq a b,st,k=>sx T Γ d N a st λe ai=>match e with
  | .normal=>sx T Γ d N b ai k
  | .exit id=>k (.exit id) ai
  | .ret=>k .ret ai
 | .cond c x y,st,k=>match(ev st c).bind asB with
  |some b=>bif b then sx T Γ d N x st k else sx T Γ d N y st k
  |none=>none
 | .block id c,st,k=>sx T Γ d N c st λe ai=>match e with
  | .exit cz=>if cz=id then k .normal ai else k (.exit cz) ai
  | .normal=>k .normal ai
  | .ret=>k .ret ai
 | .loop c,st,k=>match lL (d (xg c)) st with
  |some (b,ai)=>bif b then xH (By (d (xg c)) λst k=>sx T Γ d N c st k) N ai k else none
  |none=>none
 | .exit id,st,k=>k (.exit id) st
 | .ret,st,k=>k .ret st
 |_,_,_=>none
def ET:List AVal->List Nat
 | []=>[]
 | .s (.one (.ptr id 0))::l=>id::ET l
 |_::l=>ET l
def WZ:(a:List PTy)->c6 a->ad->Nat->List AVal×ad×Nat
 | [],_,objs,nx=>([],objs,nx)
 | .v t agg::a,d,objs,nx=>
  let x:=unfold t d.1 nx
  let y:=WZ a d.2 (x.2.1++objs) x.2.2
  (.s (EU agg x.1)::y.1,y.2)
 | .box t::a,d,objs,nx=>
  let x:=unfold t d.1 (nx+1)
  let y:=WZ a d.2 ((nx,.box x.1)::(x.2.1++objs)) x.2.2
  (.s (.one (.ptr nx 0))::y.1,y.2)
 | .mut e::a,d,objs,nx=>
  let y:=WZ a d.2 ((nx,.arr e d.1)::objs) (nx+1)
  (.s (.one (.own nx))::y.1,y.2)
 | .clos g n::a,d,objs,nx=>
  let y:=WZ a d objs nx
  (.s (.one (.clos g (ET (y.1.take n))))::y.1.drop n,y.2)
 | .kv t agg::a,d,objs,nx=>
  let x:=unfold t d.1 nx
  let y:=WZ a d.2 (x.2.1++objs) x.2.2
  (.s (EU agg x.1)::y.1,y.2)
 | .rp t::a,d,objs,nx=>
  let y:=WZ a d.2 objs nx
  (.s (.one (.rptr t d.1 0))::y.1,y.2)
 | .vj _::a,d,objs,nx=>
  let y:=WZ a d objs nx
  (.tup []::y.1,y.2)
 | .boxal t lf::a,d,objs,nx=>
  let x:=unfold t d.1 (nx+1)
  let y:=WZ a d.2.2 ((nx,.box x.1)::(x.2.1++objs)) x.2.2
  (.s (.one (.ptr nx 0)):: .s (.one (.eptr (nx+1+lf) d.2.1 0))::y.1,y.2)
def Bn:Nat->List AVal->List (Nat×AVal)
 |_,[]=>[]
 |i,x::xs=>(i,x)::Bn (i+1) xs
def mU(T:Tab)(st:St):List ResultVar->Option (List AVal)
 | []=>some []
 | .tmp t::rs=>match Wt st.env t,mU T st rs with
  |some x,some xs=>some (x::xs)
  |_,_=>none
 | .cell a t::rs=>match(Wt st.env a).bind (rR T st t),mU T st rs with
  |some x,some xs=>some (x::xs)
  |_,_=>none
structure Outs(α:Type) where
 d:α
 moved:List Nat
 lent:List Nat
def gI:(b:List PTy)->List AVal->ad->Option (Outs (d7 b))
 | [],a,_=>match a with
  | []=>some ⟨(),[],[]⟩
  |_=>none
 | .v t agg::b,a,objs=>match a with
  |x::a=>match(cellsOf agg x).bind λc=>aY t c objs,gI b a objs with
   |some (d,m,l),some A=>some ⟨(d,A.d),m++A.moved,l++A.lent⟩
   |_,_=>none
  |_=>none
 | .box t::b,a,objs=>match a with
  | .s (.one (.ptr id 0))::a=>match Wt objs id with
   |some (.box c)=>match aY t c objs,gI b a objs with
    |some (d,m,l),some A=>some ⟨(d,A.d),id::(m++A.moved),l++A.lent⟩
    |_,_=>none
   |_=>none
  |_=>none
 | .mut _::_,_,_=>none
 | .clos _ _::_,_,_=>none
 | .kv _ _::_,_,_=>none
 | .rp _::_,_,_=>none
 | .vj t::b,a,objs=>match a with
  | .s (.agg c)::a=>if c.length=t.size+1 then(match aY t (c.take t.size) objs,gI b a objs with
   |some (d,m,l),some A=>some ⟨(d,A.d),m++A.moved,l++A.lent⟩
   |_,_=>none)else none
  |_=>none
 | .boxal _ _::_,_,_=>none
structure OutK(α:Type) where
 d:α
 kept:List Nat
 moved:List Nat
 lent:List Nat
def WG:List PTy->Nat->Nat->St->List AVal
 | [],_,_,_=>[]
 |_::ps,i,k+1,st=>WG ps i k st
 | .v _ _::ps,i,0,st=>.tup []::WG ps (i+1) 0 st
 | .box _::ps,i,0,st=>(Wt st.env i).getD (.tup [])::WG ps (i+1) 0 st
 | .mut _::ps,i,0,st=>(Wt st.env i).getD (.tup [])::WG ps (i+1) 0 st
 | .clos _ n::ps,i,0,st=>(Wt st.env i).getD (.tup [])::WG ps (i+1) n st
 | .kv _ _::ps,i,0,st=>(Wt st.env i).getD (.tup [])::WG ps (i+1) 0 st
 | .rp _::ps,i,0,st=>.tup []::WG ps (i+1) 0 st
 | .vj _::ps,i,0,st=>.tup []::WG ps (i+1) 0 st
 | .boxal _ _::ps,i,0,st=>(Wt st.env i).getD (.tup []):: .tup []::WG ps (i+2) 0 st
def eN:(b:List PTy)->List AVal->ad->Option (OutK (dv b))
 | [],_,_=>some ⟨(),[],[],[]⟩
 | .v _ _::b,a,objs=>(eN b a.tail objs).map λA=>⟨A.d,A.kept,A.moved,A.lent⟩
 | .box t::b,a,objs=>match a with
  | .s (.one (.ptr id 0))::a=>match Wt objs id with
   |some (.box c)=>match aY t c objs,eN b a objs with
    |some (d,m,l),some A=>some ⟨(d,A.d),id::A.kept,m++A.moved,l++A.lent⟩
    |_,_=>none
   |_=>none
  |_=>none
 | .mut e::b,a,objs=>match a with
  | .s (.one (.own id))::a=>match Wt objs id with
   |some (.arr e' ys)=>match ki e' e ys,eN b a objs with
    |some d,some A=>some ⟨(d,A.d),id::A.kept,A.moved,A.lent⟩
    |_,_=>none
   |_=>none
  |_=>none
 | .clos g n::b,a,objs=>match a with
  | .s (.one (.clos g' caps))::a=>if g'=g/\caps.length=n then(eN b (fS caps++a) objs).map λA=>⟨A.d,A.kept,A.moved,A.lent⟩else none
  |_=>none
 | .kv t agg::b,a,objs=>match a with
  |x::a=>match(cellsOf agg x).bind λc=>aY t c objs,eN b a objs with
   |some (d,m,l),some A=>if EB objs t m x then some ⟨(d,A.d),m++A.kept,A.moved,l++A.lent⟩else none
   |_,_=>none
  |_=>none
 | .rp _::b,a,objs=>(eN b a.tail objs).map λA=>⟨A.d,A.kept,A.moved,A.lent⟩
 | .vj _::_,_,_=>none
 | .boxal t _::b,a,objs=>match a with
  | .s (.one (.ptr id 0))::_::a=>match Wt objs id with
   |some (.box c)=>match aY t c objs,eN b a objs with
    |some (d,m,l),some A=>some ⟨(d,A.d),id::A.kept,m++A.moved,l++A.lent⟩
    |_,_=>none
   |_=>none
  |_=>none
def K3{R:Type}(T:Tab)(a:Sig)(rv:List ResultVar)(k:dv a.ps×d7 a.rs->Option R)(e:Ex)(st:St):Option R:=
 match e with
 | .exit _=>none
 |_=>match mU T st rv with
  |some xs=>match gI a.rs xs st.objs,eN a.ps (WG a.ps 0 0 st) st.objs with
   |some A,some B=>if fL (B.kept++(B.moved++A.moved))&&lu (A.lent++B.lent) (B.kept++(B.moved++A.moved))then k (B.d,A.d)else none
   |_,_=>none
  |none=>none
noncomputable def den{R:Type}(T:Tab)(Γ:Ctx)(a:Nat->List Ghost)(N:Nat)(e:Sig)(f:Func)(d:c6 e.ps)(k:dv e.ps×d7 e.rs->Option R):Option R:=
 let x:=WZ e.ps d [] 0
 match f.body,lL (a 1000000) {env:=Bn 0 x.1,objs:=x.2.1,nx:=x.2.2}with
 |some c,some (b,st)=>bif b then sx T Γ a N c st (K3 T e f.results.toList k)else none
 |_,_=>none
def lN:List PTy->Nat->Nat->List Nat
 | [],_,_=>[]
 |_::ps,i,k+1=>lN ps i k
 | .v _ _::ps,i,0=>lN ps (i+1) 0
 | .box _::ps,i,0=>i::lN ps (i+1) 0
 | .mut _::ps,i,0=>i::lN ps (i+1) 0
 | .clos _ n::ps,i,0=>i::lN ps (i+1) n
 | .kv _ _::ps,i,0=>i::lN ps (i+1) 0
 | .rp _::ps,i,0=>lN ps (i+1) 0
 | .vj _::ps,i,0=>lN ps (i+1) 0
 | .boxal _ _::ps,i,0=>i::lN ps (i+2) 0
def fX:List PTy->Nat
 | []=>0
 | .v _ _::ps=>fX ps+1
 | .box _::ps=>fX ps+1
 | .mut _::ps=>fX ps+1
 | .clos _ _::ps=>fX ps+1
 | .kv _ _::ps=>fX ps+1
 | .rp _::ps=>fX ps+1
 | .vj _::ps=>fX ps+1
 | .boxal _ _::ps=>fX ps+2
def BA:List PTy->Nat->Bool
 |_,0=>true
 | .box _::ps,n+1=>BA ps n
 |_,_+1=>false
def ic:List PTy->Bool
 | []=>true
 | .clos _ n::ps=>BA ps n&&ic ps
 | .v _ _::ps=>ic ps
 | .box _::ps=>ic ps
 | .mut _::ps=>ic ps
 | .kv _ _::ps=>ic ps
 | .rp _::ps=>ic ps
 | .vj _::ps=>ic ps
 | .boxal _ _::ps=>ic ps
theorem v8{α:Type}{R:α->List Value->Prop}{n:Nat}(h:∀x c,R x c->c.length=n):
  ∀(l:List α) (cs:List Value),b4 R l cs->cs.length=l.length*n
 | [],cs,e=>by grind [b4]
 |x::l,cs,e=>by
  obtain⟨f,a,rfl,b,d⟩:=e;have:=v8 h l a d;rw[Xx,h _ _ b,this,Xu,gz,qG]
theorem QU{α:Type}{R R':α->List Value->Prop}(h:∀x c,R x c->R' x c):
  ∀(l:List α) (cs:List Value),b4 R l cs->b4 R' l cs
 | [],_,e=>e
 |_::l,_,⟨b,a,g,d,f⟩=>⟨b,a,g,h _ _ d,QU h l a f⟩
theorem F7{α:Type}{R:α->List Value->Prop}:∀(l a:List α) (cs db:List Value),b4 R l cs->b4 R a db->b4 R (l++a) (cs++db)
 | [],_,cs,db,e,e'=>by grind [b4]
 |x::l,a,_,db,⟨c,b,g,d,f⟩,e'=>⟨c,b++db,by simp[g],d,F7 l a b db f e'⟩
theorem Mt{α:Type}{R:α->List Value->Prop}{n:Nat}(h:∀x c,R x c->c.length=n):
  ∀(l:List α) (cs:List Value) (i:Nat) (x:α),b4 R l cs->l[i]?=some x->R x ((cs.drop (i*n)).take n)
 | [],_,_,_,_,hi=>by simp at hi
 |y::l,cs,0,x,⟨e,a,d,b,_⟩,hi=>by
  grind
 |y::l,cs,i+1,x,⟨e,a,d,b,f⟩,hi=>by
  have g:=h _ _ b;have:=Mt h l a i x f (by simp_all);rw[d,gz,qG,←B5,List.drop_left' g];exact this
theorem D1{α:Type}{R:α->List Value->Prop}{n:Nat}(h:∀x c,R x c->c.length=n):
  ∀(l:List α) (cs:List Value) (m:Nat),b4 R l cs->b4 R (l.take m) (cs.take (m*n))
 | [],cs,m,e=>by grind [b4]
 |x::l,cs,0,_=>by simp[b4]
 |x::l,cs,m+1,⟨d,a,g,b,f⟩=>by
  have i:=h _ _ b;refine⟨d,a.take (m*n),?_,b,D1 h l a m f⟩;rw[g,gz,qG,←i,XD]
theorem DZ{α:Type}{R:α->List Value->Prop}{n:Nat}(h:∀x c,R x c->c.length=n):
  ∀(l:List α) (cs:List Value) (m:Nat),b4 R l cs->b4 R (l.drop m) (cs.drop (m*n))
 | [],cs,m,e=>by grind [b4]
 |x::l,cs,0,e=>by grind
 |x::l,cs,m+1,⟨f,a,g,b,d⟩=>by
  have i:=h _ _ b;have:=DZ h l a m d
  grind [b4,gz,qG,B5,XO]
theorem Ml{α:Type}{R:α->List Value->Prop}{n:Nat}(h:∀x c,R x c->c.length=n):
  ∀(l:List α) (cs:List Value) (i:Nat) (x:α) (a:List Value),b4 R l cs->i<l.length->R x a->
   b4 R (l.set i x) (cs.take (i*n)++a++cs.drop (i*n+n))
 | [],_,_,_,_,_,k,_=>by simp at k
 |y::l,cs,0,x,a,⟨d,e,j,b,f⟩,_,g=>by
  have m:=h _ _ b;refine⟨a,e,?_,g,f⟩;simp_all
 |y::l,cs,i+1,x,a,⟨d,e,j,b,f⟩,k,g=>by
  have m:=h _ _ b;refine⟨d,_,?_,b,Ml h l e i x a f (by simp_all) g⟩;have o:(i+1)*n=d.length+i*n:=by rw[gz,m,qG]
  rw[j,o,XD,eK,←B5,XO];simp
theorem dF{G:GH}:∀(t:Ty) (d:t.den) (cs:List Value),Enc G t d cs->cs.length=t.size
 | .int _,_,_,h=>by grind [Enc,Ty.size]
 | .bool,_,_,h=>by grind [Enc,Ty.size]
 | .str,_,_,h=>by grind [Enc,Ty.size]
 | .slice _,_,_,h=>by obtain⟨v,rfl,_⟩:=h;simp[Ty.size]
 | .own _,_,_,h=>h.elim
 | .prod a b,d,_,h=>by
  obtain⟨f,g,rfl,c,e⟩:=h;rw[Xx,dF a _ _ c,dF b _ _ e,Ty.size]
def GLe(G G':GH):Prop:=∀b o v,G b o=some v->G' b o=some v
theorem PO{G G':GH}(h:GLe G G'){b o:Nat}{cs:List Value}(c:ox G b o cs):ox G' b o cs:=λj v a=>h _ _ _ (c j v a)
theorem j3{G G':GH}(h:GLe G G'):∀(t:Ty) (d:t.den) (cs:List Value),Enc G t d cs->Enc G' t d cs
 | .int _,_,_,e=>e
 | .bool,_,_,e=>e
 | .str,_,_,e=>e
 | .slice e,d,cs,hh=>by
  obtain⟨v,s,f⟩:=hh;refine⟨v,s,?_⟩;rcases f with f|⟨b,k,g,n,i,j,o,p,q⟩|f
  .exact .inl f
  rotate_left
  .exact .inr (.inr f)
  .exact .inr<| .inl ⟨b,k,g,n,i,j,o,QU (λx c u=>j3 h e x c u) _ _ p,PO h q⟩
 | .own _,_,_,e=>e
 | .prod a b,d,_,⟨l,m,r,i,j⟩=>⟨l,m,r,j3 h a _ _ i,j3 h b _ _ j⟩
section
variable{G:GH}{ν:Nat->Nu}{nx:Nat}
theorem CellsRel.nil:CellsRel G ν nx [] []:=⟨rfl,λj c v h=>by simp at h⟩
theorem CellsRel.append{cs db:List Cell}{vs d:List Value}(h:CellsRel G ν nx cs vs)(e:CellsRel G ν nx db d):
  CellsRel G ν nx (cs++db) (vs++d):=by
 refine⟨by simp[h.1,e.1],λj c v b a=>?_⟩;rw[hG]at b a;rw[h.1]at a;split at b
 .rename_i ab;rw[Wb ab]at a;exact h.2 j c v b a
 .rename_i ab;rw[Wa ab]at a;exact e.2 _ c v b a
theorem CellsRel.take{cs:List Cell}{vs:List Value}(h:CellsRel G ν nx cs vs)(n:Nat):CellsRel G ν nx (cs.take n) (vs.take n):=by
 refine⟨by simp[h.1],λj c v a b=>?_⟩;rw[mu]at a b;split at a
 .rename_i ab;rw[Wb ab]at b;exact h.2 j c v a b
 grind
theorem CellsRel.drop{cs:List Cell}{vs:List Value}(h:CellsRel G ν nx cs vs)(n:Nat):CellsRel G ν nx (cs.drop n) (vs.drop n):=by
 refine⟨by simp[h.1],λj c v a b=>?_⟩;rw[mn]at a b;exact h.2 _ c v a b
theorem CellsRel.one{c:Cell}{v:Value}(h:CellRel G ν nx c v)(f:v.oneCell'=true):CellsRel G ν nx [c] [v]:=by
 refine⟨rfl,λj a e b d=>?_⟩
 grind
theorem jU:∀(t:Ty) (d:t.den) (vs:List Value),Enc G t d vs->CellsRel G ν nx (split t d) vs
 | .int k,d,vs,h=>by have c:=h;simp only[Enc]at c;subst c;exact CellsRel.one h rfl
 | .bool,d,vs,h=>by have c:=h;simp only[Enc]at c;subst c;exact CellsRel.one h rfl
 | .str,d,vs,h=>by have c:=h;simp only[Enc]at c;subst c;exact CellsRel.one h rfl
 | .slice e,d,vs,h=>by
  obtain⟨v,rfl,f⟩:=h;refine CellsRel.one ⟨v,rfl,f⟩ ?_;rcases f with⟨rfl,_⟩|⟨_,_,_,_,rfl,_⟩|⟨_,_,rfl,_⟩<;>rfl
 | .own _,_,_,h=>h.elim
 | .prod a b,d,vs,⟨l,m,j,g,i⟩=>by
  subst j;exact(jU a _ _ g).append (jU b _ _ i)
end
def nc(nx:Nat)(ν ν':Nat->Nu):Prop:=∀a,a<nx->ν' a=ν a
section
variable{G G':GH}{ν ν':Nat->Nu}{nx am:Nat}
theorem CellRel.mono(n:GLe G G')(k:nc nx ν ν')(l:nx<=am):
  ∀(c:Cell) (v:Value),CellRel G ν nx c v->CellRel G' ν' am c v
 | .val t d,v,h=>j3 n t d _ h
 | .nils,_,h=>h
 | .own g,v,⟨a,e⟩=>⟨mb a l,by rw[k g a];exact e⟩
 | .vw g lo hi,v,⟨a,e⟩=>⟨mb a l,by rw[k g a];exact e⟩
 | .aptr g,v,⟨a,e⟩=>⟨mb a l,by rw[k g a];exact e⟩
 | .ptr g off,v,⟨a,e⟩=>⟨mb a l,by rw[k g a];exact e⟩
 | .eptr g i off,v,⟨a,e⟩=>⟨mb a l,by rw[k g a];exact e⟩
 | .rptr t d off,v,⟨b,o,q,a,e,m⟩=>⟨b,o,q,a,j3 n t d _ e,PO n m⟩
 | .clos f caps,v,⟨y,a,e,m⟩=>⟨y,a,e,λj g u w x=>by
   obtain⟨p,s,r⟩:=m j g u w x;exact⟨mb p l,s,by rw[k g p];exact r⟩⟩
 | .junk,_,_=>trivial
theorem CellsRel.mono(d:GLe G G')(e:nc nx ν ν')(f:nx<=am){cs:List Cell}{vs:List Value}(h:CellsRel G ν nx cs vs):CellsRel G' ν' am cs vs:=
 ⟨h.1,λj c v a b=>⟨CellRel.mono d e f c v (h.2 j c v a b).1,(h.2 j c v a b).2⟩⟩
theorem AvRel.mono(a:GLe G G')(b:nc nx ν ν')(d:nx<=am):∀(x:AV) (v:Value),AvRel G ν nx x v->AvRel G' ν' am x v
 | .one c,v,h=>⟨CellRel.mono a b d c v h.1,h.2⟩
 | .agg cs,v,⟨f,e,h⟩=>⟨f,e,h.mono a b d⟩
theorem AValRel.mono(a:GLe G G')(b:nc nx ν ν')(c:nx<=am):∀(x:AVal) (v:Value),AValRel G ν nx x v->AValRel G' ν' am x v
 | .s x,v,h=>AvRel.mono a b c x v h
 | .tup xs,v,⟨i,d,e,h⟩=>⟨i,d,e,λj x u g f=>AvRel.mono a b c x u (h j x u g f)⟩
end
theorem Em(nu:Nu):nu.hdr.oneCell'=true:=by unfold Nu.hdr;split<;>rfl
theorem Wwp(nu:Nu)(lo hi:Nat):(nu.vhdr lo hi).oneCell'=true:=by unfold Nu.vhdr;split<;>rfl
section
variable{α:Type}{R R':α->List Value->List Pc->Prop}
theorem jJ{n:Nat}(h:∀x c p,R x c p->c.length=n):∀(l:List α) (cs:List Value) (a:List Pc),cJ R l cs a->cs.length=l.length*n
 | [],cs,a,e=>by simp[e.1]
 |x::l,cs,a,⟨j,b,m,i,g,k,d,f⟩=>by
  rw[g,Xx,h _ _ _ d,jJ h l b i f,Xu,gz,qG]
theorem pG{Q:Pc->Prop}(h:∀x c p,(∀q∈p,Q q)->R x c p->R' x c p):∀(l:List α) (cs:List Value) (b:List Pc),(∀q∈b,Q q)->cJ R l cs b->cJ R' l cs b
 | [],_,_,_,e=>e
 |_::l,_,_,f,⟨i,d,o,g,m,n,j,k⟩=>by
  subst n;exact⟨i,d,o,g,m,rfl,h _ _ _ (λq a=>f q (Xm _ a)) j,pG h l d g (λq a=>f q (Xh _ a)) k⟩
theorem Ga:∀(l b:List α) (cs db:List Value) (c a:List Pc),cJ R l cs c->cJ R b db a->cJ R (l++b) (cs++db) (c++a)
 | [],_,cs,db,c,a,e,e'=>by obtain⟨rfl,rfl⟩:=e;exact e'
 |x::l,b,_,db,_,a,⟨g,d,m,f,j,k,h,i⟩,e'=>⟨g,d++db,m,f++a,by simp[j],by simp[k],h,Ga l b d db f a i e'⟩
theorem Qt:∀(l b:List α) (cs:List Value) (d:List Pc),cJ R (l++b) cs d->∃a f c g,cs=a++f/\d=c++g/\cJ R l a c/\cJ R b f g
 | [],b,cs,d,e=>⟨[],cs,[],d,rfl,rfl,⟨rfl,rfl⟩,e⟩
 |x::l,b,cs,d,⟨a,f,c,g,s,t,n,o⟩=>by
  obtain⟨h,j,i,p,q,r,k,m⟩:=Qt l b f g o;exact⟨a++h,j,c++i,p,by grind,by grind,⟨a,h,c,i,rfl,rfl,n,k⟩,m⟩
theorem Sk{x:α}{cs:List Value}{ps:List Pc}:cJ R [x] cs ps↔R x cs ps:=by
 constructor
 .rintro⟨a,b,i,j,f,g,c,d,e⟩;simp_all
 .intro h;exact⟨cs,[],ps,[],by simp,by simp,h,rfl,rfl⟩
theorem DU(l:List α)(cs:List Value)(d:List Pc)(n:Nat)(h:cJ R l cs d):∃a b c p2,cs=a++b/\d=c++p2/\cJ R (l.take n) a c/\cJ R (l.drop n) b p2:=
 Qt _ _ _ _ (by simp_all)
theorem M8{l:List α}{cs:List Value}{g:List Pc}{i:Nat}(h:cJ R l cs g)(d:α)(hi:i<l.length):
  ∃a c b f p p2,cs=a++(c++b)/\g=f++(p++p2)/\cJ R (l.take i) a f/\R (l.getD i d) c p/\cJ R (l.drop (i+1)) b p2:=by
 obtain⟨a,k,f,u,m,n,o,j⟩:=DU l cs g i h;have e:l.drop i=l.getD i d::l.drop (i+1):=by
  simp_all
 rw[e]at j;obtain⟨c,b,p,p2,q,r,s,t⟩:=j
 grind
theorem Tf{l:List α}{d c a:List Value}{f p b:List Pc}{i:Nat}{x:α}(hi:i<l.length)(g:cJ R (l.take i) d f)(h:R x c p)(j:cJ R (l.drop (i+1)) a b):
  cJ R (l.set i x) (d++(c++a)) (f++(p++b)):=by
 have e:l.set i x=l.take i++(x::l.drop (i+1)):=by
  rw[VZ,Wb hi]
 rw[e];exact Ga _ _ _ _ _ _ g ⟨c,a,p,b,rfl,rfl,h,j⟩
end
section
variable{G G':GH}{w w':World}
theorem WN:∀(t:Ty) (d:t.den) (vs:List Value) (c:List Pc),WF G w t d vs c->vs.length=t.size
 | .own e,q,vs,c,⟨p,_,h,_⟩=>by rw[h];rfl
 | .prod a b,d,vs,c,⟨n,o,l,m,f,j,g,i⟩=>by
  rw[f,Xx,WN a _ _ _ g,WN b _ _ _ i];rfl
 | .int k,d,vs,c,h=>dF _ _ _ h.2
 | .bool,d,vs,c,h=>dF _ _ _ h.2
 | .str,d,vs,c,h=>dF _ _ _ h.2
 | .slice e,d,vs,c,h=>dF _ _ _ h.2
theorem iQ:∀(t:Ty) (d:t.den) (vs:List Value) (c:List Pc),WF G w t d vs c->c.length=t.owns
 | .own e,q,vs,c,⟨n,h,_⟩=>by rw[h];rfl
 | .prod a b,d,vs,c,⟨o,p,l,m,j,f,g,i⟩=>by rw[f,Xx,iQ a _ _ _ g,iQ b _ _ _ i];rfl
 | .int k,d,vs,c,h=>by rw[h.1];rfl
 | .bool,d,vs,c,h=>by rw[h.1];rfl
 | .str,d,vs,c,h=>by rw[h.1];rfl
 | .slice e,d,vs,c,h=>by rw[h.1];rfl
theorem oe:∀(t:Ty) (d:t.den) (vs:List Value) (c:List Pc),t.data=true->(WF G w t d vs c↔Enc G t d vs/\c= [])
 | .own e,u,vs,c,h=>by simp[Ty.data]at h
 | .prod a b,d,vs,c,h=>by
  simp only[Ty.data,Xj]at h;constructor
  .rintro⟨j,l,r,s,f,m,g,i⟩;obtain⟨n,p⟩:=(oe a _ _ _ h.1).1 g;obtain⟨o,q⟩:=(oe b _ _ _ h.2).1 i;exact⟨⟨j,l,f,n,o⟩,by simp_all⟩
  .rintro⟨⟨j,l,f,m,g⟩,i⟩;exact⟨j,l,[],[],f,i,(oe a _ _ _ h.1).2 ⟨m,rfl⟩,(oe b _ _ _ h.2).2 ⟨g,rfl⟩⟩
 | .int k,d,vs,c,_=>⟨λh=>⟨h.2,h.1⟩,λh=>⟨h.2,h.1⟩⟩
 | .bool,d,vs,c,_=>⟨λh=>⟨h.2,h.1⟩,λh=>⟨h.2,h.1⟩⟩
 | .str,d,vs,c,_=>⟨λh=>⟨h.2,h.1⟩,λh=>⟨h.2,h.1⟩⟩
 | .slice e,d,vs,c,_=>⟨λh=>⟨h.2,h.1⟩,λh=>⟨h.2,h.1⟩⟩
theorem q9{e:Ty}(a:e.data=true):∀(xs:List e.den) (cs:List Value) (b:List Pc),cJ (WF G w e) xs cs b↔b4 (Enc G e) xs cs/\b= []
 | [],cs,b=>Iff.rfl
 |x::xs,cs,b=>by
  constructor
  .rintro⟨c,d,n,o,f,i,g,h⟩;obtain⟨j,l⟩:=(oe e _ _ _ a).1 g;obtain⟨k,m⟩:=(q9 a xs _ _).1 h;exact⟨⟨c,d,f,j,k⟩,by simp_all⟩
  .rintro⟨⟨c,d,f,i,g⟩,h⟩;exact⟨c,d,[],[],f,h,(oe e _ _ _ a).2 ⟨i,rfl⟩,(q9 a xs _ _).2 ⟨g,rfl⟩⟩
structure Same(S:CS)(w w':World):Prop where
 row:∀b n,Row w b n->Row w' b n
 cell:∀b o,S b o->w'.cell? ⟨b,o,none⟩=w.cell? ⟨b,o,none⟩
theorem Same.mono{S a:CS}(h:Same S w w')(c:CS.le a S):Same a w w':=⟨h.row,λb o d=>h.cell b o (c b o d)⟩
theorem Mem.same{S:CS}(h:Same S w w'){b o n:Nat}{cs:List Value}(c:Mem w b o cs)(f:cs.length<=n)(d:CS.le (rng b o n) S):Mem w' b o cs:=λj v a=>by
 have e:j<cs.length:=(fe.1 a).1;rw[h.cell b (o+j) (d _ _ ⟨rfl,by omega,by omega⟩)];exact c j v a
theorem G6{α:Type}{R R':α->List Value->List Pc->Prop}{n:Nat}{nu:Nu}{xs:List α}{S S':CS}(u:∀x c p,R x c p->c.length=n)(h:Same S w w')(g:CS.le S S')
  (y:∀x c p,(∀q∈p,CS.le q.fp S)->R x c p->R' x c p) (z:aF w R n nu xs S):aF w' R' n nu xs S':=by
 obtain⟨j,k,d⟩:=z;refine⟨j,k,?_⟩;cases hb:nu.blk with
 |none=>simp_all
 |some b=>
  simp only[hb]at d;obtain⟨e,l,m,i,C,f,r,t,a⟩:=d;have D:=jJ u _ _ _ f;have E:xs.length*n<=nu.cap*n:=iv _ e;exact⟨e,l,h.row _ _ m,i,C,pG (Q:=λq=>CS.le q.fp S) y _ _ _ (λq A=>a _ (Xf _ (fU A))) f,r.same h (n:=nu.cap*n) (by omega) (a _ (Xg ..)),t,λs B b o v=>g b o (a s B b o v)⟩
theorem lG(g:GLe G G'):∀(t:Ty) (d:t.den) (vs:List Value) (f:List Pc),(∀p∈f,Same p.fp w w')->WF G w t d vs f->WF G' w' t d vs f
 | .own e,E,vs,f,i,⟨p,j,l,m⟩=>by
  subst j;have r:=i p (bH.2 rfl);exact⟨p,rfl,l,G6 (λx c q o=>WN e x c q o) r (λ_ _ u=>u) (λx c q v o=>lG g e x c q (λB y=>r.mono (v B y)) o) m⟩
 | .prod a b,d,vs,f,i,⟨C,D,z,A,j,l,m,s⟩=>by
  subst l;exact⟨C,D,z,A,j,rfl,lG g a _ _ _ (λp n=>i p (Xm _ n)) m,lG g b _ _ _ (λp n=>i p (Xh _ n)) s⟩
 | .int k,d,vs,f,_,h=>⟨h.1,j3 g _ _ _ h.2⟩
 | .bool,d,vs,f,_,h=>⟨h.1,j3 g _ _ _ h.2⟩
 | .str,d,vs,f,_,h=>⟨h.1,j3 g _ _ _ h.2⟩
 | .slice e,d,vs,f,_,h=>⟨h.1,j3 g _ _ _ h.2⟩
theorem Same.refl(S:CS)(w:World):Same S w w:=⟨λ_ _ h=>h,λ_ _ _=>rfl⟩
theorem v6(d:GLe G G'){e:Ty}{nu:Nu}{xs:List e.den}{S S':CS}(h:Same S w w')(b:CS.le S S')(f:aF w (WF G w e) e.size nu xs S):aF w' (WF G' w' e) e.size nu xs S':=
 G6 (λx c q a=>WN e x c q a) h b (λx c q g a=>lG d e x c q (λj i=>h.mono (g j i)) a) f
theorem QI(m:GLe G G'){e:Ty}{nu p:Nu}{xs:List e.den}{i:Nat}{S S':CS}(h:Same S w w')(r:CS.le S S')(L:mW w (WF G w e) e.size nu p xs i S):mW w' (WF G' w' e) e.size nu p xs i S':=by
 obtain⟨A,B,C,b,D,E,F,H,I,J,t,u,P,R,k,l,v,y,z,d⟩:=L;have N:=jJ (λx c q a=>WN e x c q a) _ _ _ k;have O:=jJ (λx c q a=>WN e x c q a) _ _ _ l;rw[di,fV (by omega)]at N;rw[Fa]at O;have T:(xs.length-(i+1))*e.size<=(nu.cap-(i+1))*e.size:=iv _ (by omega);refine⟨A,B,C,b,D,E,F,H,I,h.row _ _ J,t,u,P,R,?_,?_,?_,?_,z,λs M b o K=>r b o (d s M b o K)⟩
 .exact pG (Q:=λq=>CS.le q.fp S) (λx c q f a=>lG m e x c q (λj g=>h.mono (f j g)) a) _ _ _ (λq f=>d _ (by grind)) k
 .exact pG (Q:=λq=>CS.le q.fp S) (λx c q f a=>lG m e x c q (λj g=>h.mono (f j g)) a) _ _ _ (λq f=>d _ (by grind)) l
 .exact v.same h (n:=i*e.size) (by omega) (d _ (Xg ..))
 .exact y.same h (n:=(nu.cap-(i+1))*e.size) (by omega) (d _ (Xf _ (Xg ..)))
theorem DL(l:GLe G G'){ν ν':Nat->Nu}{nx am a:Nat}{S f:CS}(h:Same S w w')(g:CS.le S f)(c:nc nx ν ν')(x:nx<=am)(d:a<nx):
  ∀(q:Ob),fc G ν nx w a S q->fc G' ν' am w' a f q
 | .dead,_=>trivial
 | .box cs,⟨b,y,r,s,t,j,k⟩=>by
  refine⟨b,y,by rw[c a d];exact r,by rw[c a d];exact h.row _ _ s,by rw[c a d];exact t.same h (n:=cs.length) (by rw[j.1];omega) k,j.mono l c x,by rw[c a d];exactλb o u=>g b o (k b o u)⟩
 | .arr e xs,m=>by
  show aF w' (WF G' w' e) e.size (ν' a) xs f;rw[c a d];exact v6 l h g m
 | .hole e xs i p,⟨v,m⟩=>by
  show p<am/\mW w' (WF G' w' e) e.size (ν' a) (ν' p) xs i f;rw[c a d,c p v];grind [mb,QI]
theorem GP{ν:Nat->Nu}{nx:Nat}:∀(t:Ty) (d:t.den) (vs:List Value) (c:List Pc),WF G w t d vs c->CellsRel G ν nx (split t d) vs
 | .own e,d,vs,c,⟨p,_,h,_⟩=>by rw[h];exact CellsRel.one trivial (Em _)
 | .prod a b,d,vs,c,⟨n,o,l,m,f,j,g,i⟩=>by
  rw[f];exact(GP a _ _ _ g).append (GP b _ _ _ i)
 | .int k,d,vs,c,h=>jU _ _ _ h.2
 | .bool,d,vs,c,h=>jU _ _ _ h.2
 | .str,d,vs,c,h=>jU _ _ _ h.2
 | .slice e,d,vs,c,h=>jU _ _ _ h.2
theorem Wu8{A a B b:Type}(c:A=a)(e:B=b)(h:(A×B)=(a×b))(d:A×B):cast h d=(cast c d.1,cast e d.2):=by
 grind
theorem Wsj{A a:Type}(b:A=a)(h:List A=List a)(x:A)(l:List A):cast h (x::l)=cast b x::cast h l:=by
 grind
theorem WvC{A a:Type}(b:A=a)(h:List A=List a):cast h ([]:List A)= []:=by
 grind
theorem WpF{A a:Type}(b:A=a)(h:List A=List a)(l:List A):(cast h l).length=l.length:=by
 grind
theorem WtH(a b:Ty)(d:(Ty.prod a b).den):tp (.prod a b) d=(tp a d.1,tp b d.2):=Wu8 (lP a).symm (lP b).symm _ d
theorem WrU(e:Ty)(x:e.den)(l:List e.den):fi e (x::l)=tp e x::fi e l:=Wsj (lP e).symm _ x l
theorem RR(e:Ty):fi e []= []:=WvC (lP e).symm _
theorem GB(e:Ty)(l:List e.den):(fi e l).length=l.length:=WpF (lP e).symm _ l
theorem jE:∀t:Ty,t.ro.size=t.size
 | .prod a b=>by simp only[Ty.ro,Ty.size,jE a,jE b]
 | .own _| .slice _| .int _| .bool| .str=>rfl
theorem M1:∀t:Ty,t.ro.data=true
 | .prod a b=>by simp only[Ty.ro,Ty.data,M1 a,M1 b];rfl
 | .own _| .slice _| .int _| .bool| .str=>rfl
def Froz(G:GH)(w:World)(S:CS):Prop:=∀b o v,S b o->w.cell? ⟨b,o,none⟩=some v->G b o=some v
theorem Froz.mono{G:GH}{S S':CS}(h:Froz G w S)(a:CS.le S' S):Froz G w S':=λb o v c=>h b o v (a b o c)
theorem Mem.stored{b o n:Nat}{cs:List Value}(d:Mem w b o cs)(f:cs.length<=n)(c:Froz G w (rng b o n)):ox G b o cs:=λj v a=>by
 have e:j<cs.length:=(fe.1 a).1;exact c b (o+j) v ⟨rfl,by omega,by omega⟩ (d j v a)
theorem Hm{e:Ty}(g:∀(x:e.den) (c:List Value) (p:List Pc),(∀q∈p,Froz G' w q.fp)->WF G w e x c p->Enc G' e.ro (tp e x) c):
  ∀(xs:List e.den) (cs:List Value) (a:List Pc),(∀q∈a,Froz G' w q.fp)->cJ (WF G w e) xs cs a->b4 (Enc G' e.ro) (fi e xs) cs
 | [],cs,a,_,h=>by rw[RR];exact h.1
 |x::xs,cs,a,i,⟨d,f,n,o,j,k,l,m⟩=>by
  subst k;rw[WrU];exact⟨d,f,j,g x d n (λq b=>i q (Xm _ b)) l,Hm g xs f o (λq b=>i q (Xh _ b)) m⟩
theorem TQ{e:Ty}(o:∀(x:e.den) (c:List Value) (p:List Pc),(∀q∈p,Froz G' w q.fp)->WF G w e x c p->Enc G' e.ro (tp e x) c){nu:Nu}{xs:List e.den}{S:CS}
  (i:Froz G' w S) (h:aF w (WF G w e) e.size nu xs S):oF G' (Enc G' e.ro) (fi e xs) nu.hdr:=by
 obtain⟨j,u,a⟩:=h;unfold Nu.hdr;cases hb:nu.blk with
 |none=>simp only[hb]at a;exact .inl ⟨rfl,by rw[a,RR]⟩
 |some b=>
  simp only[hb]at a;obtain⟨k,l,v,f,t,g,m,y,d⟩:=a;have z:=jJ (λx c q s=>WN e x c q s) _ _ _ g;have A:xs.length*e.size<=nu.cap*e.size:=iv _ k;refine .inr (.inl ⟨b,nu.off,nu.cap,f,by rw[GB,j],by grind [GB],l,Hm o xs f t (λq r=>i.mono (d _ (Xf _ (fU r)))) g,?_⟩);exact m.stored (n:=nu.cap*e.size) (by omega) (i.mono (d _ (Xg ..)))
theorem wd(g:GLe G G'):∀(t:Ty) (d:t.den) (vs:List Value) (f:List Pc),(∀p∈f,Froz G' w p.fp)->WF G w t d vs f->Enc G' t.ro (tp t d) vs
 | .own e,A,vs,f,i,⟨p,j,l,m⟩=>by
  subst j;exact⟨_,l,TQ (λx c q r s=>wd g e x c q r s) (i p (bH.2 rfl)) m⟩
 | .prod a b,d,vs,f,i,⟨u,v,y,z,j,l,m,o⟩=>by
  subst l;rw[WtH];exact⟨u,v,j,wd g a _ _ _ (λp n=>i p (Xm _ n)) m,wd g b _ _ _ (λp n=>i p (Xh _ n)) o⟩
 | .int k,d,vs,f,_,h=>j3 g (.int k) _ _ h.2
 | .bool,d,vs,f,_,h=>j3 g .bool _ _ h.2
 | .str,d,vs,f,_,h=>j3 g .str _ _ h.2
 | .slice e,d,vs,f,_,h=>j3 g (.slice e) _ _ h.2
theorem Mc(b:GLe G G'){e:Ty}{nu:Nu}{xs:List e.den}{S:CS}(a:Froz G' w S)(h:aF w (WF G w e) e.size nu xs S):oF G' (Enc G' e.ro) (fi e xs) nu.hdr:=
 TQ (λx c q d f=>wd b e x c q d f) a h
theorem UC{b:Nat}{vs:Array Value}{T:TypeId}(h:w.heap[b]?=some (Obj.cells vs T (0,0))){o:Nat}{cs:List Value}(a:∀j v,cs[j]?=some v->vs.toList[o+j]?=some v):Mem w b o cs:=λj v c=>by
 grind [cell_of_row]
theorem Mem.left{b o:Nat}{c1 a:List Value}(h:Mem w b o (c1++a)):Mem w b o c1:=λj v c=>h j v (by grind)
theorem Mem.right{b o n:Nat}{a c2:List Value}(h:Mem w b o (a++c2))(d:a.length=n):Mem w b (o+n) c2:=λj v c=>by
 have:=h (n+j) v (by grind)
 grind
theorem Mem.app{b o n:Nat}{a d:List Value}(e:Mem w b o a)(f:Mem w b (o+n) d)(g:a.length=n):Mem w b o (a++d):=λj v c=>by
 rw[hG]at c;split at c
 .exact e j v c
 .rename_i ab;have:=f (j-a.length) v c
  grind
theorem WtD{e:Ty}{nu:Nu}{xs:List e.den}{S:CS}{b i:Nat}(h:aF w (WF G w e) e.size nu xs S)(m:nu.blk=some b)(hi:i<xs.length):
  ∃c p,WF G w e (xs.getD i e.dflt) c p/\Mem w b (nu.off+i*e.size) c:=by
 obtain⟨y,z,a⟩:=h;simp only[m]at a;obtain⟨A,B,C,t,H,l,d,D,s⟩:=a;obtain⟨o,c,r,E,p,F,g,u,j,k,v⟩:=M8 l e.dflt hi;refine⟨c,p,k,?_⟩;rw[g]at d;have f:=jJ (λx c q n=>WN e x c q n) _ _ _ j;rw[di,fV (by omega)]at f;exact(d.right f).left
theorem AF{e:Ty}(i:e.data=true){nu:Nu}{xs:List e.den}{S:CS}{b:Nat}(h:aF w (WF G w e) e.size nu xs S)(g:nu.blk=some b):
  xs.length=nu.len/\xs.length<=nu.cap/\nu.cap<=maxLen/\Row w b (nu.off+nu.cap*e.size)/\∃a,b4 (Enc G e) xs a/\Mem w b nu.off a/\CS.le (rng b nu.off (nu.cap*e.size)) S:=by
 obtain⟨c,d,f⟩:=h
 grind [q9,Xg]
theorem Rh{e:Ty}(k:e.data=true){nu:Nu}{xs:List e.den}{S:CS}{b:Nat}{cs:List Value}(j:nu.blk=some b)(a:xs.length=nu.len)(c:nu.esz=e.size)(d:xs.length<=nu.cap)(f:nu.cap<=maxLen)
  (g:Row w b (nu.off+nu.cap*e.size)) (h:b4 (Enc G e) xs cs) (i:Mem w b nu.off cs) (l:CS.le (rng b nu.off (nu.cap*e.size)) S):aF w (WF G w e) e.size nu xs S:=by
 refine⟨a,c,?_⟩;simp only[j];exact⟨d,f,g,cs,[],(q9 k xs cs []).2 ⟨h,rfl⟩,i,bq.2 ⟨by simp,List.Pairwise.nil⟩,λs m=>by simp_all⟩
theorem q7{e:Ty}{nu:Nu}{xs:List e.den}{S:CS}(h:aF w (WF G w e) e.size nu xs S)(d:nu.blk=none):xs= []:=by
 obtain⟨a,b,c⟩:=h;simp_all
end
set_option linter.unusedSimpArgs false
def df:Ty->List Value
 | .prod a b=>df a++df b
 | .int k=>[.int k 0]
 | .bool=>[.bool false]
 | .str=>[.string ⟨#[]⟩]
 | .slice _=>[.slice none 0 0]
 | .own _=>[.pointer none]
def rep{α:Type}(l:List α):Nat->List α
 |0=>[]
 |n+1=>l++rep l n
def TE.cells(a:TE):List Value:=match a.shape with
 | .arr n _=>rep (df a.ty) n
 |_=>df a.ty
def TE.size(a:TE):Nat:=match a.shape with
 | .arr n _=>n*a.ty.size
 |_=>a.ty.size
structure TEok(P:Program)(T:Tab)(t:TypeId)(te:TE):Prop where
 und:match te.shape with
  | .basic=>te.agg=false/\(match te.ty with
   | .int k=>P.underlying t=some (.int k)
   | .bool=>P.underlying t=some .bool
   | .str=>P.underlying t=some .string
   |_=>False)
  | .slice e=>te.agg=false/\P.underlying t=some (.slice e)/\∃eQ,Wt T e=some eQ/\te.ty= .slice eQ.ty
  | .struct fs=>te.agg=true/\∃fields:Array Field,P.underlying t=some (.struct fields)/\fields.toList.map (λf=>(f.offset,f.type))=fs/\
    (∀f∈fields,f.name≠ "_")∧P.stoodInHeld t=false∧P.eqGuardType P.depth t=false
  | .ptr e=>te.agg=false/\P.underlying t=some (.pointer e)
  | .arr n e=>te.agg=true/\P.underlying t=some (.array n e)/\∃eQ,Wt T e=some eQ/\eQ.ty=te.ty/\∀m f,eQ.shape≠ .arr m f
 info:∃i z,P.info? t=some i/\i.size=te.size/\i.zero=some z/\z.cells.toList=te.cells/\i.bytes<=4096
def aO(P:Program)(T:Tab):Prop:=∀t a,Wt T t=some a->TEok P T t a
theorem mH:∀t:Ty,0<t.size
 | .prod a b=>by have:=mH a;simp[Ty.size];omega
 | .int _| .bool| .str| .slice _| .own _=>by simp[Ty.size]
section
variable{P:Program}{T:Tab}{w:World}
theorem Wj{t:TypeId}{d:TypeDesc}(h:P.underlying t=some d):(underlying t).run P w= .ok d w:=by
 simp[underlying,h]
theorem Po{t:TypeId}{i:TypeInfo}(h:P.info? t=some i):(typeInfo t).run P w= .ok i w:=by
 simp[typeInfo,h]
theorem WrE{t:TypeId}{i:TypeInfo}(h:P.info? t=some i):(sizeOf t).run P w= .ok i.size w:=by
 simp[sizeOf,Po h]
theorem TEok.sizeOf{t:TypeId}{a:TE}(h:TEok P T t a):(sizeOf t).run P w= .ok a.size w:=by
 obtain⟨i,z,b,c,_⟩:=h.info;rw[WrE b,c]
theorem TEok.isAgg{t:TypeId}{b:TE}(h:TEok P T t b):(isAgg t).run P w= .ok b.agg w:=by
 have a:=h.und;obtain⟨g,c,shape⟩:=b;cases shape with
 |basic=>
  obtain⟨d,a⟩:=a;cases g<;>simp only at a<;>first|exact a.elim|simp_all [Go.isAgg,Wj]
 |slice e=>simp_all [Go.isAgg,Wj]
 |struct fs=>obtain⟨d,f,a,_⟩:=a;simp_all [Go.isAgg,Wj]
 |ptr e=>simp_all [Go.isAgg,Wj]
 |arr n e=>simp_all [Go.isAgg,Wj]
end
theorem jI(b o j:Nat):(⟨b,o,none⟩:Addr).add j=⟨b,o+j,none⟩:=by
 simp[Addr.add]
section
variable{P:Program}{T:Tab}{w:World}{G:GH}{ν:Nat->Nu}{objs:ad}{nx:Nat}
theorem W9{a:TE}(h:a.plain=true):a.size=a.ty.size:=by
 unfold TE.plain at h;unfold TE.size;split at h<;>simp_all
theorem Lw{t:TypeId}{a:TE}(f:TEok P T t a)(l:a.plain=true){b o off:Nat}{cs:List Cell}{us:List Value}{x:AVal}
  (e:CellsRel G ν nx cs us) (p:∀(j:Nat) (v:Value),us[j]?=some v->w.cell? ⟨b,o+j,none⟩=some v)
  (d:sub a.agg cs off a.ty.size=some x):
  ∃v,(loadVar t ⟨b,o+off,none⟩).run P w= .ok v w/\AValRel G ν nx x v:=by
 have k:a.size=a.ty.size:=W9 l;unfold sub at d;simp only[loadVar,Sem.run_bind,f.isAgg,Result.andThen_ok];cases ha:a.agg with
 |true=>
  simp only[ha,ep]at d⊢;split at d
  .rename_i aU;injection d with d;subst d;have h:((us.drop off).take a.ty.size).length=a.ty.size:=by simp[e.1];omega
   have g:=run_loadCells_list (P:=P) w ⟨b,o+off,none⟩ ((us.drop off).take a.ty.size) (λj v n=>by
    grind [jI,eK])
   rw[h]at g;refine⟨.agg ((us.drop off).take a.ty.size).toArray,?_,_,rfl,(e.drop off).take _⟩;simp[f.sizeOf,k,g]
  grind
 |false=>
  simp only[ha]at d⊢;cases cu:cs[off]? with
  |none=>simp_all
  |some c=>
   simp[cu]at d;subst d;have i:off<us.length:=by rw[e.1];grind
   have m:us[off]?=some us[off]:=Xp i;refine⟨us[off],?_,e.2 off c _ cu m⟩;simp_all
end
section
variable{w0:World}{F:CS}{nt:Slots}{G0 G:GH}{ν:Nat->Nu}{st:St}{a:Act}{w:World}{P:Program}{T:Tab}
theorem Wu7{G:GH}:∀(t:Ty) (d:t.den) (v:Value),Enc G t d [v]->v.oneCell'=true
 | .int _,_,_,h=>by grind [Enc,Value.oneCell']
 | .bool,_,_,h=>by grind [Enc,Value.oneCell']
 | .str,_,_,h=>by grind [Enc,Value.oneCell']
 | .slice _,_,_,h=>by
  obtain⟨v,c,e⟩:=h;simp at c;subst c;rcases e with⟨rfl,_⟩|⟨_,_,_,_,rfl,_⟩|⟨_,_,rfl,_⟩<;>rfl
 | .own _,_,_,h=>h.elim
 | .prod a b,d,v,h=>by
  have:=dF _ _ _ h
  grind [mH,Ty.size]
theorem WV{t:Ty}{d:t.den}{v:Value}(h:Enc G t d [v]):AValRel G ν st.nx (one t d) v:=
 ⟨h,Wu7 t d v h⟩
theorem O9:∀(v:Value) (c:Cell),iS v=some c->CellRel G ν st.nx c v/\v.oneCell'=true
 | .int k n,c,h=>by simp[iS]at h;subst h;exact⟨rfl,rfl⟩
 | .bool b,c,h=>by simp[iS]at h;subst h;exact⟨rfl,rfl⟩
 | .string s,c,h=>by simp[iS]at h;subst h;exact⟨by simp[CellRel,Enc],rfl⟩
 | .slice none 0 0,c,h=>by simp[iS]at h;subst h;exact⟨rfl,rfl⟩
 | .slice none 0 (n+1),c,h=>by simp[iS]at h
 | .slice none (n+1) _,c,h=>by simp[iS]at h
 | .slice (some _) _ _,c,h=>by simp[iS]at h
 | .pointer none,c,h=>by simp[iS]at h;subst h;exact⟨trivial,rfl⟩
 | .nilFunc,c,h=>by simp[iS]at h;subst h;exact⟨trivial,rfl⟩
 | .float _ _,_,h| .complex _ _ _,_,h| .pointer (some _),_,h| .map _,_,h| .chan _,_,h| .func _ _ _,_,h| .iface _ _,_,h| .nilIface,_,h| .agg _,_,h| .tuple _,_,h=>by simp[iS]at h
theorem To:∀(vs:List Value) (cs:List Cell),vs.mapM iS=some cs->CellsRel G ν st.nx cs vs
 | [],cs,h=>by grind [CellsRel.nil]
 |v::vs,cs,h=>by
  simp only[Fi,Option.bind_eq_bind,Option.bind_eq_some_iff]at h;obtain⟨c,f,b,g,a⟩:=h;simp at a;subst a;obtain⟨d,e⟩:=O9 (G:=G) (ν:=ν) (st:=st) v c f;exact(CellsRel.one d e).append (To vs b g)
theorem WU(h:Rel w0 F nt G0 G ν st a w):∀(x:Operand) (b:AVal),ev st x=some b->AValRel G ν st.nx b (a.eval x)
 | .tmp t,b,he=>by
  obtain⟨v,m,k⟩:=h.env t b he;simpa [Act.eval,m]using k
 | .const v,b,he=>by
  simp only[ev,Ts]at he;split at he
  .rename_i cs;cases hm:cs.toList.mapM iS with
   |none=>simp[hm]at he
   |some l=>
    simp[hm]at he;subst he;exact⟨cs.toList,by simp[Act.eval],To _ _ hm⟩
  .cases hm:iS v with
   |none=>simp[hm]at he
   |some c=>
    simp[hm]at he;subst he;obtain⟨d,e⟩:=O9 (G:=G) (ν:=ν) (st:=st) v c hm;exact⟨d,e⟩
 | .func f,b,he=>by
  simp[ev]at he;subst he;exact⟨⟨[],rfl,rfl,λj n u i=>by simp at i⟩,rfl⟩
 | .global g,b,he=>by simp[ev]at he
theorem xc(b:AVal)(v:Value)(n:Int)(h:AValRel G ν st.nx b v)(a:asI b=some n):∃k,v= .int k n:=by
 unfold asI at a;split at a
 .rename_i k m;injection a with a;subst a;obtain⟨c,_⟩:=h;simp[CellRel,Enc]at c;exact⟨k,c⟩
 .simp at a
theorem Np(c:AVal)(v:Value)(b:Bool)(h:AValRel G ν st.nx c v)(a:asB c=some b):v= .bool b:=by
 unfold asB at a;split at a
 .injection a with a;subst a;obtain⟨d,_⟩:=h;simpa [CellRel,Enc]using d
 .simp at a
def Gives(P:Program)(G:GH)(ν:Nat->Nu)(st:St)(w:World)(s:Sem Value)(r:AVal):Prop:=∃v,s.run P w= .ok v w/\AValRel G ν st.nx r v
theorem Gives.one{s:Sem Value}{t:Ty}{d:t.den}{v:Value}(a:s.run P w= .ok v w)(h:Enc G t d [v]):Gives P G ν st w s (Sx.one t d):=⟨v,a,WV h⟩
theorem Wrd{a:BinOp}{k:IntKind}{x y:Int}{r:AVal}(t:TypeId)(c:a≠ .shl)(b:a≠ .shr)(h:K8 a k x y=some (true,r)):
  Gives P G ν st w (Go.binOp a t (.int k x) (.int k y)) r:=by
 cases a<;>simp[K8,inz]at h<;>first
  |exact Wi rfl c
  |exact Wi rfl b
  |(subst h;exact⟨_,by simp only[Go.binOp,ne_eq,not_true_eq_false,gH,↓reduceIte,Op.intArith,Op.intBits,Op.intCmp]<;>rfl,WV rfl⟩)
  |(obtain⟨d,rfl⟩:=h;exact⟨_,by simp[Go.binOp,Op.intDiv,d,gV,bp]<;>rfl,WV rfl⟩)
theorem Px{a:BinOp}{k c:IntKind}{x y:Int}{r:AVal}(t:TypeId)(h:(a= .shl/\(true,r)=(inn y,Sx.one (.int k) (K6 k x y)))\/(a= .shr/\(true,r)=(inn y,Sx.one (.int k) (nj k x y)))):
  Gives P G ν st w (Go.binOp a t (.int k x) (.int c y)) r:=by
 rcases h with⟨rfl,h⟩|⟨rfl,h⟩<;>simp[inn]at h<;>obtain⟨b,rfl⟩:=h
 .exact⟨_,by simp[Go.binOp,Op.shift,Int.not_lt.2 b,K6]<;>rfl,WV rfl⟩
 .exact⟨_,by simp[Go.binOp,Op.shift,Int.not_lt.2 b,nj]<;>rfl,WV rfl⟩
theorem Wsa{a:BinOp}{x y:List UInt8}{r:AVal}(t:TypeId)(h:KZ a x y=some (true,r)):
  Gives P G ν st w (Go.binOp a t (.string ⟨x.toArray⟩) (.string ⟨y.toArray⟩)) r:=by
 cases a<;>simp[KZ]at h
 .obtain⟨c,rfl⟩:=h;simp[OS]at c;refine⟨.string ⟨(x++y).toArray⟩,?_,WV rfl⟩;have e:(ByteArray.mk x.toArray++ByteArray.mk y.toArray)=⟨(x++y).toArray⟩:=by
   apply ByteArray.ext;simp
  have b:¬((((ByteArray.mk x.toArray).size+(ByteArray.mk y.toArray).size:Nat):Int)>IntKind.i64.max):=by
   have d:IntKind.i64.max=9223372036854775807:=by decide
   simp only[ByteArray.size,List.size_toArray,d];omega
  simp only[Go.binOp,Op.stringOp,Wa b,e];rfl
 .subst h;exact⟨_,by simp[Go.binOp,Op.stringOp]<;>rfl,WV rfl⟩
 .subst h;exact⟨_,by simp[Go.binOp,Op.stringOp]<;>rfl,WV rfl⟩
theorem Wzu(x y:List UInt8):((ByteArray.mk x.toArray).toList==(ByteArray.mk y.toArray).toList)=seq x y:=by simp[seq]
theorem WlD{g:TE}{c d:Cell}{b:Bool}{u v:Value}{t:TypeId}(i:TEok P T t g)(a:CellRel G ν st.nx c u)(e:CellRel G ν st.nx d v)
  (h:Hz g c d=some b) (n:Nat):(Op.equalIn (n+1) t u v).run P w= .ok b w/\g.agg=false:=by
 have f:=i.und;unfold Hz at h;split at h
 .split at h
  .rename_i hk;subst hk;injection h with h;subst h;simp only[CellRel,Enc,List.cons.injEq,and_true]at a e;subst a e;exact⟨run_equalIn_int w n t _ _ _ _ f.2,rfl⟩
  .simp at h
 .injection h with h;subst h;simp only[CellRel,Enc,List.cons.injEq,and_true]at a e;subst a e;exact⟨run_equalIn_bool' w n t _ _ f.2,rfl⟩
 .injection h with h;subst h;simp only[CellRel,Enc,List.cons.injEq,and_true]at a e;subst a e;exact⟨(run_equalIn_string w n t _ _ f.2).trans (Wp (Result.ok · w) (Wzu _ _)),rfl⟩
 .simp at h
theorem Tl{t:TypeId}{a:TE}(b:TEok P T t a)(c:a.agg=false)(cs:Array Value)(off:Nat)(v:Value)(h:cs[off]?=some v):(part t cs off).run P w= .ok v w:=by
 simp only[part,Sem.run_bind,b.isAgg,Result.andThen_ok,c];simp[h]
theorem Pd(g:aO P T)(n:Nat)(xs i:Array Value):∀(a:List Field) (k:Nat) (cs e:List Cell) (b:Bool),
  (∀f∈a,f.name≠ "_")→a.map (·.offset)=List.range' k a.length→
  (∀(j:Nat) (c:Cell),cs[j]?=some c->∃v,xs[k+j]?=some v/\CellRel G ν st.nx c v)->
  (∀(j:Nat) (c:Cell),e[j]?=some c->∃v,i[k+j]?=some v/\CellRel G ν st.nx c v)->
  mJ T (a.map (·.type)) cs e=some b->(Op.eqFields (n+1) xs i a).run P w= .ok b w
 | [],k,[],[],b,_,_,_,_,h=>by simp[mJ]at h;subst h;rfl
 |f::fs,k,c::cs,d::e,b,r,m,x,y,h=>by
  simp only[bK,mJ]at h;cases hl:Wt T f.type with
  |none=>simp[hl]at h
  |some te=>
   simp only[hl]at h;cases h1:Hz te c d with
   |none=>simp[h1]at h
   |some p=>
    cases h2:mJ T (fs.map (·.type)) cs e with
    |none=>simp[h1,h2]at h
    |some q=>
     simp[h1,h2]at h;subst h;obtain⟨u,s,z⟩:=x 0 c rfl;obtain⟨v,t,A⟩:=y 0 d rfl;obtain⟨B,o⟩:=WlD (w:=w) (g _ _ hl) z A h1 n;simp only[bK,Xu,List.range'_succ,List.cons.injEq]at m;have D:=Pd g n xs i fs (k+1) cs e q (λf C=>r f (Xf _ C)) m.2
      (λj c l=>by have:=x (j+1) c (by simpa using l);rwa [eK,qG 1 j])
      (λj c l=>by have:=y (j+1) c (by simpa using l);rwa [eK,qG 1 j]) h2
     simp only[Op.eqFields,Wb (r f (Xg ..)),Sem.run_bind,m.1];rw[eL]at s t;rw[Tl (g _ _ hl) o xs k u s,Result.andThen_ok,Tl (g _ _ hl) o i k v t,Result.andThen_ok,B,Result.andThen_ok];cases p
     .simp
     .simpa using D
 | [],_,_::_,_,_,_,_,_,_,h=>by simp[mJ]at h
 | [],_,[],_::_,_,_,_,_,_,h=>by simp[mJ]at h
 |_::_,_,[],_,_,_,_,_,_,h=>by simp[mJ]at h
 |_::_,_,_::_,[],_,_,_,_,_,h=>by simp[mJ]at h
theorem DD{a:BinOp}{t:TypeId}{x y:Operand}{u v:Value}(d:∀b,u≠ .agg b)(c:u≠ .nilIface):(eqGuard a t x y u v).run P w= .ok () w:=by
 unfold eqGuard;cases a<;>simp<;>cases u<;>cases v<;>first|rfl|exact Wi rfl c|exact Wi rfl (d _)
theorem Wpr(D:aO P T){n:BinOp}{t:TypeId}{x y:AVal}{u v:Value}{r:AVal}(p q:Operand)(a:AValRel G ν st.nx x u)(d:AValRel G ν st.nx y v)
  (h:Sx.binOp T n t x y=some (true,r)):Gives P G ν st w (do eqGuard n t p q u v;Go.binOp n t u v) r:=by
 unfold Sx.binOp at h;split at h
 .rename_i k m k' m';obtain⟨a,_⟩:=a;obtain⟨d,_⟩:=d;simp only[CellRel,Enc,List.cons.injEq,and_true]at a d;subst a d;have N:(eqGuard n t p q (.int k m) (.int k' m')).run P w= .ok () w:=DD (by simp) (by simp)
  suffices hh:Gives P G ν st w (Go.binOp n t (.int k m) (.int k' m')) r by
   obtain⟨z,B,C⟩:=hh;exact⟨z,by simp[N,B],C⟩
  split at h
  .injection h with h;exact Px t (.inl ⟨rfl,h.symm⟩)
  .injection h with h;exact Px t (.inr ⟨rfl,h.symm⟩)
  .split at h
   .rename_i hk;subst hk;exact Wrd t (by assumption) (by assumption) h
   .simp at h
 .rename_i m m';obtain⟨a,_⟩:=a;obtain⟨d,_⟩:=d;simp only[CellRel,Enc,List.cons.injEq,and_true]at a d;subst a d;obtain⟨z,B,C⟩:=Wsa (w:=w) (P:=P) (G:=G) (ν:=ν) (st:=st) t h;exact⟨z,by simp[DD,B],C⟩
 .rename_i m m';obtain⟨a,_⟩:=a;obtain⟨d,_⟩:=d;simp only[CellRel,Enc,List.cons.injEq,and_true]at a d;subst a d;split at h
  .rename_i hl;have l:=(D _ _ hl).und;simp only[true_and]at l;have e:(Op.equalIn 10000 t (.bool m) (.bool m')).run P w= .ok (beq m m') w:=run_equalIn_bool' w 9999 t m m' l;split at h<;>simp at h
   .subst h;exact⟨.bool (beq m m'),by simp[DD,Go.binOp,Op.equal,Op.maxDepth,e],WV rfl⟩
   .subst h;exact⟨.bool (!beq m m'),by simp[DD,Go.binOp,Op.equal,Op.maxDepth,e],WV rfl⟩
  .simp at h
 .rename_i cs ds;obtain⟨s,rfl,E⟩:=a;obtain⟨A,rfl,H⟩:=d;split at h
  .rename_i fs hl;obtain⟨_,fields,l,F,K,L,I⟩:=(D _ _ hl).und;split at h
   .rename_i o;have o:=Wx o;have J:P.fieldsOf t=fields:=by simp[Program.fieldsOf,l]
    have e:∀b,mJ T (fs.map (·.2)) cs ds=some b->(Op.equalIn 10000 t (.agg s.toArray) (.agg A.toArray)).run P w= .ok b w:=λb g=>by
     rw[run_equalIn_struct w 9999 t _ _ (by rw[J];exact l) L,J];refine Pd (G:=G) (ν:=ν) (st:=st) D 9998 s.toArray A.toArray fields.toList 0 cs ds b (λf M=>K f (by simpa using M)) ?_ ?_ ?_ ?_
     .rw[←F]at o;simpa [List.range_eq_range',Function.comp_def]using o
     .intro j c hj;have i:j<s.length:=by rw[E.1];exact(fe.1 hj).1
      exact⟨s[j],by simp[i],(E.2 j c _ hj (Xp i)).1⟩
     .intro j c hj;have i:j<A.length:=by rw[H.1];exact(fe.1 hj).1
      exact⟨A[j],by simp[i],(H.2 j c _ hj (Xp i)).1⟩
     .rw[←F]at g;simpa [Function.comp_def]using g
    split at h
    .rename_i b g;simp at h;subst h;exact⟨.bool b,by simp[run_eqGuard_agg w _ t p q _ _ I,run_eql_struct,e b g],WV rfl⟩
    .rename_i b g;simp at h;subst h;exact⟨.bool (!b),by simp[run_eqGuard_agg w _ t p q _ _ I,run_neq_struct,e b g],WV rfl⟩
    .simp at h
   .simp at h
  .simp at h
 .simp at h
end
section
variable{w0:World}{F:CS}{nt:Slots}{G0 G:GH}{ν:Nat->Nu}{st:St}{a:Act}{w:World}{P:Program}{T:Tab}
theorem HRel.g{objs:ad}{nx:Nat}(h:HRel w0 F G ν objs nx w){b o:Nat}{v:Value}(a:G b o=some v):w.cell? ⟨b,o,none⟩=some v:=by
 obtain⟨φ,h⟩:=h;exact h.g b o v a
theorem HRel.obj{objs:ad}{nx:Nat}(h:HRel w0 F G ν objs nx w){a:Nat}{ob:Ob}(b:Wt objs a=some ob):∃S,fc G ν nx w a S ob:=by
 obtain⟨φ,h⟩:=h;exact⟨φ a,h.ob a ob b⟩
theorem Bv{k:IntKind}{n:Int}{v:Value}(h:AValRel G ν st.nx (.s (.one (.val (.int k) n))) v):v= .int k n:=by
 obtain⟨h,_⟩:=h
 grind [CellRel,Enc]
theorem Mz{n:Bool}{v:Value}(h:AValRel G ν st.nx (.s (.one (.val .bool n))) v):v= .bool n:=by
 obtain⟨h,_⟩:=h
 grind [CellRel,Enc]
theorem Hp{s:List UInt8}{v:Value}(h:AValRel G ν st.nx (.s (.one (.val .str s))) v):v= .string ⟨s.toArray⟩:=by
 obtain⟨h,_⟩:=h
 grind [CellRel,Enc]
theorem WrO{b:UnOp}{x:AVal}{u:Value}{r:AVal}(a:AValRel G ν st.nx x u)(h:Sx.unOp b x=some (true,r)):Gives P G ν st w (Op.unary b u) r:=by
 unfold Sx.unOp at h;split at h
 .have:=Mz a;subst this;simp at h;subst h;exact⟨_,rfl,WV rfl⟩
 .have:=Bv a;subst this;simp at h;subst h;exact⟨_,rfl,WV rfl⟩
 grind
theorem WxL{d:Nat}{e:Ty}{xs:List e.den}{nx:Nat}{S:CS}(h:fc G ν nx w d S (.arr e xs)):∃a c,(ν d).hdr= .slice a xs.length c:=by
 obtain⟨g,_,f⟩:=h;unfold Nu.hdr;cases hb:(ν d).blk with
 |none=>simp_all
 |some b=>simp_all
theorem Wwj{d:Nat}{e:Ty}{xs:List e.den}{i p nx:Nat}{S:CS}(h:fc G ν nx w d S (.hole e xs i p)):∃a c,(ν d).hdr= .slice a xs.length c:=by
 obtain⟨_,f,_,_,b,g,_⟩:=h;unfold Nu.hdr;simp_all
theorem WyI{t ty:TypeId}(b:P.underlying t=some .string)(s:List UInt8):(Builtin.len_ #[t] ty #[.string ⟨s.toArray⟩]).run P w= .ok (.int .i64 (Wh s)) w:=by
 have a:(Builtin.len_ #[t] ty #[.string ⟨s.toArray⟩]).run P w= .ok (goInt (ByteArray.mk s.toArray).size) w:=by
  simp_all [Builtin.len_,Wj]
 rw[a];rfl
theorem WpL(g:aO P T)(q:HRel w0 F G ν st.objs st.nx w){t ty:TypeId}{x:AVal}{u:Value}{r:AVal}(j:AValRel G ν st.nx x u)(h:oD T st t x=some (true,r)):
  Gives P G ν st w (Builtin.len_ #[t] ty #[u]) r:=by
 unfold oD at h;split at h
 .rename_i te e l _ hl;simp at h;subst h;have d:=(g _ _ hl).und.2.1;obtain⟨⟨v,f,A⟩,_⟩:=j;simp at f;subst f;rcases A with⟨rfl,m⟩|⟨b,B,n,C,rfl,_⟩|⟨a,n,rfl,m⟩
  rotate_left 2
  .exact⟨_,by simp[Builtin.len_,Wj d]<;>rfl,WV (by rw[m];rfl)⟩
  .exact⟨_,by simp[Builtin.len_,Wj d]<;>rfl,WV (by rw[m];rfl)⟩
  .exact⟨_,by simp[Builtin.len_,Wj d]<;>rfl,WV rfl⟩
 .rename_i te e _ hl;simp at h;subst h;have d:=(g _ _ hl).und.2.1;obtain⟨f,_⟩:=j;simp only[CellRel]at f;subst f;exact⟨_,by simp[Builtin.len_,Wj d]<;>rfl,WV rfl⟩
 .rename_i te e id hl;have d:=(g _ _ hl).und.2.1;obtain⟨⟨_,f⟩,_⟩:=j;subst f;unfold obL at h;split at h
  .rename_i e' xs ho;simp at h;subst h;obtain⟨S,k⟩:=q.obj ho;obtain⟨a,c,o⟩:=WxL k;rw[o];exact⟨.int .i64 (Wh xs),by simp[Builtin.len_,Wj d]<;>rfl,WV rfl⟩
  .rename_i e' xs i p ho;simp at h;subst h;obtain⟨S,k⟩:=q.obj ho;obtain⟨a,c,o⟩:=Wwj k;rw[o];exact⟨.int .i64 (Wh xs),by simp[Builtin.len_,Wj d]<;>rfl,WV rfl⟩
  grind
 .rename_i te e id lo hi hl;simp only[Option.some.injEq,Prod.mk.injEq,true_and]at h;subst h;have d:=(g _ _ hl).und.2.1;obtain⟨⟨_,E,H,z,f⟩,_⟩:=j;subst f;unfold Nu.vhdr;cases hb:(ν id).blk with
  |none=>
   have D:=z hb;have y:hi-lo=0:=by omega
   rw[y];exact⟨_,by simp[Builtin.len_,Wj d]<;>rfl,WV rfl⟩
  |some b=>exact⟨.int .i64 ((hi-lo:Nat):Int),by simp[Builtin.len_,Wj d]<;>rfl,WV rfl⟩
 .rename_i s hl;simp at h;subst h;have d:=(g _ _ hl).und.2;have:=Hp j;subst this;exact⟨.int .i64 (Wh (α:=UInt8) s),WyI d s,WV rfl⟩
 grind
theorem F8(g:aO P T){t:TypeId}{f off:Nat}{e:TE}(h:Eb T t f=some (off,e)):
  ∃(a:Array Field) (b:Field),P.underlying t=some (.struct a)/\a[f]?=some b/\b.offset=off/\TEok P T b.type e/\e.plain=true:=by
 unfold Eb at h;split at h
 .rename_i fs hl;obtain⟨_,a,l,j,_⟩:=(g _ _ hl).und;split at h
  .rename_i o ft hf;split at h
   .rename_i eQ bI;split at h
    .rename_i k;injection h with h;injection h with c d;subst c d;rw[←j]at hf;simp only[ff,Array.getElem?_toList]at hf;cases i:a[f]? with
     |none=>simp_all
     |some b=>
      simp[i]at hf;obtain⟨c,d⟩:=hf;subst c d;exact⟨a,b,l,i,rfl,g _ _ bI,k⟩
    grind
   grind
  grind
 grind
theorem Lq{t:TypeId}{f off:Nat}{d:TE}{b o:Nat}{a:Array Field}{c:Field}(j:P.underlying t=some (.struct a))(h:a[f]?=some c)(i:c.offset=off)
  (g:TEok P T c.type d) (k:d.plain=true):(Instr.fieldAt t (.pointer (some ⟨b,o,none⟩)) f).run P w= .ok (.pointer (some ⟨b,o+off,none⟩)) w:=by
 have e:d.size≠0:=by grind [W9,mH]
 simp[Instr.fieldAt,Wj j,h,Instr.sureAddr,fieldPlace,g.sizeOf,e,jI,i]
theorem ZQ(n:aO P T)(z:HRel w0 F G ν st.objs st.nx w){t:TypeId}{f:Nat}{x:AVal}{u:Value}{r:AVal}(q:AValRel G ν st.nx x u)(h:Aq T st t x f=some (true,r)):
  Gives P G ν st w (Instr.fieldAt t u f) r:=by
 unfold Aq at h;split at h
 .rename_i off te id o hf;obtain⟨a,s,k,l,g,c,j⟩:=F8 n hf;split at h
  .simp at h;subst h;obtain⟨⟨e,b,p,rfl⟩,_⟩:=q;exact⟨_,Lq k l g c j,⟨e,b,p,by rw[eK]⟩,rfl⟩
  grind
 .rename_i off te id i o hf;obtain⟨a,s,k,l,g,c,j⟩:=F8 n hf;split at h
  .simp at h;subst h;obtain⟨⟨e,m,b,p,rfl⟩,_⟩:=q;exact⟨_,Lq k l g c j,⟨e,m,b,p,by rw[eK,eK]⟩,rfl⟩
  grind
 .rename_i off te t' d o hf;obtain⟨a,s,k,l,g,c,j⟩:=F8 n hf;simp at h;subst h;obtain⟨⟨b,y,v,rfl,e,m⟩,_⟩:=q;exact⟨_,Lq k l g c j,⟨b,y,v,by rw[eK],e,m⟩,rfl⟩
 grind
theorem Wms(j:aO P T){t:TypeId}{f:Nat}{x:AVal}{u:Value}{r:AVal}(n:AValRel G ν st.nx x u)(h:Ng T t x f=some (true,r)):
  Gives P G ν st w (Instr.field t u f) r:=by
 unfold Ng at h;split at h
 .rename_i off te cs hf;obtain⟨b,p,m,o,k,g,l⟩:=F8 j hf;obtain⟨e,rfl,d⟩:=n;cases a:sub te.agg cs off te.ty.size with
  |none=>simp_all
  |some y=>
   simp[a]at h;subst h;unfold sub at a;simp only[Gives,Instr.field,Sem.run_bind,Wj m,Result.andThen_ok,o,asAgg,Sem.run_pure,part,g.isAgg];cases ha:te.agg with
   |true=>
    simp only[ha,ep]at a⊢;split at a
    .rename_i aU;injection a with a;subst a;refine⟨.agg ((e.drop off).take te.ty.size).toArray,?_,_,rfl,(d.drop off).take _⟩;simp[g.sizeOf,W9 l,k]
    grind
   |false=>
    simp only[ha]at a⊢;cases hc:cs[off]? with
    |none=>simp_all
    |some c=>
     simp[hc]at a;subst a;have i:off<e.length:=by rw[d.1];grind
     refine⟨e[off],?_,d.2 off c _ hc (Xp i)⟩;simp_all
 grind
end
section
variable{w0:World}{F:CS}{nt:Slots}{G0 G:GH}{ν:Nat->Nu}{st:St}{a:Act}{w:World}{P:Program}{T:Tab}
theorem Rn{α:Type}{R:α->List Value->Prop}{n:Nat}(h:∀x c,R x c->c.length=n)(l:List α)(cs:List Value)(i:Nat)(d:α)(a:b4 R l cs)(hi:i<l.length):
  R (l.getD i d) ((cs.drop (i*n)).take n):=Mt h l cs i _ a (by simp_all)
theorem xf{i:Int}{n:Nat}(h:inb i n=true):0<=i/\i<n:=by simpa [inb]using h
theorem F6{t d:TypeId}{c:TE}{k:IntKind}{n:Int}{b off a cap:Nat}(i:P.underlying t=some (.slice d))(e:TEok P T d c)(h:c.plain=true)(f:0<=n)(g:n<a):
  (Instr.indexAt t (.slice (some ⟨b,off,none⟩) a cap) (.int k n)).run P w= .ok (.pointer (some ⟨b,off+n.toNat*c.ty.size,none⟩)) w:=by
 simp[Instr.indexAt,asIntOf,Wj i,f,g,e.sizeOf,W9 h,jI]
theorem WtR(K:aO P T)(q:HRel w0 F G ν st.objs st.nx w){t o:TypeId}{c:TE}{k:IntKind}{n:Int}{a:Nat}{u:Value}{r:AVal}(x:P.underlying t=some (.slice o))(m:TEok P T o c)(v:c.plain=true)
  (D:AValRel G ν st.nx (.s (.one (.own a))) u) (h:obI c n a (Wt st.objs a)=some (true,r)):Gives P G ν st w (Instr.indexAt t u (.int k n)) r:=by
 obtain⟨⟨z,C⟩,_⟩:=D;subst C;unfold obI at h;split at h
 .rename_i e xs aV;split at h
  .rename_i he;simp only[Option.some.injEq,Prod.mk.injEq]at h;obtain⟨g,rfl⟩:=h;obtain⟨f,A⟩:=xf g;obtain⟨S,y,l,B⟩:=q.obj aV;unfold Nu.hdr;cases d:(ν a).blk with
   |none=>grind
   |some b=>
    refine⟨.pointer (some ⟨b,(ν a).off+n.toNat*c.ty.size,none⟩),F6 x m v f (by omega),⟨z,by omega,b,d,?_⟩,rfl⟩;rw[l,he,jE,eL]
  grind
 .rename_i e xs i p aV;split at h
  .rename_i he;simp only[Option.some.injEq,Prod.mk.injEq,Xj]at h;obtain⟨⟨g,j⟩,rfl⟩:=h;obtain⟨f,A⟩:=xf g;have j:=B2 j;obtain⟨S,I,y,l,J,b,d,E,H,B⟩:=q.obj aV;unfold Nu.hdr;simp only[d];refine⟨.pointer (some ⟨b,(ν a).off+n.toNat*c.ty.size,none⟩),F6 x m v f (by omega),⟨I,b,E,?_⟩,rfl⟩;rw[H,he,jE,eL,j]
  grind
 grind
theorem WrB(H:aO P T)(q:HRel w0 F G ν st.objs st.nx w){t f:TypeId}{c:TE}{k:IntKind}{n:Int}{a lo hi:Nat}{u:Value}{r:AVal}(y:P.underlying t=some (.slice f))(l:TEok P T f c)(x:c.plain=true)
  (A:AValRel G ν st.nx (.s (.one (.vw a lo hi))) u) (h:EV c n a lo hi (Wt st.objs a)=some (true,r)):Gives P G ν st w (Instr.indexAt t u (.int k n)) r:=by
 obtain⟨⟨j,C,D,E,z⟩,_⟩:=A;subst z;unfold EV at h;split at h
 .rename_i e xs aV;split at h
  .rename_i he;simp only[Option.some.injEq,Prod.mk.injEq]at h;obtain⟨p,rfl⟩:=h;obtain⟨m,o⟩:=xf p;obtain⟨S,B,i,v⟩:=q.obj aV;unfold Nu.vhdr;cases d:(ν a).blk with
   |none=>grind
   |some b=>
    simp only[d]at v;have g:(ν a).cap≠lo:=by omega
    rw[Wa g];refine⟨.pointer (some ⟨b,(ν a).off+lo*(ν a).esz+n.toNat*c.ty.size,none⟩),F6 y l x m o,⟨j,by omega,b,d,?_⟩,rfl⟩;rw[i,he,jE,eL,lC,eK]
  grind
 grind
theorem Wr4(B:aO P T)(q:HRel w0 F G ν st.objs st.nx w){t d:TypeId}{c:TE}{k:IntKind}{n:Int}{m a:Nat}{u:Value}{r:AVal}(x:P.underlying t=some (.array m d))(j:TEok P T d c)(v:c.plain=true)
  (z:AValRel G ν st.nx (.s (.one (.aptr a))) u) (h:EZ c n m a (Wt st.objs a)=some (true,r)):Gives P G ν st w (Instr.indexAt t u (.int k n)) r:=by
 obtain⟨⟨i,b,f,y⟩,_⟩:=z;subst y;unfold EZ at h;split at h
 .rename_i e xs aV;split at h
  .rename_i he;simp only[Option.some.injEq,Prod.mk.injEq,Xj,Wg]at h;obtain⟨⟨p,C⟩,rfl⟩:=h;obtain⟨l,o⟩:=xf p;obtain⟨S,A,g,D⟩:=q.obj aV;refine⟨.pointer (some ⟨b,(ν a).off+n.toNat*e.size,none⟩),?_,⟨i,by omega,b,f,by rw[g,eL]⟩,rfl⟩;have:((0:Int)<=n/\n<(m:Int)):=⟨l,o⟩;simp only[Instr.indexAt,asIntOf,Sem.run_bind,Sem.run_pure,Result.andThen_ok,Wj x,Instr.sureAddr,Wb this,j.sizeOf,W9 v,jI,he]
  grind
 grind
theorem ZO(d:aO P T)(p:HRel w0 F G ν st.objs st.nx w){t:TypeId}{x i:AVal}{u v:Value}{r:AVal}(g:AValRel G ν st.nx x u)(hi:AValRel G ν st.nx i v)
  (h:Ao T st t x i=some (true,r)):Gives P G ν st w (Instr.indexAt t u v) r:=by
 unfold Ao at h;split at h
 .rename_i ty ag et n hl hn;obtain⟨k,rfl⟩:=xc _ _ _ hi hn;have f:=(d _ _ hl).und.2.1;split at h
  .rename_i te aU;split at h
   .rename_i hp;split at h
    .rename_i e l;split at h
     .rename_i he;simp only[Option.some.injEq,Prod.mk.injEq]at h;obtain⟨H,rfl⟩:=h;obtain⟨B,C⟩:=xf H;obtain⟨⟨z,s,J⟩,_⟩:=g;simp at s;subst s;rcases J with⟨rfl,y⟩|⟨b,q,o,A,rfl,K,L,D,E⟩|⟨a,o,rfl,y⟩
      rotate_left 2
      .grind
      .grind
      .have ab:n.toNat<Xb l:=by omega
       refine⟨_,F6 f (d _ _ aU) hp B C,⟨b,q+n.toNat*e.size,_,?_,Rn (λx c I=>dF e x c I) l A n.toNat e.dflt D ab,?_⟩,rfl⟩
       .grind
       .intro j v hj;rw[mu]at hj;split at hj
        .rw[mn]at hj;rw[eK];exact E _ _ hj
        grind
     grind
    .simp at h
    .exact WtR d p f (d _ _ aU) hp g h
    .exact WrB d p f (d _ _ aU) hp g h
    grind
   grind
  grind
 .rename_i ty ag m et n hl hn;obtain⟨k,rfl⟩:=xc _ _ _ hi hn;have f:=(d _ _ hl).und.2.1;split at h
  .rename_i te aU;split at h
   .rename_i hp;split at h
    .exact Wr4 d p f (d _ _ aU) hp g h
    grind
   grind
  grind
 grind
theorem Wyy(s:List UInt8)(n:Nat)(h:n<s.length):(ByteArray.mk s.toArray)[n]?=some (s.getD n 0):=by
 grind [ByteArray.getElem?_lt',ByteArray.size,ByteArray.getElem_eq_getElem_data]
theorem QB{k:IntKind}:∀(cs:List Cell) (us:List Value) (l:List Int),fJ k cs=some l->CellsRel G ν st.nx cs us->l.length=cs.length/\∀j,j<us.length->us[j]?=some (.int k (Xc l j (0:Int)))
 | [],us,l,h,hc=>by
  simp only[fJ]at h;injection h with h;subst h;have:=hc.1;simp_all
 | .val (.int k') d::cs,us,l,h,hc=>by
  simp only[fJ]at h;split at h
  .rename_i hk;subst hk;cases hi:fJ k' cs with
   |none=>simp_all
   |some l'=>
    rw[hi]at h;simp only[mz]at h;injection h with h;subst h;cases us with
    |nil=>have:=hc.1;grind
    |cons u us=>
     have a:=(hc.2 0 _ u rfl rfl).1;have g:u= .int k' d:=by grind [CellRel,Enc]
     obtain⟨b,e⟩:=QB cs us l' hi ⟨by have:=hc.1;simp_all,λj c v f i=>hc.2 (j+1) c v (by simp_all) (by simp_all)⟩
     grind
  .cases h
 | .val .bool d::cs,us,l,h,_=>by simp[fJ]at h
 | .val .str d::cs,us,l,h,_=>by simp[fJ]at h
 | .val (.slice _) d::cs,us,l,h,_=>by simp[fJ]at h
 | .val (.own _) d::cs,us,l,h,_=>by simp[fJ]at h
 | .val (.prod _ _) d::cs,us,l,h,_=>by simp[fJ]at h
 | .nils::cs,us,l,h,_=>by simp[fJ]at h
 | .own _::cs,us,l,h,_=>by simp[fJ]at h
 | .vw _ _ _::cs,us,l,h,_=>by simp[fJ]at h
 | .aptr _::cs,us,l,h,_=>by simp[fJ]at h
 | .ptr _ _::cs,us,l,h,_=>by simp[fJ]at h
 | .eptr _ _ _::cs,us,l,h,_=>by simp[fJ]at h
 | .rptr _ _ _::cs,us,l,h,_=>by simp[fJ]at h
 | .clos _ _::cs,us,l,h,_=>by simp[fJ]at h
 | .junk::cs,us,l,h,_=>by simp[fJ]at h
theorem Wmm(c:aO P T){t:TypeId}{x i:AVal}{u v:Value}{r:AVal}(j:AValRel G ν st.nx x u)(hi:AValRel G ν st.nx i v)
  (h:Nh T t x i=some (true,r)):Gives P G ν st w (Instr.index t u v) r:=by
 unfold Nh at h;split at h
 .rename_i s n hl hn;obtain⟨k,rfl⟩:=xc _ _ _ hi hn;have:=Hp j;subst this;have e:=(c _ _ hl).und.2;simp only[Option.some.injEq,Prod.mk.injEq]at h;obtain⟨d,rfl⟩:=h;obtain⟨b,g⟩:=xf d;have a:n.toNat<Xb s:=by omega
  refine⟨.int .u8 ((Xc s n.toNat 0).toNat:Int),?_,WV rfl⟩;simp only[Instr.index,asIntOf,Sem.run_bind,Sem.run_pure,Result.andThen_ok,Wj e,Wb b,Wyy s n.toNat a]
 .rename_i k ag m et cs n hl hn;split at h
  .rename_i k' aU;split at h
   .rename_i l sN;split at h
    .rename_i hc;obtain⟨rfl,C⟩:=hc;obtain⟨D,rfl⟩:=xc _ _ _ hi hn;obtain⟨o,rfl,f⟩:=j;simp only[Option.some.injEq,Prod.mk.injEq]at h;obtain⟨d,rfl⟩:=h;obtain⟨b,g⟩:=xf d;obtain⟨B,y⟩:=QB _ _ _ sN f;have e:=(c _ _ hl).und.2.1;have p:=c _ _ aU;have z:(Go.isAgg et).run P w= .ok false w:=p.isAgg;have q:(Go.sizeOf et).run P w= .ok 1 w:=p.sizeOf;have a:n.toNat<o.length:=by rw[f.1];omega
     have A:o[n.toNat]?=some (.int k' (Xc l n.toNat (0:Int))):=y _ a;refine⟨.int k' (Xc l n.toNat (0:Int)),?_,WV rfl⟩;simp only[Instr.index,asIntOf,Sem.run_bind,Sem.run_pure,Result.andThen_ok,Wj e,b,g,and_self,ep,q,part,z,Nat.mul_one];simp[A]
    grind
   grind
  grind
 grind
theorem Mh{k:IntKind}{n:Int}{y:Nat}{c:BoundsCode}(a:0<=n)(b:n<=y):(Instr.sliceBound (.int k n) y c).run P w= .ok n.toNat w:=by
 simp[Instr.sliceBound,asIntOf,a,b]
inductive BRel:Option Int->Option Value->Prop where
 |none:BRel .none .none
 |some (k:IntKind) (n:Int):BRel (.some n) (.some (.int k n))
theorem rn(h:Rel w0 F nt G0 G ν st a w)(o:Option Operand)(r:Option Int)(b:gR st o=some r):BRel r (o.map a.eval):=by
 cases o with
 |none=>simp[gR]at b;subst b;exact .none
 |some x=>
  simp only[gR]at b;cases hv:ev st x with
  |none=>simp_all
  |some av=>
   simp only[hv,Option.bind_some]at b;cases hi:asI av with
   |none=>simp_all
   |some n=>
    simp[hi]at b;subst b;obtain⟨k,c⟩:=xc _ _ _ (WU h x av hv) hi;simp only[mz,c];exact .some k n
theorem AO{isSlice:Bool}{n cap:Nat}{lo hi:Option Int}{c b:Option Value}(e:BRel lo c)(d:BRel hi b)(m:n<=cap)(a:(aX n lo hi).1=true):
  (Instr.sliceBounds isSlice n cap c b none).run P w= .ok ((aX n lo hi).2.1,(aX n lo hi).2.2,cap) w/\(aX n lo hi).2.1<=(aX n lo hi).2.2/\(aX n lo hi).2.2<=n:=by
 cases e<;>cases d<;>simp only[aX,Xj,Wg]at a⊢
 .simp[Instr.sliceBounds]
 .grind [Instr.sliceBounds,Sem.run_bind,Sem.run_pure,Result.andThen_ok,Mh]
 .grind [Instr.sliceBounds,Sem.run_bind,Sem.run_pure,Result.andThen_ok,Mh]
 .rename_i k l k' h;obtain⟨⟨⟨f,g⟩,i⟩,j⟩:=a;refine⟨?_,by omega,by omega⟩;simp only[Instr.sliceBounds,Sem.run_bind,Sem.run_pure,Result.andThen_ok]
  grind [Mh,Result.andThen_ok]
theorem Hw{α:Type}(l:List α)(lo hi:Option Int):tw l lo hi=(l.take (aX l.length lo hi).2.2).drop (aX l.length lo hi).2.1:=by
 cases lo<;>cases hi<;>simp[tw,aX]
theorem WyM(s:List UInt8)(l h:Nat):(ByteArray.mk s.toArray).extract l h=⟨((s.take h).drop l).toArray⟩:=by
 apply ByteArray.ext;simp[ByteArray.data_extract,List.extract_eq_take_drop,List.drop_take]
theorem WuM{t:TypeId}{lo hi:Option Int}{b a:Option Value}(h:P.underlying t=some .string)(s:List UInt8)(f:BRel lo b)(e:BRel hi a)(d:(aX s.length lo hi).1=true):
  (Instr.sliceAt t (.string ⟨s.toArray⟩) b a none).run P w= .ok (.string ⟨(tw s lo hi).toArray⟩) w:=by
 have c:(ByteArray.mk (List.toArray s)).size=Xb s:=by simp[ByteArray.size]
 obtain⟨g,i,j⟩:=AO (P:=P) (w:=w) (isSlice:=false) (cap:=Xb s) f e (Xl _) d;simp only[Instr.sliceAt,Instr.slice,Sem.run_bind,Wj h,Result.andThen_ok,Option.isSome_none,Bool.false_eq_true,gH,Sem.run_pure,c,g,WyM,Hw]
theorem WvY{t z:TypeId}{g:TE}{lo hi:Option Int}{C B:Option Value}{α:Type}{R:α->List Value->Prop}{n:Nat}(O:∀x c,R x c->c.length=n)(u:P.underlying t=some (.slice z))(h:TEok P T z g)(I:g.plain=true)(H:g.ty.size=n)
  (xs:List α) {v:Value} (J:oF G R xs v) (s:BRel lo C) (r:BRel hi B) (o:(aX xs.length lo hi).1=true):
  ∃v',(Instr.sliceAt t v C B none).run P w= .ok v' w/\oF G R (tw xs lo hi) v':=by
 rcases J with⟨rfl,i⟩|⟨b,d,cap,E,rfl,m,A,L,F⟩|⟨a,cap,rfl,i⟩
 rotate_left 2
 .subst i;obtain⟨e,m,A⟩:=AO (P:=P) (w:=w) (isSlice:=true) (cap:=cap) s r (iw _) o;have k:(aX 0 lo hi).2.2=0:=by omega
  have l:(aX 0 lo hi).2.1=0:=by omega
  rw[k,l]at e;refine⟨.slice (some a) 0 cap,?_,.inr (.inr ⟨a,cap,rfl,?_⟩)⟩
  .simp only[Instr.sliceAt,Instr.slice,Sem.run_bind,Wj u,Result.andThen_ok,e,h.sizeOf,Sem.run_pure,mz];simp[Addr.add]
  .rw[Hw];simp
 .subst i;obtain⟨e,m,A⟩:=AO (P:=P) (w:=w) (isSlice:=true) (cap:=0) s r (Xl _) o;refine⟨.slice none 0 0,?_,.inl ⟨rfl,?_⟩⟩
  .have k:(aX 0 lo hi).2.2=0:=by omega
   have l:(aX 0 lo hi).2.1=0:=by omega
   rw[k,l]at e;simp[Instr.sliceAt,Instr.slice,Wj u,e,h.sizeOf]
  .rw[Hw];simp
 .obtain⟨e,M,N⟩:=AO (P:=P) (w:=w) (isSlice:=true) (cap:=cap) s r m o;have K:=Hw xs lo hi;generalize (aX xs.length lo hi).2.1=p at*;generalize (aX xs.length lo hi).2.2=q at*;have D:g.size=n:=by rw[W9 I,H]
  have y:(tw xs lo hi).length=q-p:=by simp_all
  refine⟨.slice (some (if cap=p then⟨b,d,none⟩else⟨b,d+p*n,none⟩)) (q-p) (cap-p),?_,.inr (.inl ?_)⟩
  .simp only[Instr.sliceAt,Instr.slice,Sem.run_bind,Wj u,Result.andThen_ok,e,h.sizeOf,Sem.run_pure,D,mz,jI];split<;>rfl
  .by_cases hc:cap=p
   .have h0:tw xs lo hi= []:=Xv (by omega);refine⟨b,d,cap-p,[],?_,by omega,by omega,?_,λj v f=>by simp at f⟩
    .rw[Wb hc];rw[y]
    .rw[h0];rfl
   .refine⟨b,d+p*n,cap-p,(E.take (q*n)).drop (p*n),?_,by omega,by omega,?_,?_⟩
    .rw[Wa hc,y]
    .grind [DZ,D1]
    .intro j v f;rw[mn,mu]at f;split at f
     .rw[eK];exact F _ _ f
     grind
theorem WlT(a:aO P T){t:TypeId}{x:AVal}{u:Value}{m k:Option Value}{lo hi:Option Operand}{r:AVal}(g:AValRel G ν st.nx x u)
  (f:∀l,gR st lo=some l->BRel l m) (d:∀l,gR st hi=some l->BRel l k)
  (h:Hk T st t x lo hi=some (true,r)):Gives P G ν st w (Instr.sliceAt t u m k none) r:=by
 unfold Hk at h;split at h
 .rename_i s l h' sO h1 h2;have:=Hp g;subst this;simp only[Option.some.injEq,Prod.mk.injEq]at h;obtain⟨b,rfl⟩:=h;exact⟨_,WuM (a _ _ sO).und.2 s (f _ h1) (d _ h2) b,WV rfl⟩
 .rename_i ty ag et e xs l h' sO h1 h2;have A:=(a _ _ sO).und.2.1;split at h
  .rename_i te aU;split at h
   .rename_i AL;obtain⟨q,v⟩:=AL;simp only[Option.some.injEq,Prod.mk.injEq]at h;obtain⟨b,rfl⟩:=h;obtain⟨⟨z,i,y⟩,_⟩:=g;simp at i;subst i;obtain⟨j,n,o⟩:=WvY (P:=P) (T:=T) (w:=w) (λx c p=>dF e x c p) A (a _ _ aU) v (by rw[q]) xs y (f _ h1) (d _ h2) b;exact⟨j,n,WV ⟨j,rfl,o⟩⟩
   grind
  grind
 grind
end
section
variable{w0:World}{F:CS}{nt:Slots}{G0 G:GH}{ν:Nat->Nu}{st:St}{a:Act}{w:World}{P:Program}{T:Tab}
theorem LW{k:IntKind}:∀(l:List Int) (cs:List Value),b4 (Enc G (.int k)) l cs->cs=l.map (Value.int k)
 | [],cs,h=>h
 |x::l,cs,⟨c,a,e,d,b⟩=>by
  have:=LW l a b
  grind [Enc]
theorem QO{t e dst:TypeId}(f:P.underlying t=some (.slice e))(d:P.underlying e=some (.int .u8))(c:P.underlying dst=some .string){b off cap:Nat}(l:List Int)
  (h:∀j v,(l.map (Value.int .u8))[j]?=some v->w.cell? ⟨b,off+j,none⟩=some v):
  (convert t dst (.slice (some ⟨b,off,none⟩) l.length cap)).run P w= .ok (.string ⟨(HS l).toArray⟩) w:=by
 rw[run_convert_bytes_string w t dst e _ _ _ f d c];have a:=run_loadCells_list (P:=P) w ⟨b,off,none⟩ (l.map (Value.int .u8)) (λj v g=>by grind [jI]);rw[Xy]at a;rw[run_bytesToString w _ _ _ l a,foldl_push_bytes];simp[ByteArray.ext,HS]
theorem LS{t e dst:TypeId}(d:P.underlying t=some (.slice e))(b:P.underlying e=some (.int .u8))(a:P.underlying dst=some .string)(l c:Nat):
  (convert t dst (.slice none l c)).run P w= .ok (.string ⟨#[]⟩) w:=by
 rw[run_convert_bytes_string w t dst e _ _ _ d b a];rfl
theorem Wrg{t e dst:TypeId}(h:P.underlying t=some (.slice e))(f:P.underlying e=some (.int .u8))(d:P.underlying dst=some .string)(a:Addr)(c:Nat):
  (convert t dst (.slice (some a) 0 c)).run P w= .ok (.string ⟨#[]⟩) w:=by
 rw[run_convert_bytes_string w t dst e _ _ _ h f d];have b:=run_loadCells_list (P:=P) w a ([].map (Value.int .u8)) (λj v g=>by simp at g);simp only[cV,List.length_nil]at b;rw[run_bytesToString w _ _ _ [] (by simp_all),foldl_push_bytes];rfl
theorem Wm9(i:aO P T)(C:HRel w0 F G ν st.objs st.nx w){p dst:TypeId}{x:AVal}{u:Value}{r:AVal}(o:AValRel G ν st.nx x u)
  (h:Bz T st p dst x=some (true,r)):Gives P G ν st w (convert p dst u) r:=by
 unfold Bz VN at h;split at h
 .rename_i k0 k k1 n h1 h2;have:=Bv o;subst this;have f:=(i _ _ h1).und.2;have d:=(i _ _ h2).und.2;simp at h;subst h;exact⟨.int k (k.wrap n),by simp_all [convert,Wj,Conv.intToInt],WV rfl⟩
 .rename_i s h1 h2;have:=Hp o;subst this;have f:=(i _ _ h1).und.2;have d:=(i _ _ h2).und.2;simp at h;subst h;exact⟨_,by simp[convert,Wj f,Wj d]<;>rfl,WV rfl⟩
 .rename_i ty ag et c h1 h2;have f:=(i _ _ h1).und.2.1;have d:=(i _ _ h2).und.2;split at h
  .rename_i h3;have m:=(i _ _ h3).und.2;split at h
   .rename_i l;simp at h;subst h;obtain⟨⟨z,E,Q⟩,_⟩:=o;simp at E;subst E;rcases Q with⟨rfl,y⟩|⟨b,R,t,I,rfl,K,L,B,A⟩|⟨a,t,rfl,y⟩
    rotate_left 2
    .refine⟨_,Wrg f m d a _,WV ?_⟩;rw[y];rfl
    .refine⟨_,LS f m d _ _,WV ?_⟩;rw[y];rfl
    .have J:=LW _ _ B;exact⟨_,QO f m d l (λj v N=>C.g (A j v (by simp_all))),WV rfl⟩
   .simp at h;subst h;obtain⟨q,_⟩:=o;simp only[CellRel]at q;subst q;exact⟨_,LS f m d _ _,WV rfl⟩
   .rename_i id;split at h
    .rename_i xs aV;simp at h;subst h;obtain⟨⟨U,q⟩,_⟩:=o;subst q;obtain⟨S,D⟩:=C.obj aV;unfold Nu.hdr;cases bF:(ν id).blk with
     |none=>
      have O:=q7 D bF;refine⟨_,LS f m d _ _,WV ?_⟩;rw[O];rfl
     |some b=>
      obtain⟨H,K,L,B,I,A,M,V⟩:=AF (e:=.int .u8) rfl D bF;have J:=LW _ _ A;simp only[←H];exact⟨_,QO f m d xs (λj v N=>M j v (by simp_all)),WV rfl⟩
    grind
   grind
  grind
 grind
theorem WxT{x:Operand}{o:Oper}(a:o.op= .nilCheck x){ρ:Operand->Value}{p:Addr}(h:ρ x= .pointer (some p)):(execOp ρ o).run P w= .ok (.value (.pointer (some p))) w:=by
 simp[execOp,a,h]
theorem Wt9{x r:AVal}{u:Value}(a:AValRel G ν st.nx x u)(h:BN st x=some (true,r)):r=x/\∃p,u= .pointer (some p):=by
 unfold BN at h;split at h
 .simp at h;subst h;obtain⟨⟨b,o,c,rfl,_⟩,_⟩:=a;simp_all
 .split at h
  .simp at h;subst h;obtain⟨⟨_,b,_,rfl⟩,_⟩:=a;simp_all
  grind
 .split at h
  .simp at h;subst h;obtain⟨⟨_,_,b,_,rfl⟩,_⟩:=a;simp_all
  grind
 .split at h
  .simp at h;subst h;obtain⟨⟨_,b,_,rfl⟩,_⟩:=a;simp_all
  grind
 grind
theorem QA(f:Rel w0 F nt G0 G ν st a w):∀(l:List Operand) (c:List Nat),qf st l=some c->
  c.length=l.length/\∀(j d:Nat) (u:Value),c[j]?=some d->(l.map a.eval)[j]?=some u->d<st.nx/\u.oneCell'=true/\∃b,(ν d).blk=some b/\u= .pointer (some ⟨b,(ν d).off+0,none⟩)
 | [],c,h=>by simp[qf]at h;simp_all
 |o::l,c,h=>by
  simp only[qf]at h;split at h
  .rename_i d r h1 h2;injection h with h;subst h;obtain⟨k,q⟩:=QA f l r h2;refine⟨by simp[k],λj i u e g=>?_⟩;cases j with
   |zero=>
    simp at e g;subst e g;obtain⟨⟨m,n⟩,p⟩:=WU f o _ h1;simp_all
   |succ j=>grind
  grind
theorem Pj(m:aO P T)(q:HRel w0 F G ν st.objs st.nx w){t:TypeId}{x:AVal}{u:Value}{r:AVal}(y:AValRel G ν st.nx x u)(h:rR T st t x=some r):
  Gives P G ν st w (Instr.loadAt t u) r:=by
 unfold rR at h;split at h
 .rename_i te hl;split at h
  .rename_i hp;split at h
   .rename_i id off;split at h
    .rename_i B aV;obtain⟨⟨_,b,n,rfl⟩,_⟩:=y;obtain⟨S,I,L,a,af,z,C,_⟩:=q.obj aV;rw[n]at a;injection a with a;subst a;obtain⟨v,K,D⟩:=Lw (m _ _ hl) hp C (o:=(ν id).off) z h;exact⟨v,by grind [Instr.loadAt,Instr.sureAddr],D⟩
    grind
   .rename_i id i off;split at h
    .rename_i e xs aV;obtain⟨⟨_,A,b,n,rfl⟩,_⟩:=y;obtain⟨S,s⟩:=q.obj aV;have J:=s.2.1;obtain⟨c,p,k,l⟩:=WtD s n (by rw[s.1];exact A);obtain⟨v,E,f⟩:=Lw (m _ _ hl) hp (GP (ν:=ν) (nx:=st.nx) e _ _ _ k) (w:=w) (b:=b) (o:=(ν id).off+i*e.size) l h;exact⟨v,by grind [Instr.loadAt,Instr.sureAddr,eK],f⟩
    grind
   .rename_i t' d off;obtain⟨⟨b,o,B,rfl,k,l⟩,_⟩:=y;obtain⟨v,E,f⟩:=Lw (m _ _ hl) hp (jU (G:=G) (ν:=ν) (nx:=st.nx) t' d _ k) (w:=w) (b:=b) (o:=o) (λj v H=>q.g (l j v H)) h;exact⟨v,by grind [Instr.loadAt,Instr.sureAddr],f⟩
   grind
  grind
 grind
theorem Ti{G:GH}{k:IntKind}:∀(xs:List Int) (cs:List Value),b4 (Enc G (.int k)) xs cs->cs=xs.map λx=>Value.int k x
 | [],cs,h=>h
 |x::xs,cs,⟨a,b,c,d,e⟩=>by
  have:a= [.int k x]:=d;rw[c,this,Ti xs b e];rfl
theorem Td{k:IntKind}{xs:List Int}:∀(n i j:Nat),(tg k xs i n)[j]?=if j<n then some (.val (.int k) (xs.getD (i+j) (0:Int)))else none
 |0,i,j=>by simp[tg]
 |n+1,i,j=>by
  cases j with
  |zero=>simp[tg]
  |succ j=>
   rw[tg,List.getElem?_cons_succ,Td n (i+1) j,show i+1+j=i+(j+1) by omega];simp_all
theorem Sw{k:IntKind}{xs:List Int}:∀(n i:Nat),(tg k xs i n).length=n
 |0,i=>rfl
 |n+1,i=>by rw[tg,Xu,Sw n (i+1)]
theorem WmS(s:aO P T)(z:HRel w0 F G ν st.objs st.nx w){t:TypeId}{x:AVal}{u:Value}{r:AVal}(C:AValRel G ν st.nx x u)(h:xe T st t x=some (true,r)):
  Gives P G ν st w (Instr.loadAt t u) r:=by
 unfold xe at h;split at h
 .rename_i k n et hl;split at h
  .rename_i id;split at h
   .rename_i k' xs aV;change List Int at xs;split at h
    .rename_i hk;subst hk;simp only[Option.some.injEq,Prod.mk.injEq,Wg]at h;obtain⟨m,rfl⟩:=h;obtain⟨⟨_,b,y,rfl⟩,_⟩:=C;obtain⟨S,A⟩:=z.obj aV;obtain⟨D,I,J,K,f,p,q,L⟩:=AF (e:=.int k') rfl A y;have l:=Ti _ _ p;have i:=s _ _ hl;have H:(Go.isAgg t).run P w= .ok true w:=i.isAgg;have E:(Go.sizeOf t).run P w= .ok n w:=by have:=i.sizeOf (w:=w);grind [TE.size,Ty.size]
     have g:f.length=n:=by rw[l,Xy];exact m
     have B:=run_loadCells_list (P:=P) w ⟨b,(ν id).off,none⟩ f (λj v a=>by rw[jI];exact q j v a);rw[g]at B;refine⟨.agg f.toArray,?_,f,rfl,?_,λj c v a d=>?_⟩
     .simp_all [Instr.loadAt,Instr.sureAddr,Sem.run_bind,Sem.run_pure,Result.andThen_ok,loadVar,ep]
     .rw[Sw,g]
     .rw[Td]at a;split at a
      .rename_i AM;injection a with a;subst a;rw[l,ff]at d;have o:j<Xb xs:=Nat.lt_of_lt_of_eq AM m.symm;rw[Xp o]at d;simp only[mz]at d;injection d with d;subst d;refine⟨?_,rfl⟩;simp[CellRel,Enc,o]
      .cases a
    grind
   grind
  grind
 grind
end
section
variable{w0:World}{F:CS}{nt:Slots}{G0 G:GH}{ν:Nat->Nu}{st:St}{a:Act}{w:World}{P:Program}{T:Tab}
theorem kS{o:Oper}{s:Sem Value}{r:AVal}(d:execOp a.eval o=(do pure (.value (←s))))(h:Gives P G ν st w s r):
  ∃v,(execOp a.eval o).run P w= .ok (.value v) w/\AValRel G ν st.nx r v:=by
 obtain⟨v,b,c⟩:=h;simp_all
theorem q8{α β:Type}{x:Option α}{f:α->Option (Bool×β)}{r:β}(h:x.bind f=some (true,r)):∃y,x=some y/\f y=some (true,r):=by
 cases x with
 |none=>simp at h
 |some y=>simp_all
theorem Wph(o:aO P T)(p:HRel w0 F G ν st.objs st.nx w){a:BinOp}{t:TypeId}{x y:AVal}{u v:Value}{r:AVal}(l m:Operand)(s:AValRel G ν st.nx x u)(z:AValRel G ν st.nx y v)
  (h:BO T st a t x y=some (true,r)):Gives P G ν st w (do eqGuard a t l m u v;Go.binOp a t u v) r:=by
 unfold BO at h;split at h
 .rename_i id;split at h
  .rename_i te e hl;have D:=(o _ _ hl).und.2.1;obtain⟨⟨_,q⟩,_⟩:=s;subst q;obtain⟨k,_⟩:=z;simp only[CellRel]at k;subst k;split at h
   .rename_i e' xs ho;have b:∀n:Nat,Ip 0 xs.length=true->(Op.equalIn (n+1) t (ν id).hdr (.slice none 0 0)).run P w= .ok false w:=λn f=>by
     have A:xs≠ []:=by rintro rfl;simp at f
     obtain⟨S,d⟩:=p.obj ho;have i:∃g,(ν id).hdr= .slice (some g) (ν id).len (ν id).cap:=by
      unfold Nu.hdr;obtain⟨B,_,d⟩:=d;cases f:(ν id).blk with
      |none=>simp_all
      |some g=>simp_all
     obtain⟨g,i⟩:=i;simp_all [Op.equalIn,Wj]
    have j:∀a,(eqGuard a t l m (ν id).hdr (.slice none 0 0)).run P w= .ok () w:=λa=>DD (λC=>by unfold Nu.hdr;split<;>exactλh=>nomatch h) (by unfold Nu.hdr;split<;>exactλh=>nomatch h);split at h
    .simp only[Option.some.injEq,Prod.mk.injEq]at h;obtain⟨c,rfl⟩:=h;exact⟨.bool false,by simp[j,Go.binOp,Op.equal,Op.maxDepth,show(Op.equalIn 10000 t (ν id).hdr (.slice none 0 0)).run P w= .ok false w from b 9999 c],WV rfl⟩
    .simp only[Option.some.injEq,Prod.mk.injEq]at h;obtain⟨c,rfl⟩:=h;exact⟨.bool true,by simp[j,Go.binOp,Op.equal,Op.maxDepth,show(Op.equalIn 10000 t (ν id).hdr (.slice none 0 0)).run P w= .ok false w from b 9999 c],WV rfl⟩
    grind
   grind
  grind
 grind
theorem Wq7(q:aO P T)(b:Rel w0 F nt G0 G ν st a w){o:Oper}{r:AVal}(h:cr T st o.op=some (true,r)):
  ∃v,(execOp a.eval o).run P w= .ok (.value v) w/\AValRel G ν st.nx r v:=by
 obtain⟨J,L,E,S,I,guard⟩:=o;simp only at h;unfold cr at h;split at h
 .rename_i x;cases hx:ev st x with
  |none=>simp_all
  |some v=>simp[hx]at h;subst h;exact⟨_,rfl,WU b x _ hx⟩
 .rename_i x;cases hx:ev st x with
  |none=>simp_all
  |some v=>simp[hx]at h;subst h;exact⟨_,rfl,WU b x _ hx⟩
 .rename_i c x y;split at h
  .rename_i p e;cases hc:ev st c with
   |none=>simp_all
   |some cv=>
    simp[hc]at e;have C:=Np _ _ _ (WU b c _ hc) e;split at h
    .rename_i m n g h3;simp at h;subst h;have D:=Mz (WU b x _ g);have N:=Mz (WU b y _ h3);refine⟨.bool (bif p then m else n),?_,WV rfl⟩;simp only[execOp,C,D,N,asBool];cases p<;>rfl
    .cases p with
     |true=>
      cases hx:ev st x with
      |none=>simp_all
      |some v=>simp[hx]at h;subst h;exact⟨a.eval x,by simp_all [execOp,asBool],WU b x _ hx⟩
     |false=>
      cases hx:ev st y with
      |none=>simp_all
      |some v=>simp[hx]at h;subst h;exact⟨a.eval y,by simp_all [execOp,asBool],WU b y _ hx⟩
  grind
 .rename_i t x;obtain⟨y,j,h⟩:=q8 h;cases ha:xe T st t y with
  |some z=>rw[ha]at h;simp only[]at h;injection h with h;subst h;exact kS rfl (WmS q b.h (WU b x _ j) ha)
  |none=>
   rw[ha]at h;cases B:rR T st t y with
   |none=>simp_all
   |some z=>simp[B]at h;subst h;exact kS rfl (Pj q b.h (WU b x _ j) B)
 .rename_i x;obtain⟨y,j,h⟩:=q8 h;obtain⟨rfl,p,O⟩:=Wt9 (WU b x _ j) h;exact⟨_,WxT rfl O,by grind [WU]⟩
 .rename_i L t x y _;split at h
  .rename_i u v e g;split at h
   .rename_i z hz;injection h with h;subst h;exact kS rfl (Wph q b.h x y (WU b x _ e) (WU b y _ g) hz)
   .exact kS rfl (Wpr q x y (WU b x _ e) (WU b y _ g) h)
  grind
 .rename_i L t x;obtain⟨y,j,h⟩:=q8 h;exact kS rfl (WrO (WU b x _ j) h)
 .rename_i src J x;obtain⟨y,j,h⟩:=q8 h;exact kS rfl (Wm9 q b.h (WU b x _ j) h)
 .rename_i t x lo hi;obtain⟨y,j,h⟩:=q8 h;exact kS rfl (WlT q (WU b x _ j) (λl B=>rn b lo l B) (λl B=>rn b hi l B) h)
 .rename_i s x f;obtain⟨y,j,h⟩:=q8 h;exact kS rfl (ZQ q b.h (WU b x _ j) h)
 .rename_i s x f;obtain⟨y,j,h⟩:=q8 h;exact kS rfl (Wms q (WU b x _ j) h)
 .rename_i t x i;split at h
  .rename_i u v e g;exact kS rfl (ZO q b.h (WU b x _ e) (WU b i _ g) h)
  grind
 .rename_i t x i;split at h
  .rename_i u v e g;exact kS rfl (Wmm q (WU b x _ e) (WU b i _ g) h)
  grind
 .rename_i t ix;split at h
  .rename_i xs e;cases hx:xs[ix]? with
   |none=>simp_all
   |some y=>
    simp[hx]at h;subst h;obtain⟨M,Q,B,R⟩:=WU b t _ e;have K:ix<M.length:=by grind
    exact kS rfl ⟨M[ix],by simp[Q,Instr.extract,K],R ix y _ hx (Xp K)⟩
  grind
 .rename_i f first captured
  split at h
  .rename_i hf;cases hc:qf st captured.toList with
   |none=>simp_all
   |some ids=>
    simp[hc]at h;subst h;obtain⟨e,g⟩:=QA b _ _ hc;have U:first= #[]:=by simp_all
    subst U;refine kS rfl ⟨.func (.func f) #[] (captured.map a.eval),by simp[Instr.makeFunc],⟨captured.toList.map a.eval,?_,?_,g⟩,rfl⟩
    .apply Wp
     grind
    grind
  grind
 .rename_i c;obtain⟨H,A,d⟩:=c;obtain⟨A⟩:=A;obtain⟨d⟩:=d;simp only at h;split at h
  .rename_i x t;obtain⟨y,j,h⟩:=q8 h;obtain⟨v,e,g⟩:=WpL (ty:=E) q b.h (WU b x _ j) h;refine⟨v,?_,g⟩;simp only[execOp,resolve,invoke,builtin,Sem.run_bind,Sem.run_pure,Result.andThen_ok,B6,bK,cV,e]
  .rename_i x y _ _;split at h
   .rename_i k m k' n e g;split at h
    .rename_i hk;subst hk;simp at h;subst h;have C:=Bv (WU b x _ e);have D:=Bv (WU b y _ g);refine⟨.int k (OQ m n),?_,WV rfl⟩;simp only[execOp,resolve,invoke,builtin,Sem.run_bind,Sem.run_pure,Result.andThen_ok,B6,bK,cV,C,D,Builtin.min_];rfl
    grind
   grind
  .rename_i x y _ _;split at h
   .rename_i k m k' n e g;split at h
    .rename_i hk;subst hk;simp at h;subst h;have C:=Bv (WU b x _ e);have D:=Bv (WU b y _ g);refine⟨.int k (BR m n),?_,WV rfl⟩;simp only[execOp,resolve,invoke,builtin,Sem.run_bind,Sem.run_pure,Result.andThen_ok,B6,bK,cV,C,D,Builtin.max_];rfl
    grind
   grind
  grind
 grind
end
section
variable{w0:World}{F:CS}{nt:Slots}{G0 G G':GH}{ν ν':Nat->Nu}{φ φ':Nat->CS}{objs objs':ad}{nx am:Nat}{w w':World}{P:Program}{T:Tab}
theorem Live.of{id:Nat}{a:Ob}(h:Wt objs id=some a)(b:a≠ .dead):Live objs id:=⟨a,h,b⟩
theorem WW{α:Type}(k:Nat)(v:α)(l:List (Nat×α))(i:Nat):Wt ((k,v)::l) i=if k=i then some v else Wt l i:=by
 simp only[Wt];by_cases h:k=i
 .subst h;simp
 .have:eb k i=false:=by
   grind [eb,absurd,B2]
  rw[this,Wa h]
theorem vL{α:Type}:∀(l m:List (Nat×α)) (i:Nat),Wt (l++m) i=match Wt l i with
  |some x=>some x
  |none=>Wt m i
 | [],m,i=>rfl
 |(k,v)::l,m,i=>by
  rw[List.cons_append,WW,WW];split
  .rfl
  .exact vL l m i
theorem HR.blk_lt_g(h:HR w0 F G ν φ objs nx w){b o:Nat}{v:Value}(a:G b o=some v):b<w.heap.size:=block_lt_of_cell (h.g b o v a)
theorem WLe.refl(S:CS)(w:World):WLe S w w:=⟨Xl _,λ_ a _ h=>⟨a,h,rfl⟩,λ_ _ _ _=>rfl,λ_ _ _=>rfl,rfl,rfl,rfl⟩
theorem WLe.mono{S e:CS}(h:WLe S w w')(f:CS.le S e):WLe e w w':=
 ⟨h.size,h.row,λb o a c=>h.cell b o a (λd=>c (f b o d)),λb a c=>h.whole b a (λo d=>c o (f b o d)),h.os,h.output,h.tape⟩
theorem WLe.same{S a:CS}(h:WLe S w w')(j:CS.disj S a)(i:∀b o,a b o->b<w.heap.size):Same a w w':=
 ⟨λb n ⟨k,T,f,l⟩=>by obtain⟨d,g,m⟩:=h.row b k T f;exact⟨d,T,g,by omega⟩,λb o c=>h.cell b o (i b o c) (λe=>j b o e c)⟩
theorem WLe.rows{S:CS}(h:WLe S w w'):Same (λ_ _=>False) w w':=
 ⟨λb n ⟨f,T,c,g⟩=>by obtain⟨a,d,i⟩:=h.row b f T c;exact⟨a,T,d,by omega⟩,λ_ _ e=>e.elim⟩
theorem WLe.trans{S d:CS}{c e f:World}(h:WLe S c e)(a:WLe d e f)(p:∀b o,d b o->c.heap.size<=b\/S b o):WLe S c f where
 size:=jR h.size a.size
 row b vs T hb:=by
  obtain⟨g,j,l⟩:=h.row b vs T hb;obtain⟨k,m,n⟩:=a.row b g T j;simp_all
 cell b o hb hn:=by
  rw[a.cell b o (mb hb h.size) (λi=>by grind)];exact h.cell b o hb hn
 whole b hb hn:=by
  rw[a.whole b (mb hb h.size) (λo i=>by grind)];exact h.whole b hb hn
 os:=a.os.trans h.os
 output:=a.output.trans h.output
 tape:=a.tape.trans h.tape
theorem WLe.alloc(S:CS)(a:World)(o:Obj)(c:a.heap=w.heap)(f:a.os=w.os)(e:a.output=w.output)(d:a.tape=w.tape):WLe S w (a.alloc o) where
 size:=by simp[c]
 row b g T hb:=by
  have h:b<w.heap.size:=(Array.getElem?_eq_some_iff.1 hb).1;exact⟨g,by grind [heap_alloc_old],rfl⟩
 cell b o' hb _:=World.cell?_of_block (by show(a.alloc o).heap[b]?=w.heap[b]?;rw[heap_alloc_old a o (by simp_all),c])
 whole b hb _:=by rw[heap_alloc_old a o (by simp_all),c]
 os:=f
 output:=e
 tape:=d
theorem WLe.setRow{S:CS}{b:Nat}{vs us:Array Value}{T:TypeId}(h:w.heap[b]?=some (Obj.cells vs T (0,0)))(d:us.size=vs.size)(c:∀o,¬S b o->us[o]?=vs[o]?):WLe S w (w.setRow b us) where
 size:=by simp
 row k a T' hk:=by
  by_cases e:k=b
  .grind [setRow_heap]
  .exact⟨a,by grind [setRow_other],rfl⟩
 cell k o hk hn:=by
  by_cases e:k=b
  .subst e;rw[cell_of_row _ k o us T (0,0) (setRow_heap w k vs us T (0,0) h),cell_of_row w k o vs T (0,0) h]
   grind
  grind [World.cell?_of_block,setRow_other]
 whole k hk hn:=by
  by_cases e:k=b
  .subst e;have:us=vs:=Array.ext_getElem? λo=>c o (hn o);rw[setRow_heap w k vs us T (0,0) h,h,this]
  grind [setRow_other]
 os:=rfl
 output:=rfl
 tape:=rfl
def NU(φ:Nat->CS)(objs:ad):CS:=λb o=>∃a,Live objs a/\φ a b o
theorem HR.step(h:HR w0 F G ν φ objs nx w)(k:WLe (NU φ objs) w w')
  (q:∀a ob,Wt objs' a=some ob->ob≠ .dead->fc G ν' am w' a (φ' a) ob)
  (l:∀a,Live objs' a->a<am)
  (j:∀a b o,Live objs' a->φ' a b o->NU φ objs b o\/w.heap.size<=b)
  (n:∀a b o,Live objs' a->φ' a b o->b<w'.heap.size)
  (p:∀a d b o,Live objs' a->Live objs' d->φ' a b o->φ' d b o->a=d):
  HR w0 F G ν' φ' objs' am w' where
 g b o v hg:=by
  rw[k.cell b o (h.blk_lt_g hg) (λ⟨a,c,hp⟩=>by rw[h.gf a b o c hp]at hg;cases hg)];exact h.g b o v hg
 ob a ob ho:=by
  by_cases m:ob= .dead
  .subst m;trivial
  simp_all
 gf a b o c hp:=by
  rcases j a b o c hp with⟨i,f,e⟩|fK
  .exact h.gf i b o f e
  .cases hg:G b o with
   |none=>rfl
   |some v=>have:=h.blk_lt_g hg;omega
 inj:=p
 own a b o c hp:=by
  rcases j a b o c hp with⟨i,f,e⟩|fK
  .exact h.own i b o f e
  .exact .inl (jR h.le.size fK)
 lt:=l
 bl:=n
 le:=h.le.trans k (λb o ⟨a,c,hp⟩=>h.own a b o c hp)
def EW(φ:Nat->CS)(i:Nat)(S:CS):Nat->CS:=λj=>if j=i then S else φ j
theorem Ej(φ:Nat->CS)(i:Nat)(S:CS):EW φ i S i=S:=by simp[EW]
theorem w9(φ:Nat->CS){i j:Nat}(S:CS)(h:j≠i):EW φ i S j=φ j:=by simp[EW,h]
theorem D2:∀(l:List Nat) (a:Nat) (b:Ob),Wt (kill objs l) a=some b->b≠ .dead->Wt objs a=some b/\a∉l
 | [],a,b,h,_=>⟨h,by simp⟩
 |i::l,a,b,h,hd=>by
  simp only[kill]at h;rw[WW]at h;split at h
  .simp_all
  .rename_i aH;obtain⟨c,d⟩:=D2 l a b h hd
   grind
theorem AG{l:List Nat}{a:Nat}(h:Live (kill objs l) a):Live objs a/\a∉l:=by
 obtain⟨c,d,b⟩:=h;obtain⟨e,f⟩:=D2 l a c d b;exact⟨⟨c,e,b⟩,f⟩
def Ih(φ:Nat->CS)(objs:ad)(t:Nat)(m:List Nat):CS:=λb o=>∃i,(i=t\/i∈m)/\Live objs i/\φ i b o
theorem HR.put(h:HR w0 F G ν φ objs nx w){t:Nat}{m:List Nat}{n:Ob}{S:CS}(I:nc nx ν ν')(B:nx<=am)(M:t<am)
  (s:WLe (Ih φ objs t m) w w') (v:∀b o,S b o->Ih φ objs t m b o\/(w.heap.size<=b/\b<w'.heap.size))
  (L:n≠ .dead->fc G ν' am w' t S n):HR w0 F G ν' (EW φ t S) ((t,n)::kill objs m) am w':=by
 have A:∀id e,Wt ((t,n)::kill objs m) id=some e->e≠ .dead->(id=t/\e=n)\/(id≠t/\id∉m/\Wt objs id=some e):=λid e r l=>by
  grind [WW,D2]
 have q:∀id,Live ((t,n)::kill objs m) id->(id=t)\/(id≠t/\id∉m/\Live objs id):=λid ⟨e,r,l⟩=>by
  rcases A id e r l with⟨a,j⟩|⟨a,j,d⟩
  .omega
  .exact .inr ⟨a,j,e,d,l⟩
 refine h.step (s.mono λb o ⟨i,_,a,j⟩=>⟨i,a,j⟩) (λid e r l=>?_) (λid f=>?_) (λid b o f c=>?_) (λid b o f c=>?_) (λid g b o f J c y=>?_)
 .rcases A id e r l with⟨a,j⟩|⟨a,j,d⟩
  .grind [Ej]
  .rw[w9 φ S a];have f:Live objs id:=⟨e,d,l⟩;refine DL (λ_ _ _ x=>x) (s.same (λb o ⟨i,H,K,C⟩ c=>?_) (λb o c=>h.bl id b o f c)) (λ_ _ x=>x) I B (h.lt id f) e (h.ob id e d);have:=h.inj i id b o K f C c;simp_all
 .rcases q id f with a|⟨_,_,d⟩
  .omega
  .exact mb (h.lt id d) B
 .rcases q id f with a|⟨a,_,d⟩
  .subst a;rw[Ej]at c;rcases v b o c with⟨i,_,k,p⟩|k
   .exact .inl ⟨i,k,p⟩
   omega
  .rw[w9 φ S a]at c;exact .inl ⟨id,d,c⟩
 .rcases q id f with a|⟨a,_,d⟩
  .subst a;rw[Ej]at c;rcases v b o c with⟨i,_,k,p⟩|k
   .exact mb (h.bl i b o k p) s.size
   omega
  .rw[w9 φ S a]at c;exact mb (h.bl id b o d c) s.size
 .have key:∀g,g≠t->g∉m->Live objs g->φ g b o->S b o->False:=λg a j d k p=>by
   rcases v b o p with⟨i,H,z,E⟩|z
   .have:=h.inj i g b o z d E k;simp_all
   .have:=h.bl g b o d k;omega
  rcases q id f with a|⟨a,j,d⟩<;>rcases q g J with u|⟨u,N,D⟩
  .rw[a,u]
  .simp_all [Ej,w9]
  .simp_all [Ej,w9]
  .rw[w9 φ S a]at c;rw[w9 φ S u]at y;exact h.inj id g b o d D c y
theorem HR.drew(h:HR w0 F G ν φ objs nx w):HR w0 F G ν φ objs nx w.drew:=by
 have i:WLe (NU φ objs) w w.drew:=⟨Xl _,λ_ j _ h=>⟨j,h,rfl⟩,λ_ _ _ _=>rfl,λ_ _ _=>rfl,rfl,rfl,rfl⟩;exact h.step i (λa f g _=>DL (w:=w) (w':=w.drew) (S:=φ a) (λ_ _ _ c=>c) ⟨λ_ _ c=>c,λ_ _ _=>rfl⟩ (λ_ _ c=>c) (λ_ _=>rfl) (Xl _) (h.lt a ⟨f,g,by assumption⟩) f (h.ob a f g))
  h.lt (λa b o d e=>.inl ⟨a,d,e⟩) (λa b o d e=>h.bl a b o d e) h.inj
theorem HRel.drew(h:HRel w0 F G ν objs nx w):HRel w0 F G ν objs nx w.drew:=by
 obtain⟨φ,h⟩:=h;exact⟨φ,h.drew⟩
end
section
variable{w0:World}{F:CS}{nt:Slots}{G0 G G':GH}{ν ν':Nat->Nu}{st:St}{a:Act}{w w':World}{P:Program}{T:Tab}
theorem Rel.put(h:Rel w0 F nt G0 G ν st a w){dst:Option Tmp}(c:∀d,dst=some d->nt.Ok d){x:AVal}{v:Value}(k:AValRel G ν st.nx x v):Rel w0 F nt G0 G ν (st.put dst x) (a.put dst v) w:=by
 cases dst with
 |none=>exact h
 |some d=>
  have g:d<a.tmps.size:=by rw[h.ntm];exact(c d rfl).1
  refine⟨h.defers,by simpa [Act.put]using h.ntm,λp f=>?_,λi y b=>?_,h.h,h.gx⟩
  .simp only[Act.put];rw[V4 (λe=>(c d rfl).2 p f e.symm)];exact h.par p f
  simp only[St.put]at b;rw[WW]at b;split at b
  .rename_i e;subst e;injection b with b;subst b;exact⟨v,by simp[Act.put,g],k⟩
  .rename_i aH;obtain⟨u,l,j⟩:=h.env i y b;exact⟨u,by grind [Act.put,V4],j⟩
theorem Rel.on(h:Rel w0 F nt G0 G ν st a w){objs':ad}{am:Nat}(e:GLe G G')(f:nc st.nx ν ν')(k:st.nx<=am)
  (c:HRel w0 F G' ν' objs' am w') (b:GExt w0.heap.size F G0 G'):Rel w0 F nt G0 G' ν' {env:=st.env,objs:=objs',nx:=am} a w':=
 ⟨h.defers,h.ntm,h.par,λi y d=>by
  obtain⟨u,j,g⟩:=h.env i y d
  grind [AValRel.mono],c,b⟩
def upd(ν:Nat->Nu)(i:Nat)(n:Nu):Nat->Nu:=λj=>if j=i then n else ν j
theorem EC(ν:Nat->Nu)(i:Nat)(n:Nu):nc i ν (upd ν i n):=λj a=>by simp[upd];omega
theorem fZ(ν:Nat->Nu)(i:Nat)(n:Nu):upd ν i n i=n:=by simp[upd]
theorem Rel.lay(h:Rel w0 F nt G0 G ν st a w){dst:Option Tmp}(c:∀d,dst=some d->nt.Ok d){objs':ad}{am:Nat}(e:nc st.nx ν ν')(g:st.nx<=am)
  (b:HRel w0 F G ν' objs' am w') {x:AVal} {v:Value} (f:AValRel G ν' am x v):Rel w0 F nt G0 G ν' (({env:=st.env,objs:=objs',nx:=am}:St).put dst x) (a.put dst v) w':=
 (h.on (λ_ _ _ b=>b) e g b h.gx).put c f
theorem Rel.fresh(h:Rel w0 F nt G0 G ν st a w){dst:Option Tmp}(i:∀d,dst=some d->nt.Ok d)(m:List Nat)(e:Ob)(nu:Nu)(S:(Nat->CS)->CS)(x:AVal)(v:Value)
  (k:∀φ,HR w0 F G ν φ st.objs st.nx w->WLe (Ih φ st.objs st.nx m) w w') (g:∀φ,HR w0 F G ν φ st.objs st.nx w->∀b o,S φ b o->Ih φ st.objs st.nx m b o\/(w.heap.size<=b/\b<w'.heap.size))
  (f:∀φ,HR w0 F G ν φ st.objs st.nx w->fc G (upd ν st.nx nu) (st.nx+1) w' st.nx (S φ) e)
  (j:AValRel G (upd ν st.nx nu) (st.nx+1) x v):
  Rel w0 F nt G0 G (upd ν st.nx nu) (({env:=st.env,objs:=(st.nx,e)::kill st.objs m,nx:=st.nx+1}:St).put dst x) (a.put dst v) w':=by
 obtain⟨φ,c⟩:=h.h;exact h.lay i (EC ν st.nx nu) (B7 _) ⟨_,c.put (EC ν st.nx nu) (B7 _) (nn _) (k φ c) (g φ c) (λ_=>f φ c)⟩ j
theorem Rel.new(h:Rel w0 F nt G0 G ν st a w){dst:Option Tmp}(f:∀d,dst=some d->nt.Ok d)(c:Ob)(nu:Nu)(x:AVal)(v:Value)
  (k:WLe (λ_ _=>False) w w')
  (e:fc G (upd ν st.nx nu) (st.nx+1) w' st.nx (λb _=>w.heap.size<=b/\b<w'.heap.size) c)
  (j:AValRel G (upd ν st.nx nu) (st.nx+1) x v):
  Rel w0 F nt G0 G (upd ν st.nx nu) (st.new dst c x) (a.put dst v) w':=
 h.fresh f [] c nu (λ_ b _=>w.heap.size<=b/\b<w'.heap.size) x v (λφ _=>k.mono λ_ _ g=>g.elim) (λφ _ b o i=>.inr i) (λφ _=>e) j
end
theorem Wt3{v:Value}(h:v.oneCell'=true):v.cells= #[v]:=by
 cases v<;>first|rfl|simp[Value.oneCell']at h
section
variable{w0:World}{F:CS}{nt:Slots}{G0 G:GH}{ν:Nat->Nu}{objs:ad}{nx:Nat}{st:St}{a:Act}{w w':World}{P:Program}{T:Tab}
theorem K7:∀(t:Ty),t.data=true->Enc G t t.dflt (df t)
 | .int _,_=>rfl
 | .bool,_=>rfl
 | .str,_=>rfl
 | .slice e,_=>⟨_,rfl,.inl ⟨rfl,rfl⟩⟩
 | .own _,h=>by simp[Ty.data]at h
 | .prod a b,h=>by
  simp only[Ty.data,Xj]at h;exact⟨_,_,rfl,K7 a h.1,K7 b h.2⟩
theorem Ic:∀(t:Ty),CellsRel G ν nx (mV t) (df t)
 | .int _=>CellsRel.one rfl rfl
 | .bool=>CellsRel.one rfl rfl
 | .str=>CellsRel.one rfl rfl
 | .slice e=>CellsRel.one rfl rfl
 | .own _=>CellsRel.one trivial rfl
 | .prod a b=>(Ic a).append (Ic b)
theorem nW:∀(t:Ty),(df t).length=t.size
 | .int _| .bool| .str| .slice _| .own _=>rfl
 | .prod a b=>by simp[df,nW a,nW b,Ty.size]
theorem Hj{α:Type}(l:List α):∀n,(rep l n).length=n*l.length
 |0=>by simp[rep]
 |n+1=>by rw[rep,Xx,Hj l n,gz,qG]
theorem Bm{e:Ty}(h:e.data=true):∀n,b4 (Enc G e) (Xt n e.dflt) (rep (df e) n)
 |0=>rfl
 |n+1=>⟨_,_,rfl,K7 e h,Bm h n⟩
theorem Bh{t:TypeId}{a:TE}(b:TEok P T t a):∃z,(zeroValue t).run P w= .ok z w/\z.cells.toList=a.cells:=by
 obtain⟨i,z,d,_,e,c,_⟩:=b.info;simp_all [zeroValue,Po]
theorem vJ{a:TE}(h:a.plain=true):a.cells=df a.ty:=by
 unfold TE.plain at h;unfold TE.cells;split at h<;>simp_all
theorem MK(w:World)(o:Obj):(w.alloc o).heap[w.heap.size]?=some o:=heap_alloc_new w o
theorem zty:∀(t:Ty),∃f,WF G w t t.dflt (df t.ro) f/\∀p∈f,p.fp= λ_ _=>False
 | .int _=>⟨[],⟨rfl,rfl⟩,by simp⟩
 | .bool=>⟨[],⟨rfl,rfl⟩,by simp⟩
 | .str=>⟨[],⟨rfl,rfl⟩,by simp⟩
 | .slice e=>⟨[],⟨rfl,_,rfl,.inl ⟨rfl,rfl⟩⟩,by simp⟩
 | .own e=>⟨[⟨⟨none,0,0,0,e.size⟩,λ_ _=>False⟩],⟨_,rfl,rfl,rfl,rfl,rfl⟩,by simp⟩
 | .prod a b=>by
  obtain⟨c,g,i⟩:=zty a;obtain⟨d,h,j⟩:=zty b;refine⟨c++d,⟨_,_,c,d,rfl,rfl,g,h⟩,λp k=>?_⟩
  grind
theorem Vj(e:Ty):∀n,∃c,cJ (WF G w e) (Xt n e.dflt) (rep (df e.ro) n) c/\∀p∈c,p.fp= λ_ _=>False
 |0=>⟨[],⟨rfl,rfl⟩,by simp⟩
 |n+1=>by
  obtain⟨a,d,g⟩:=zty (G:=G) (w:=w) e;obtain⟨b,f,h⟩:=Vj e n;refine⟨a++b,⟨_,_,a,b,rfl,rfl,d,f⟩,λp i=>?_⟩
  grind
theorem QZ:∀(a:List Pc),(∀p∈a,p.fp= λ_ _=>False)->Sep (a.map Pc.fp)
 | [],_=>List.Pairwise.nil
 |p::a,h=>bq.2 ⟨λs _ b o d _=>by simp_all,QZ a λq c=>h q (Xf _ c)⟩
theorem TK(h:Rel w0 F nt G0 G ν st a w){dst:Option Tmp}(e:∀d,dst=some d->nt.Ok d){cs:List Cell}{vs:Array Value}{t:TypeId}(c:CellsRel G ν st.nx cs vs.toList):
  ∃ν',Rel w0 F nt G0 G ν' (st.new dst (.box cs) (.s (.one (.ptr st.nx 0)))) (a.put dst (.pointer (some ⟨w.heap.size,0,none⟩))) (w.alloc (.cells vs t)):=by
 refine⟨upd ν st.nx ⟨some w.heap.size,0,0,0,0⟩,h.new e (.box cs) _ _ _ (WLe.alloc _ w _ rfl rfl rfl rfl) ?_ ?_⟩
 .have hl:vs.size=cs.length:=by have:=c.1;omega
  refine⟨w.heap.size,vs.toList,by rw[fZ],⟨vs,t,MK w _,by grind [fZ]⟩,?_,c.mono (λ_ _ _ f=>f) (EC _ _ _) (B7 _),λb o ⟨g,_⟩=>by simp_all⟩;rw[fZ];exact UC (MK w _) (λj v i=>by simp_all)
 .exact⟨⟨nn _,w.heap.size,by rw[fZ],by rw[fZ]⟩,rfl⟩
def FromL(φ:Nat->CS)(objs:ad)(m:List Nat):CS:=λb o=>∃i∈m,Live objs i/\φ i b o
theorem GT(h:Rel w0 F nt G0 G ν st a w){dst:Option Tmp}(M:∀d,dst=some d->nt.Ok d)(m:List Nat){e:Ty}{xs:List e.den}{cap:Nat}{vs:Array Value}{t:TypeId}{cs:List Value}(S:xs.length<=cap)(U:cap<=maxLen)
  (V:vs.size=cap*e.size) (L:∀φ,HR w0 F G ν φ st.objs st.nx w->∃n,cJ (WF G w e) xs cs n/\Sep (n.map Pc.fp)/\∀p∈n,CS.le p.fp (FromL φ st.objs m)) (O:cs<+:vs.toList)
  (f:World) (I:f.heap=w.heap) (H:f.os=w.os) (D:f.output=w.output) (B:f.tape=w.tape):
  (∃ν',Rel w0 F nt G0 G ν' (({env:=st.env,objs:=(st.nx,.arr e xs)::kill st.objs m,nx:=st.nx+1}:St).put dst (.s (.one (.own st.nx)))) (a.put dst (.slice (some ⟨w.heap.size,0,none⟩) xs.length cap)) (f.alloc (.cells vs t)))/\
  (∃ν',Rel w0 F nt G0 G ν' (({env:=st.env,objs:=(st.nx,.arr e xs)::kill st.objs m,nx:=st.nx+1}:St).put dst (.s (.one (.aptr st.nx)))) (a.put dst (.pointer (some ⟨w.heap.size,0,none⟩))) (f.alloc (.cells vs t))):=by
 have E:(f.alloc (.cells vs t)).heap[w.heap.size]?=some (Obj.cells vs t (0,0)):=by grind [MK]
 have r:∀(x:AVal) (v:Value),AValRel G (upd ν st.nx ⟨some w.heap.size,0,xs.length,cap,e.size⟩) (st.nx+1) x v->
   ∃ν',Rel w0 F nt G0 G ν' (({env:=st.env,objs:=(st.nx,.arr e xs)::kill st.objs m,nx:=st.nx+1}:St).put dst x) (a.put dst v) (f.alloc (.cells vs t)):=λx v R=>by
  refine⟨upd ν st.nx ⟨some w.heap.size,0,xs.length,cap,e.size⟩,h.fresh M m (.arr e xs) _ (λφ b o=>FromL φ st.objs m b o\/b=w.heap.size) x v (λφ _=>WLe.alloc _ f _ I H D B) (λφ A b o g=>?_) (λφ A=>?_) R⟩
  .rcases g with⟨i,N,y,z⟩|g
   .exact .inl ⟨i,.inr N,y,z⟩
   simp_all
  .obtain⟨n,y,z,C⟩:=L φ A;have T:∀p∈n,∀b o,p.fp b o->b<w.heap.size:=λp l b o k=>by
    obtain⟨i,_,J,K⟩:=C p l b o k;exact A.bl i b o J K
   show aF (f.alloc (.cells vs t)) (WF G _ e) e.size (upd ν st.nx ⟨some w.heap.size,0,xs.length,cap,e.size⟩ st.nx) xs _;rw[fZ];refine⟨rfl,rfl,S,U,⟨vs,t,E,by simp_all⟩,cs,n,?_,?_,bq.2 ⟨λs g b o ⟨W,_⟩ u=>?_,z⟩,λs g b o u=>?_⟩
   .refine pG (Q:=λp=>∀b o,p.fp b o->b<w.heap.size) (λx c p l k=>?_) _ _ _ T y;exact lG (λ_ _ _ k=>k) e x c p (λq P=>(WLe.alloc (λ_ _=>False) f _ I H D B).same (λ_ _ k _=>k) (l q P)) k
   .obtain⟨Z,Y⟩:=O;exact UC E (λj v X=>by grind)
   .obtain⟨p,l,rfl⟩:=Xz.1 g
    grind
   .rcases Xs.1 g with rfl|g
    .exact .inr u.1
    .obtain⟨p,l,rfl⟩:=Xz.1 g;exact .inl (C p l b o u)
 refine⟨r _ _ ⟨⟨nn _,?_⟩,rfl⟩,r _ _ ⟨⟨nn _,w.heap.size,by rw[fZ],by rw[fZ]⟩,rfl⟩⟩;rw[fZ];rfl
theorem M5(h:Rel w0 F nt G0 G ν st a w){dst:Option Tmp}(i:∀d,dst=some d->nt.Ok d){e:Ty}(j:e.data=true){xs:List e.den}{cap:Nat}{vs:Array Value}{t:TypeId}{cs:List Value}(l:xs.length<=cap)(m:cap<=maxLen)
  (c:vs.size=cap*e.size) (g:b4 (Enc G e) xs cs) (k:cs<+:vs.toList) (b:World) (p:b.heap=w.heap) (o:b.os=w.os) (n:b.output=w.output) (f:b.tape=w.tape):
  (∃ν',Rel w0 F nt G0 G ν' (st.new dst (.arr e xs) (.s (.one (.own st.nx)))) (a.put dst (.slice (some ⟨w.heap.size,0,none⟩) xs.length cap)) (b.alloc (.cells vs t)))/\
  (∃ν',Rel w0 F nt G0 G ν' (st.new dst (.arr e xs) (.s (.one (.aptr st.nx)))) (a.put dst (.pointer (some ⟨w.heap.size,0,none⟩))) (b.alloc (.cells vs t))):=
 GT h i [] l m c (λφ _=>⟨[],(q9 j xs cs []).2 ⟨g,rfl⟩,List.Pairwise.nil,by simp⟩) k b p o n f
theorem AI{x:AVal}{v:Value}{cs:List Cell}(e:AValRel G ν nx x v)(a:lv x=some cs):CellsRel G ν nx cs v.cells.toList/\∀u∈v.cells.toList,u.oneCell'=true:=by
 cases x with
 |tup xs=>simp[lv]at a
 |s y=>
  cases y with
  |one c=>
   simp[lv]at a;subst a;obtain⟨b,h⟩:=e
   grind [Wt3,CellsRel.one]
  |agg ds=>
   simp[lv]at a;subst a;obtain⟨i,rfl,b⟩:=e;refine⟨by grind [Value.cells],λu d=>?_⟩;simp[Value.cells]at d;obtain⟨j,g⟩:=List.getElem?_of_mem d;have f:j<ds.length:=by rw[←b.1];grind
   exact(b.2 j _ u (Xp f) g).2
theorem Am(t:TypeId)(vs:Array Value):(newRow t vs).run P w= .ok ⟨w.heap.size,0,none⟩ (w.alloc (.cells vs t)):=rfl
theorem Gu{cs a:List Cell}{off:Nat}(h:off+a.length<=cs.length):(lO cs off a).length=cs.length:=by
 simp[lO];omega
theorem Gt{cs a:List Cell}{vs us:List Value}{off:Nat}(b:CellsRel G ν nx cs vs)(c:CellsRel G ν nx a us):
  CellsRel G ν nx (lO cs off a) (vs.take off++us++vs.drop (off+us.length)):=by
 rw[c.1];exact((b.take off).append c).append (b.drop _)
theorem Mg(us:List Value):∀(off k:Nat) (cs:Array Value),off+k+us.length<=cs.size->
  ((us.zipIdx k).foldl (λcs (c,j)=>cs.setIfInBounds (off+j) c) cs).toList=cs.toList.take (off+k)++us++cs.toList.drop (off+k+us.length):=by
 induction us with
 |nil=>simp_all
 |cons u us ih=>
  intro off k cs h;simp only[List.zipIdx_cons,List.foldl_cons,Xu]at h⊢;rw[ih off (k+1) _ (by simp;omega)];have a:off+k<cs.toList.length:=by simp;omega
  simp only[Array.toList_setIfInBounds];generalize cs.toList=l at*;have b:(l.set (off+k) u).take (off+(k+1))=l.take (off+k)++ [u]:=by
   rw[←eK,List.take_succ_eq_append_getElem (by simp_all),List.take_set_of_le (Xl _)];simp
  grind [List.drop_set_of_lt]
end
section
variable{w0:World}{F:CS}{nt:Slots}{G0 G:GH}{ν:Nat->Nu}{objs:ad}{nx:Nat}{st ai:St}{a:Act}{w w':World}{P:Program}{T:Tab}
def Done(P:Program)(w0:World)(F:CS)(nt:Slots)(G0:GH)(o:Oper)(a:Act)(w:World)(ai:St):Prop:=
 ∃n v w' G' ν',(execOp a.eval o).run P w= .ok n w'/\(n= .value v\/(n= .skip/\v=undef))/\Rel w0 F nt G0 G' ν' ai (a.put o.dst v) w'
theorem Gv(e:Rel w0 F nt G0 G ν st a w):∀(l:List (Nat×Operand)) (b:List (Nat×AVal)),lK st l=some b->
  b.length=l.length/\∀(j:Nat) (p:Nat×AVal) (q:Nat×Operand),b[j]?=some p->l[j]?=some q->p.1=q.1/\AValRel G ν st.nx p.2 (a.eval q.2)
 | [],b,h=>by simp[lK]at h;simp_all
 |(i,x)::l,b,h=>by
  simp only[lK]at h;split at h
  .rename_i y ys h1 h2;injection h with h;subst h;obtain⟨f,g⟩:=Gv e l ys h2;refine⟨by simp[f],λj p q c d=>?_⟩;cases j with
   |zero=>simp at c d;subst c d;exact⟨rfl,WU e x _ h1⟩
   |succ j=>grind
  grind
theorem Qo(A:aO P T){m:List (Nat×TypeId)}{a:Nat->Option (Nat×Nat)}
  (n:∀(i off:Nat) (b:TypeId) (d:TE),m[i]?=some (off,b)->Wt T b=some d->a i=some (off,d.size)) (w:∀(i off:Nat) (b:TypeId) (d:TE),m[i]?=some (off,b)->Wt T b=some d->d.plain=true):
  ∀(l:List (Nat×AVal)) (e:List (Nat×Value)) (cs db:List Cell) (vs:Array Value),CellsRel G ν nx cs vs.toList->e.length=l.length->
   (∀(j:Nat) (p:Nat×AVal) (q:Nat×Value),l[j]?=some p->e[j]?=some q->p.1=q.1/\AValRel G ν nx p.2 q.2)->tc T m l cs=some db->
   ∃f,Instr.fill a vs e=some f/\CellsRel G ν nx db f.toList
 | [],[],cs,db,vs,g,_,_,h=>by simp[tc]at h;subst h;exact⟨vs,rfl,g⟩
 |(i,x)::l,[],_,_,_,_,k,_,_=>by simp at k
 | [],_::_,_,_,_,_,k,_,_=>by simp at k
 |(i,x)::l,(i',v)::e,cs,db,vs,g,k,t,h=>by
  obtain⟨s,u⟩:=t 0 _ _ rfl rfl;simp only at s u;subst s;simp only[tc]at h;split at h
  .rename_i off b hf;split at h
   .rename_i d ds cj iY;split at h
    .rename_i cF;simp only[Xj,Wg]at cF;obtain⟨E,F⟩:=cF;obtain⟨r,_⟩:=AI u iY;have D:v.cells.size=ds.length:=by have:=r.1;omega
     have J:vs.size=cs.length:=by have:=g.1;omega
     have C:=w _ _ _ _ hf cj;have o:=Mg v.cells.toList off 0 vs (by simp;omega);simp only[eL,gX]at o;have B:CellsRel G ν nx (lO cs off ds) (v.cells.toList.zipIdx.foldl (λcs (c,j)=>cs.setIfInBounds (off+j) c) vs).toList:=by
      rw[o];have:=Gt (off:=off) g r;omega
     obtain⟨f,y,z⟩:=Qo A n w l e _ db _ B (by simp_all) (λj p q H I=>t (j+1) p q (by simp_all) (by simp_all)) h;refine⟨f,?_,z⟩;simp only[Instr.fill,n _ _ _ _ hf cj];rw[Wa (by grind [W9])];rw[←y];congr 1;rw[←Array.foldl_toList];simp
    grind
   grind
  grind
theorem O7{α β:Type}(f:α->Sem β)(g:α->β):∀(l:List α),(∀x∈l,(f x).run P w= .ok (g x) w)->(l.mapM f).run P w= .ok (l.map g) w
 | [],_=>by simp
 |x::l,h=>by
  simp only[Fi,Sem.run_bind,h x (Xg ..),Result.andThen_ok,O7 f g l (λy a=>h y (Xf _ a)),Sem.run_pure,bK]
theorem Wom{α β:Type}(f:α->Sem β)(g:α->β)(l:Array α)(h:∀x∈l,(f x).run P w= .ok (g x) w):(l.mapM f).run P w= .ok (l.map g) w:=by
 rw[Array.mapM_eq_mapM_toList];simp only[Sem.run_map,O7 f g l.toList (λx a=>h x (by simp_all)),Result.andThen_ok];congr 1
 grind
theorem Wrk(r:aO P T)(B:Rel w0 F nt G0 G ν st a w){o:Oper}(L:∀d,o.dst=some d->nt.Ok d){t:TypeId}{c:Array (Nat×Operand)}(N:o.op= .build t c)
  {ty:Ty} {h:List (Nat×TypeId)} {u:List (Nat×AVal)} {cs:List Cell} (M:Wt T t=some ⟨ty,true,.struct h⟩) (E:lK st c.toList=some u) (l:tc T h u (mV ty)=some cs)
  (y:∀f∈h,∃e,Wt T f.2=some e/\e.plain=true):
  Done P w0 F nt G0 o a w (st.put o.dst (.s (.agg cs))):=by
 have v:=r _ _ M;obtain⟨_,b,O,V,_⟩:=v.und;obtain⟨z,Q,H⟩:=Bh (w:=w) v;obtain⟨I,W⟩:=Gv B _ _ E;have D:∀f∈b,∃e,Wt T f.type=some e/\e.plain=true:=λf l=>y (f.offset,f.type) (by grind)
 let m:Field->Nat:=λf=>match Wt T f.type with|some e=>e.size|none=>0
 have C:(b.mapM λf=>(do pure (f.offset,←sizeOf f.type):Sem (Nat×Nat))).run P w= .ok (b.map λf=>(f.offset,m f)) w:=by
  refine Wom _ (λf=>(f.offset,m f)) b (λf l=>?_);obtain⟨e,g,_⟩:=D f l;simp[m,(r _ _ g).sizeOf,g]
 have R:∀(i off:Nat) (k:TypeId) (e:TE),h[i]?=some (off,k)->Wt T k=some e->(b.map λf=>(f.offset,m f))[i]?=some (off,e.size):=λi off k e A g=>by
  grind
 have S:CellsRel G ν st.nx (mV ty) z.cells.toList:=by
  rw[H];exact Ic ty
 obtain⟨n,J,K⟩:=Qo r R (λi off k e A g=>by
   obtain⟨U,X,Y⟩:=y _ (List.mem_of_getElem? A);simp_all) u (c.toList.map λp=>(p.1,a.eval p.2)) _ cs z.cells S (by simp[I]) (λj p q Z hq=>by
   grind) l
 refine⟨.value (.agg n),.agg n,w,G,ν,?_,.inl rfl,B.put L ⟨n.toList,by simp,K⟩⟩;simp only[execOp,N,Instr.build,Sem.run_bind,Q,Result.andThen_ok,Wj O,C];have:(c.map λx=>match x with|(i,x)=>(i,a.eval x)).toList=c.toList.map λp=>(p.1,a.eval p.2):=by simp
 rw[this,J];rfl
theorem Wrt(c:aO P T)(g:Rel w0 F nt G0 G ν st a w){o:Oper}(e:∀d,o.dst=some d->nt.Ok d){t:TypeId}(j:o.op= .alloc t){b:TE}(f:Wt T t=some b)(k:b.plain=true):
  Done P w0 F nt G0 o a w (st.new o.dst (.box (mV b.ty)) (.s (.one (.ptr st.nx 0)))):=by
 obtain⟨z,l,i⟩:=Bh (w:=w) (c _ _ f);obtain⟨ν',h⟩:=TK (t:=t) (vs:=z.cells) g e (cs:=mV b.ty) (by grind [vJ,Ic]);refine⟨_,_,_,G,ν',?_,.inl rfl,h⟩;simp_all [execOp,Instr.alloc,Sem.run_bind,Result.andThen_ok,newVar,Am,Sem.run_pure]
theorem WlM(i:aO P T)(m:Rel w0 F nt G0 G ν st a w){o:Oper}(j:∀d,o.dst=some d->nt.Ok d){t:TypeId}(q:o.op= .alloc t){e:Ty}{n:Nat}{g:TypeId}(k:Wt T t=some ⟨e,true,.arr n g⟩)(b:e.data=true)(p:WC n=true):
  Done P w0 F nt G0 o a w (st.new o.dst (.arr e (Xt n e.dflt)) (.s (.one (.aptr st.nx)))):=by
 obtain⟨z,r,f⟩:=Bh (w:=w) (i _ _ k);have l:n<=maxLen:=by grind [WC,maxLen]
 have c:z.cells.size=n*e.size:=by
  grind [gX,TE.cells,Hj,nW]
 obtain⟨_,ν',h⟩:=M5 (t:=t) (vs:=z.cells) m j (e:=e) b (xs:=Xt n e.dflt) (cap:=n) (cs:=rep (df e) n) (by simp) l c (Bm b n) (by rw[f];exact List.prefix_refl _) w rfl rfl rfl rfl;refine⟨_,_,_,G,ν',?_,.inl rfl,h⟩;simp_all [execOp,Instr.alloc,Sem.run_bind,Result.andThen_ok,newVar,Am,Sem.run_pure]
theorem Wwf(b:Rel w0 F nt G0 G ν st a w){o:Oper}(f:∀d,o.dst=some d->nt.Ok d){t:TypeId}{x:Operand}(g:o.op= .box t x){v:AVal}{cs:List Cell}(i:ev st x=some v)(e:lv v=some cs):
  Done P w0 F nt G0 o a w (st.new o.dst (.box cs) (.s (.one (.ptr st.nx 0)))):=by
 obtain⟨c,_⟩:=AI (WU b x _ i) e;obtain⟨ν',h⟩:=TK (t:=t) b f c;refine⟨_,_,_,G,ν',?_,.inl rfl,h⟩;simp only[execOp,g,Instr.box,Sem.run_bind,Result.andThen_ok,newVar,Am,Sem.run_pure]
theorem Wsv(f:aO P T)(b:Rel w0 F nt G0 G ν st a w){o:Oper}(g:∀d,o.dst=some d->nt.Ok d){r:AVal}(h:cr T st o.op=some (true,r)):Done P w0 F nt G0 o a w (st.put o.dst r):=by
 obtain⟨v,c,e⟩:=Wq7 f b h;exact⟨_,v,w,G,ν,c,.inl rfl,b.put g e⟩
end
theorem Ll{t a:Ty}{d:t.den}{d':a.den}(h:Ey t a d=some d'):∃e:t=a,e▸d=d':=by
 grind [Ey]
theorem kQ{e a:Ty}{d:List e.den}{d':List a.den}(h:ki e a d=some d'):∃b:e=a,b▸d=d':=by
 grind [ki]
theorem Wt4{A a:Type}(b:A=a)(h:List A=List a)(l:List A)(i:Nat):cast h (l.take i)=(cast h l).take i:=by
 grind
theorem WuR{A a:Type}(b:A=a)(h:List A=List a)(l:List A)(i:Nat):cast h (l.drop i)=(cast h l).drop i:=by
 grind
theorem WrF(e:Ty)(l:List e.den)(i:Nat):fi e (l.take i)=(fi e l).take i:=Wt4 (lP e).symm _ l i
theorem Wrw(e:Ty)(l:List e.den)(i:Nat):fi e (l.drop i)=(fi e l).drop i:=WuR (lP e).symm _ l i
section
variable{w0:World}{F:CS}{G G':GH}{ν:Nat->Nu}{φ:Nat->CS}{objs:ad}{nx:Nat}{w:World}
def Lent(G':GH)(w:World)(φ:Nat->CS)(objs:ad)(l:List Nat):Prop:=∀a∈l,Live objs a->Froz G' w (φ a)
theorem Lent.mono{l m:List Nat}(h:Lent G' w φ objs m)(c:∀i∈l,i∈m):Lent G' w φ objs l:=λa b=>h a (c a b)
theorem CellsRel.single{c:Cell}{vs:List Value}(h:CellsRel G ν nx [c] vs):∃v,vs= [v]/\CellRel G ν nx c v/\v.oneCell'=true:=by
 obtain⟨a,b⟩:=h
 match vs,a with
 | [v],_=>exact⟨v,rfl,b 0 c v rfl rfl⟩
theorem Gw{t:Ty}{c:Cell}{d:t.den}{v:Value}(f:GLe G G')(h:CellRel G ν nx c v)(a:oG t c=some d):Enc G' t d [v]:=by
 unfold oG at a;split at a
 .obtain⟨e,b⟩:=Ll a;subst e;simp only at b;subst b;exact j3 f _ _ _ h
 grind
theorem FromL.mono{m m':List Nat}(h:∀i∈m,i∈m'):CS.le (FromL φ objs m) (FromL φ objs m'):=λb o ⟨i,c,a⟩=>⟨i,h i c,a⟩
theorem FromL.one{i:Nat}{m:List Nat}(hi:i∈m)(a:Live objs i):CS.le (φ i) (FromL φ objs m):=λb o h=>⟨i,hi,a,h⟩
theorem FromL.disj(h:HR w0 F G ν φ objs nx w){m m':List Nat}(f:∀i∈m,i∉m'):CS.disj (FromL φ objs m) (FromL φ objs m'):=λb o ⟨i,g,a,c⟩ ⟨j,k,d,e⟩=>by
 have:=h.inj i j b o a d c e;simp_all
theorem CS.disj.mono{A B a B':CS}(h:CS.disj A B)(c:CS.le a A)(d:CS.le B' B):CS.disj a B':=λb o e f=>h b o (c b o e) (d b o f)
theorem CS.disj.symm{A B:CS}(h:CS.disj A B):CS.disj B A:=λb o a c=>h b o c a
theorem Nq{l m:List CS}{A B:CS}(a:Sep l)(b:Sep m)(c:∀s∈l,CS.le s A)(d:∀s∈m,CS.le s B)(e:CS.disj A B):Sep (l++m):=
 dx.2 ⟨a,b,λs f t g=>e.mono (c s f) (d t g)⟩
theorem Rr{c d e:List CS}(j:Sep (c++e))(h:Sep d)(f:∀s∈d,∀t∈c++e,CS.disj s t):Sep (c++(d++e)):=by
 obtain⟨g,i,k⟩:=dx.1 j;refine dx.2 ⟨g,dx.2 ⟨h,i,λs b t a=>f s b t (Xh _ a)⟩,λs b t a=>?_⟩;rcases Xn.1 a with a|a
 .exact(f t a s (Xm _ b)).symm
 simp_all
theorem Gy{b off i n cap:Nat}(hi:i<cap){S:CS}(g:CS.le (rng b off (i*n)) S)(h:CS.le (rng b (off+i*n) n) S)(j:CS.le (rng b (off+(i+1)*n) ((cap-(i+1))*n)) S):CS.le (rng b off (cap*n)) S:=λa o ⟨e,f,m⟩=>by
 have k:(i+1)*n=i*n+n:=gz i n;have l:(cap-(i+1))*n+(i+1)*n=cap*n:=by rw[←lC];grind
 by_cases c:o<off+i*n
 .exact g a o ⟨e,f,c⟩
 .by_cases d:o<off+i*n+n
  .exact h a o ⟨e,by omega,d⟩
  .exact j a o ⟨e,by omega,by omega⟩
theorem Wvm{b a n c m:Nat}(h:a+n<=c):CS.disj (rng b a n) (rng b c m):=λd o ⟨_,e,f⟩ ⟨_,g,i⟩=>by omega
theorem Wwi{e:Ty}{nu y:Nu}{xs:List e.den}{i:Nat}{S S1 S2:CS}(h:mW w (WF G w e) e.size nu y xs i S){d:e.den}{vs:List Value}{z:List Pc}(K:WF G w e d vs z)
  {b:Nat} (hb:y.blk=some b) (L:Mem w b y.off vs) (u:CS.le (rng b y.off e.size) S1) (g:Sep (z.map Pc.fp)) (k:∀p∈z,CS.le p.fp S2) (Q:CS.disj S S1) (A:CS.disj S S2) (R:CS.disj S1 S2)
  {S':CS} (v:CS.le S S') (l2:CS.le S1 S') (l3:CS.le S2 S'):aF w (WF G w e) e.size nu (xs.set i d) S':=by
 obtain⟨h1,Y,Z,E,h4,r,h6,h7,h8,h9,O,P,C,D,H,V,W,g4,X,B⟩:=h;rw[hb]at r;injection r with r;subst r;have F:=jJ (λx c q hx=>WN e x c q hx) _ _ _ H;rw[di,fV (by omega)]at F;have N:=WN _ _ _ _ K;have e1:(i+1)*e.size=i*e.size+e.size:=gz i e.size;refine⟨by simp_all,Y,?_⟩;simp only[h4];have I:=B _ (Xg ..);have J:=B _ (Xf _ (Xg ..));have l:∀s∈(C++D).map Pc.fp,CS.le s S:=λs g=>B s (Xf _ (Xf _ g));obtain⟨q1,q2⟩:=bq.1 X;obtain⟨q3,M⟩:=bq.1 q2;rw[h6]at L u;refine⟨by simp_all,h8,h9,O++(vs++P),C++(z++D),Tf Z H K V,?_,bq.2 ⟨λs a=>?_,?_⟩,λs a=>?_⟩
 .refine W.app (n:=i*e.size) ?_ F;refine L.app (n:=e.size) ?_ N
  grind
 .
  simp only[Xw,Xn]at a;have m:∀s,(CS.disj s (rng b nu.off (i*e.size)))->CS.disj s (rng b (nu.off+i*e.size) e.size)->CS.disj s (rng b (nu.off+(i+1)*e.size) ((nu.cap-(i+1))*e.size))->CS.disj (rng b nu.off (nu.cap*e.size)) s:=λs k1 k2 k3 E o T U=>
   (Gy (show i<nu.cap by omega) (S:=λb o=>¬s b o) (λb o f g=>k1 b o g f) (λb o f g=>k2 b o g f) (λb o f g=>k3 b o g f) E o T) U
  have wa:∀s∈(C++D).map Pc.fp,CS.disj (rng b nu.off (nu.cap*e.size)) s:=λs g=>m s (q1 s (Xf _ g)).symm (Q.mono (l s g) u) (q3 s g).symm;rcases a with a|a|a
  .simp_all
  .obtain⟨p,j,rfl⟩:=Xz.1 a;exact m _ (A.mono I (k p j)).symm (R.mono u (k p j)).symm (A.mono J (k p j)).symm
  simp_all
 .rw[Xw,Xw];rw[Xw]at M l;refine Rr M g (λs a t ht=>?_);obtain⟨p,j,rfl⟩:=Xz.1 a;exact(A.mono (l t ht) (k p j)).symm
 .rcases Xs.1 a with rfl|a
  .exact Gy (show i<nu.cap by omega) (λb o f=>v b o (I b o f)) (λb o f=>l2 b o (u b o f)) (λb o f=>v b o (J b o f))
  .simp only[Xw,Xn]at a;rcases a with a|a|a
   .exactλb o f=>v b o (l s (by simp_all) b o f)
   .obtain⟨p,j,rfl⟩:=Xz.1 a
    exactλb o f=>l3 b o (k p j b o f)
   .exactλb o f=>v b o (l s (by simp_all) b o f)
def Nu.part(n:Nu)(lo hi:Nat):Nu:=⟨n.blk,if n.cap=lo then n.off else n.off+lo*n.esz,hi-lo,n.cap-lo,n.esz⟩
theorem SM{n:Nu}{lo hi:Nat}:(n.part lo hi).hdr=n.vhdr lo hi:=by
 unfold Nu.hdr Nu.vhdr Nu.part;cases n.blk<;>rfl
theorem Sa{e:Ty}{nu:Nu}{xs:List e.den}{S:CS}{lo hi:Nat}(h:aF w (WF G w e) e.size nu xs S)(h1:lo<=hi)(h2:hi<=nu.len):aF w (WF G w e) e.size (nu.part lo hi) ((xs.take hi).drop lo) S:=by
 obtain⟨Z,l,m⟩:=h;refine⟨by simp[Nu.part];omega,l,?_⟩;show match nu.blk with|none=>_|some b=>_
 cases hb:nu.blk with
 |none=>simp_all
 |some b=>
  simp only[hb]at m;obtain⟨g4,g5,B,y,O,C,n,D,R⟩:=m;obtain⟨u,X,N,p2,H,I,J,k4⟩:=DU xs y O hi C;obtain⟨Y,z,q1,P,K,L,M,t⟩:=DU (xs.take hi) u N lo J;have r:=jJ (λx c q F=>WN e x c q F) _ _ _ M;rw[di,di,fV (by omega)]at r;have W:(nu.cap-lo)*e.size+lo*e.size=nu.cap*e.size:=by rw[←lC];grind
  have V:((xs.take hi).drop lo).length=hi-lo:=by simp;omega
  by_cases p:nu.cap=lo
  .have h0:(xs.take hi).drop lo= []:=Xv (by omega);have A:nu.cap-lo=0:=by omega
   simp only[Nu.part,Wb p,A,Nat.zero_mul,eL];rw[h0]at t⊢;refine⟨iw _,iw _,?_,[],[],⟨rfl,rfl⟩,λj v E=>by simp at E,bq.2 ⟨by simp,List.Pairwise.nil⟩,λs a=>?_⟩
   .obtain⟨U,T,d,f⟩:=B;exact⟨U,T,d,by omega⟩
   .simp at a;subst a
    exactλb o ⟨_,d,f⟩=>Wi f (by omega)
  .simp only[Nu.part,Wa p,l];have k:CS.le (rng b (nu.off+lo*e.size) ((nu.cap-lo)*e.size)) (rng b nu.off (nu.cap*e.size)):=λg o ⟨Q,d,f⟩=>⟨Q,by omega,by omega⟩;refine⟨by omega,by omega,?_,z,P,t,?_,?_,λs a=>?_⟩
   .grind
   .rw[H,K,List.append_assoc]at n;exact(n.right r).left
   .obtain⟨d,f⟩:=bq.1 D;rw[I,L,Xw,Xw]at d f;refine bq.2 ⟨λs a=>(d s (Xm _ (Xh _ a))).mono k (λ_ _ i=>i),?_⟩
    grind
   .rcases Xs.1 a with rfl|a
    .exactλg o i=>R _ (Xg ..) g o (k g o i)
    simp_all
theorem WuX{e:Ty}{nu:Nu}{xs:List e.den}{S:CS}{lo hi:Nat}(h:aF w (WF G w e) e.size nu xs S)(a:lo<=hi)(b:hi<=nu.len):aF w (WF G w e) e.size (nu.part lo hi) (List.drop lo (List.take hi xs)) S:=Sa h a b
theorem WrS(C:GLe G G'){e:Ty}{nu m:Nu}{xs:List e.den}{i:Nat}{S S1:CS}(h:mW w (WF G w e) e.size nu m xs i S){d:e.ro.den}{vs:List Value}(B:Enc G' e.ro d vs)
  {b:Nat} (T:m.blk=some b) (D:Mem w b m.off vs) (E:CS.le (rng b m.off e.size) S1) (o:Froz G' w S) (J:Froz G' w S1):oF G' (Enc G' e.ro) ((fi e xs).set i d) nu.hdr:=by
 obtain⟨O,h2,h3,Z,P,l,Q,h7,R,h9,c1,c2,V,W,y,z,K,L,g5,r⟩:=h;rw[T]at l;injection l with l;subst l;have H:=jJ (λx c q f=>WN e x c q f) _ _ _ y;have U:=jJ (λx c q f=>WN e x c q f) _ _ _ z;rw[di,fV (by omega)]at H;rw[Fa]at U;have I:=dF _ _ _ B;rw[jE]at I;have e1:(i+1)*e.size=i*e.size+e.size:=gz i e.size;rw[Q]at D E;have M:=r _ (Xg ..);have N:=r _ (Xf _ (Xg ..));have A:∀p∈V++W,Froz G' w p.fp:=λp k=>o.mono (r _ (Xf _ (Xf _ (fU k))));have jo:(xs.length-(i+1))*e.size<=(nu.cap-(i+1))*e.size:=iv _ (by omega);have t:=Hm (λx c p k f=>wd C e x c p k f) _ _ _ (λq s=>A q (Xm _ s)) y;have u:=Hm (λx c p k f=>wd C e x c p k f) _ _ _ (λq s=>A q (Xh _ s)) z;rw[WrF]at t;rw[Wrw]at u;have F:(fi e xs).length=xs.length:=GB e xs;have g:(fi e xs).set i d=(fi e xs).take i++(d::(fi e xs).drop (i+1)):=by
  rw[VZ,Wb (by omega)]
 unfold Nu.hdr;simp only[P];refine .inr (.inl ⟨b,nu.off,nu.cap,c1++(vs++c2),by rw[List.length_set,F,O],by grind,R,?_,λj v a=>?_⟩)
 .rw[g];exact F7 _ _ _ _ t ⟨vs,c2,rfl,B,u⟩
 .have s1:ox G' b nu.off c1:=K.stored (n:=i*e.size) (by omega) (o.mono M);have X:ox G' b (nu.off+i*e.size) vs:=D.stored (n:=e.size) (by omega) (J.mono E);have Y:ox G' b (nu.off+(i+1)*e.size) c2:=L.stored (n:=(nu.cap-(i+1))*e.size) (by omega) (o.mono N);rw[hG]at a;split at a
  .exact s1 j v a
  .rename_i fK;rw[hG]at a;split at a
   .have:=X _ v a
    grind
   .have:=Y _ v a
    grind
theorem Wro{α:Type}{R:α->List Value->Prop}{n:Nat}(i:∀x c,R x c->c.length=n){nu:Nu}{xs:List α}(h:oF G R xs nu.hdr)(z:xs.length=nu.len)(u:nu.esz=n){lo hi:Nat}(I:lo<=hi)(J:hi<=nu.len)(t:nu.blk=none->hi=0)(w:nu.blk≠none->nu.len<=nu.cap/\nu.cap<=maxLen):
  oF G R ((xs.take hi).drop lo) (nu.vhdr lo hi):=by
 unfold Nu.hdr at h;unfold Nu.vhdr;cases hb:nu.blk with
 |none=>
  have:=t hb;refine .inl ⟨rfl,Xv (by simp;omega)⟩
 |some b=>
  obtain⟨K,E⟩:=w (by grind);simp only[hb]at h;have k:((xs.take hi).drop lo).length=hi-lo:=by simp;omega
  by_cases s:hi-lo=0
  .refine .inr (.inr ⟨_,nu.cap-lo,by rw[s],Xv (by omega)⟩)
  .rcases h with⟨e,_⟩|⟨A,y,d,l,e,F,H,q,r⟩|⟨a,d,e,B⟩
   .cases e
   .injection e with f C m;injection f with f;injection f with o p D;subst o p m;rw[Wa (by omega)];refine .inr (.inl ⟨b,nu.off+lo*nu.esz,nu.cap-lo,(l.take (hi*n)).drop (lo*n),by rw[k],by omega,by omega,DZ i _ _ lo (D1 i _ _ hi q),λj v g=>?_⟩);rw[mn,mu]at g;split at g
    .rw[eK,u];exact r _ _ g
    grind
   simp_all
def Leaf(ν:Nat->Nu)(t:Ty)(cs:List Cell)(c:List Pc):Prop:=∀(a k r:Nat),jD t a=some k->cs[k]?=some (.own r)->∃b,c[a]?=some b/\b.nu=ν r
theorem Gj:∀(t:Ty) (c k:Nat),jD t c=some k->c<t.owns/\k<t.size
 | .own _,c,k,h=>by
  cases c with
  |zero=>simp[jD]at h;subst h;exact⟨Nat.one_pos,Nat.one_pos⟩
  |succ n=>simp[jD]at h
 | .prod a b,c,k,h=>by
  simp only[jD]at h;split at h
  .obtain⟨d,e⟩:=Gj a c k h;exact⟨by show _<a.owns+b.owns;omega,by show _<a.size+b.size;omega⟩
  .obtain⟨j,f,rfl⟩:=dw.1 h;obtain⟨d,e⟩:=Gj b _ j f;exact⟨by show _<a.owns+b.owns;omega,by show _<a.size+b.size;omega⟩
 | .int _,_,_,h=>by simp[jD]at h
 | .bool,_,_,h=>by simp[jD]at h
 | .str,_,_,h=>by simp[jD]at h
 | .slice _,_,_,h=>by simp[jD]at h
theorem Leaf.none{ν:Nat->Nu}{t:Ty}{cs:List Cell}{ns:List Pc}(h:t.owns=0):Leaf ν t cs ns:=λb k r a c=>by
 have:=(Gj t b k a).1;omega
theorem VK{ν:Nat->Nu}{e:Ty}{c:Cell}{ns:List Pc}(a:∀r,c≠ .own r):Leaf ν (.own e) [c] ns:=λf k r b d=>by
 grind
theorem iz(h:HR w0 F G ν φ objs nx w)(D:GLe G G'):∀(t:Ty) (cs:List Cell) (vs:List Value) (d:t.den) (m l:List Nat),CellsRel G ν nx cs vs->Lent G' w φ objs l->m.Nodup->
  aY t cs objs=some (d,m,l)->∃T,WF G' w t d vs T/\Sep (T.map Pc.fp)/\(∀p∈T,CS.le p.fp (FromL φ objs m))/\(∀i∈m,Live objs i)/\(∀i∈l,Live objs i)/\Leaf ν t cs T
 | .prod a b,cs,vs,d,m,l,u,H,P,f=>by
  simp only[aY]at f;split at f
  .rename_i x m1 l1 y m2 l2 Q R;simp only[Option.some.injEq,Prod.mk.injEq]at f;obtain⟨rfl,rfl,rfl⟩:=f;obtain⟨n1,n2,n3⟩:=List.nodup_append.1 P;obtain⟨q1,U,s1,h4,h5,h5',f1⟩:=iz h D a _ (vs.take a.size) x m1 l1 (u.take _) (H.mono (by simp_all)) n1 Q;obtain⟨q2,h6,s2,h7,h8,h8',f2⟩:=iz h D b _ (vs.drop a.size) y m2 l2 (u.drop _) (H.mono (by simp_all)) n2 R;refine⟨q1++q2,⟨_,_,q1,q2,(List.take_append_drop a.size vs).symm,rfl,U,h6⟩,?_,?_,?_,?_,?_⟩
   .rw[Xw];refine Nq s1 s2 (A:=FromL φ objs m1) (B:=FromL φ objs m2) (λs hs=>?_) (λs hs=>?_) (FromL.disj h (λi E X=>n3 i E i X rfl))
    .grind
    grind
   .intro p O b o L;rcases Xn.1 O with O|O
    .exact FromL.mono (λi E=>Xm _ E) b o (h4 p O b o L)
    .exact FromL.mono (λi E=>Xh _ E) b o (h7 p O b o L)
   .grind
   .grind
   .intro lf k r k1 k2;have hq:=iQ _ _ _ _ U;simp only[jD]at k1;split at k1
    .rename_i ab;obtain⟨_,hk⟩:=Gj a lf k k1;obtain⟨pc,k3,k4⟩:=f1 lf k r k1 (by simp_all)
     grind
    .obtain⟨j,X,rfl⟩:=dw.1 k1;obtain⟨pc,k3,k4⟩:=f2 _ j r X (by simp_all)
     grind
  grind
 | .own e,cs,vs,d,m,l,u,H,P,f=>by
  simp only[aY]at f;split at f
  .rename_i id;obtain⟨v,rfl,⟨_,q⟩,_⟩:=u.single;subst q;have oT:∀{S:CS},Leaf ν (.own e) [.own id] [⟨ν id,S⟩]:=λ{S} lf k r k1 k2=>by
    cases lf with
    |zero=>
     simp[jD]at k1;simp_all
    |succ n=>simp[jD]at k1
   obtain⟨⟨ys,m'⟩,g,f⟩:=dw.1 f;simp only[Prod.mk.injEq]at f;obtain⟨rfl,rfl,rfl⟩:=f;unfold HQ at g;split at g
   .rename_i e' xs z;obtain⟨Z,J,g⟩:=dw.1 g;have g:=Prod.mk.inj g;obtain⟨rfl,rfl⟩:=g;obtain⟨K,C⟩:=kQ J;subst K;simp only at C;subst C;have N:Live objs id:=⟨_,z,by simp⟩;have I:aF w (WF G w e') e'.size (ν id) xs (φ id):=h.ob _ _ z;refine⟨[⟨ν id,φ id⟩],⟨_,rfl,rfl,v6 D (Same.refl _ w) (λ_ _ L=>L) I⟩,tN _ _,?_,?_,by simp,oT⟩
    .simp_all [FromL.one]
    simp_all
   .rename_i e' xs i p z;split at g
    .rename_i Z db J Y;split at g
     .rename_i d' m'' sP;simp only[Option.some.injEq,Prod.mk.injEq]at g;obtain⟨rfl,rfl⟩:=g;obtain⟨K,C⟩:=kQ J;subst K;simp only at C;subst C;obtain⟨n1,n2⟩:=cC.1 P;obtain⟨n3,n4⟩:=cC.1 n2;have N:Live objs id:=⟨_,z,by simp⟩;have jr:Live objs p:=⟨_,Y,by simp⟩;obtain⟨oR,M⟩:p<nx/\mW w (WF G w e') e'.size (ν id) (ν p) xs i (φ id):=h.ob _ _ z;obtain⟨b,us,hb,af,aG,V,W⟩:fc G ν nx w p (φ p) (.box db):=h.ob _ _ Y;obtain⟨T,t1,t2,t3,t4,_,_⟩:=iz h D e' db us d' m'' [] V (λi E=>by simp at E) n4 sP;have eA:=WN _ _ _ _ t1;have sS:=QI D (Same.refl _ w) (λ_ _ L=>L) M;rw[←V.1,eA]at W;have aH:id≠p:=λe=>n1 (by simp_all);refine⟨[⟨ν id,FromL φ objs (id::p::m'')⟩],⟨_,rfl,rfl,Wwi sS t1 hb aG W t2 t3 ?_ ?_ ?_ ?_ ?_ ?_⟩,tN _ _,?_,?_,by simp,oT⟩
      .exactλb o Q R=>aH (h.inj id p b o N jr Q R)
      .exactλb o Q ⟨j,X,R,U⟩=>by
        have:=h.inj id j b o N R Q U;simp_all
      .exactλb o Q ⟨j,X,R,U⟩=>by
        have:=h.inj p j b o jr R Q U;simp_all
      .simp_all [FromL.one]
      .simp_all [FromL.one]
      .grind [FromL.mono,Xf]
      .intro p O;simp at O;subst O;exactλ_ _ L=>L
      simp_all
     grind
    grind
   grind
  .rename_i id lo E;obtain⟨v,rfl,⟨_,g1,g2,g3,q⟩,_⟩:=u.single;subst q;split at f
   .rename_i e' xs z;obtain⟨Z,J,f⟩:=dw.1 f;have f:=And.intro (Prod.mk.inj f).1 (Prod.mk.inj (Prod.mk.inj f).2);obtain⟨rfl,rfl,rfl⟩:=f;obtain⟨K,C⟩:=kQ J;subst K;simp only at C;subst C;have N:Live objs id:=⟨_,z,by simp⟩;have I:aF w (WF G w e') e'.size (ν id) xs (φ id):=h.ob _ _ z;refine⟨[⟨(ν id).part lo E,φ id⟩],⟨_,rfl,by rw[SM],WuX (v6 D (Same.refl _ w) (λ_ _ L=>L) I) g1 g2⟩,tN _ _,?_,?_,by simp,VK (by simp_all)⟩
    .simp_all [FromL.one]
    simp_all
   grind
  .simp only[Option.some.injEq,Prod.mk.injEq]at f;obtain⟨rfl,rfl,rfl⟩:=f;obtain⟨v,rfl,q,_⟩:=u.single;simp only[CellRel]at q;subst q;exact⟨[⟨⟨none,0,0,0,e.size⟩,λ_ _=>False⟩],⟨_,rfl,rfl,rfl,rfl,rfl⟩,tN _ _,λp O b o L=>by simp_all,by simp,by simp,VK (by simp_all)⟩
  grind
 | .slice e,cs,vs,d,m,l,u,H,P,f=>by
  simp only[aY]at f;split at f
  .rename_i id;obtain⟨v,rfl,⟨_,q⟩,_⟩:=u.single;subst q;obtain⟨⟨ys,l'⟩,g,f⟩:=dw.1 f;simp only[Prod.mk.injEq]at f;obtain⟨rfl,rfl,rfl⟩:=f;unfold Vg at g;split at g
   .rename_i e' xs z;obtain⟨Z,J,g⟩:=dw.1 g;have g:=Prod.mk.inj g;obtain⟨rfl,rfl⟩:=g;obtain⟨K,C⟩:=kQ J;subst K;simp only at C;subst C;have N:Live objs id:=⟨_,z,by simp⟩;have I:aF w (WF G w e') e'.size (ν id) xs (φ id):=h.ob _ _ z;refine⟨[],⟨rfl,_,rfl,Mc D (H id (by simp) N) I⟩,List.Pairwise.nil,by simp,by simp,?_,Leaf.none rfl⟩;simp_all
   .rename_i e' xs i p z;split at g
    .rename_i Z db J Y;split at g
     .rename_i d' l'' sP;simp only[Option.some.injEq,Prod.mk.injEq]at g;obtain⟨rfl,rfl⟩:=g;obtain⟨K,C⟩:=kQ J;subst K;simp only at C;subst C;have N:Live objs id:=⟨_,z,by simp⟩;have jr:Live objs p:=⟨_,Y,by simp⟩;obtain⟨oR,M⟩:p<nx/\mW w (WF G w e') e'.size (ν id) (ν p) xs i (φ id):=h.ob _ _ z;obtain⟨b,us,hb,af,aG,V,W⟩:fc G ν nx w p (φ p) (.box db):=h.ob _ _ Y;obtain⟨T,t1,t2,t3,t4,t5,_⟩:=iz h D e'.ro db us d' [] l'' V (H.mono (λi E=>Xf _ (Xf _ E))) qE sP;obtain⟨t6,_⟩:=(oe e'.ro d' us T (M1 e')).1 t1;have eA:=dF _ _ _ t6;rw[jE]at eA;rw[←V.1,eA]at W;refine⟨[],⟨rfl,_,rfl,WrS D M t6 hb aG W (H id (by simp) N) (H p (by simp) jr)⟩,List.Pairwise.nil,by simp,by simp,?_,Leaf.none rfl⟩;simp_all
     grind
    grind
   grind
  .rename_i id lo E;obtain⟨v,rfl,⟨_,g1,g2,g3,q⟩,_⟩:=u.single;subst q;split at f
   .rename_i e' xs z;obtain⟨Z,J,f⟩:=dw.1 f;have f:=And.intro (Prod.mk.inj f).1 (Prod.mk.inj (Prod.mk.inj f).2);obtain⟨rfl,rfl,rfl⟩:=f;obtain⟨K,C⟩:=kQ J;subst K;simp only at C;subst C;have N:Live objs id:=⟨_,z,by simp⟩;have I:aF w (WF G w e') e'.size (ν id) xs (φ id):=h.ob _ _ z;have iZ:=Mc D (H id (by simp) N) I;refine⟨[],⟨rfl,_,rfl,?_⟩,List.Pairwise.nil,by simp,by simp,?_,Leaf.none rfl⟩
    .refine Wro (n:=e'.size) (λx c u=>by grind [jE,dF]) iZ (by rw[GB];exact I.1) I.2.1 g1 g2 g3 (λhb=>?_);cases wc:(ν id).blk with
     |none=>simp_all
     |some b=>
      have:=I.2.2;simp only[wc]at this;exact⟨by rw[←I.1];omega,this.2.1⟩
    simp_all
   grind
  .simp only[Option.some.injEq,Prod.mk.injEq]at f;obtain⟨rfl,rfl,rfl⟩:=f;obtain⟨v,rfl,q,_⟩:=u.single;simp only[CellRel]at q;subst q;exact⟨[],⟨rfl,_,rfl,.inl ⟨rfl,rfl⟩⟩,List.Pairwise.nil,by simp,by simp,by simp,Leaf.none rfl⟩
  .rename_i c _ _ _;cases fN:oG (.slice e) c with
   |none=>simp_all
   |some x=>
    simp only[fN,mz,Option.some.injEq,Prod.mk.injEq]at f;obtain⟨rfl,rfl,rfl⟩:=f;obtain⟨v,rfl,q,_⟩:=u.single;exact⟨[],⟨rfl,Gw D q fN⟩,List.Pairwise.nil,by simp,by simp,by simp,Leaf.none rfl⟩
  grind
 | .int k,cs,vs,d,m,l,u,H,P,f=>by
  simp only[aY]at f;split at f
  .rename_i c;cases fN:oG (.int k) c with
   |none=>simp_all
   |some x=>
    simp only[fN,mz,Option.some.injEq,Prod.mk.injEq]at f;obtain⟨rfl,rfl,rfl⟩:=f;obtain⟨v,rfl,q,_⟩:=u.single;exact⟨[],⟨rfl,Gw D q fN⟩,List.Pairwise.nil,by simp,by simp,by simp,Leaf.none rfl⟩
  grind
 | .bool,cs,vs,d,m,l,u,H,P,f=>by
  simp only[aY]at f;split at f
  .rename_i c;cases fN:oG .bool c with
   |none=>simp_all
   |some x=>
    simp only[fN,mz,Option.some.injEq,Prod.mk.injEq]at f;obtain⟨rfl,rfl,rfl⟩:=f;obtain⟨v,rfl,q,_⟩:=u.single;exact⟨[],⟨rfl,Gw D q fN⟩,List.Pairwise.nil,by simp,by simp,by simp,Leaf.none rfl⟩
  grind
 | .str,cs,vs,d,m,l,u,H,P,f=>by
  simp only[aY]at f;split at f
  .rename_i c;cases fN:oG .str c with
   |none=>simp_all
   |some x=>
    simp only[fN,mz,Option.some.injEq,Prod.mk.injEq]at f;obtain⟨rfl,rfl,rfl⟩:=f;obtain⟨v,rfl,q,_⟩:=u.single;exact⟨[],⟨rfl,Gw D q fN⟩,List.Pairwise.nil,by simp,by simp,by simp,Leaf.none rfl⟩
  grind
theorem Ra(h:HRel w0 F G ν objs nx w){t:Ty}{cs:List Cell}{vs:List Value}{d:t.den}(b:CellsRel G ν nx cs vs)(g:t.data=true)(c:aY t cs objs=some (d,[],[])):Enc G t d vs:=by
 obtain⟨φ,h⟩:=h;obtain⟨j,f,_⟩:=iz (G':=G) h (λ_ _ _ e=>e) t cs vs d [] [] b (λi a=>by simp at a) qE c
 grind [oe]
end
section
variable{w0:World}{F:CS}{nt:Slots}{G0 G G':GH}{ν ν':Nat->Nu}{φ:Nat->CS}{objs objs':ad}{nx am:Nat}{st ai:St}{a:Act}{w w':World}{P:Program}{T:Tab}{Γ:Ctx}
theorem LA(i:Nat):∀(l:List Nat),ew i l=true↔i∈l
 | []=>by simp[ew]
 |j::l=>by
  simp only[ew,Bool.or_eq_true,LA i l,Xs];simp_all
open Classical in
noncomputable def lT(G:GH)(w:World)(S:CS):GH:=λb o=>if S b o then w.cell? ⟨b,o,none⟩else G b o
theorem TS{S:CS}{b o:Nat}(h:S b o):lT G w S b o=w.cell? ⟨b,o,none⟩:=by unfold lT;rw[Wb h]
theorem rH{S:CS}{b o:Nat}(h:¬S b o):lT G w S b o=G b o:=by unfold lT;rw[Wa h]
theorem L3(S:CS):Froz (lT G w S) w S:=λb o v a c=>by grind [TS]
theorem HR.addG_le(h:HR w0 F G ν φ objs nx w)(l:List Nat):GLe G (lT G w (FromL φ objs l)):=λb o v a=>by
 by_cases e:FromL φ objs l b o
 .obtain⟨i,_,c,d⟩:=e;rw[h.gf i b o c d]at a;cases a
 grind [rH]
theorem HR.addG_w(h:HR w0 F G ν φ objs nx w)(l:List Nat):∀b o v,lT G w (FromL φ objs l) b o=some v->w.cell? ⟨b,o,none⟩=some v:=λb o v a=>by
 by_cases c:FromL φ objs l b o
 .grind [TS]
 .rw[rH c]at a;exact h.g b o v a
theorem HRel.freezeL(h:HRel w0 F G ν objs nx w)(q:GExt w0.heap.size F G0 G)(l:List Nat):∃c,GLe G c/\HRel w0 F c ν (Sx.kill objs l) nx w/\GExt w0.heap.size F G0 c/\
  ∀p∈l,∀(e:Ty) (xs:List e.den),Wt objs p=some (.arr e xs)->oF c (Enc c e.ro) (fi e xs) (ν p).hdr:=by
 obtain⟨φ,h⟩:=h;have f:=h.addG_le l;refine⟨lT G w (FromL φ objs l),f,⟨φ,?_⟩,⟨λb o v d=>f b o v (q.le b o v d),λb o v d=>?_⟩,λp x e xs s=>?_⟩
 .exact{
   g:=h.addG_w l
   ob:=λj ob a=>by
    by_cases n:ob= .dead
    .subst n;trivial
    .obtain⟨a,r⟩:=D2 l j ob a n;exact DL f (Same.refl _ w) (λ_ _ y=>y) (λ_ _=>rfl) (Xl _) (h.lt j ⟨ob,a,n⟩) ob (h.ob j ob a)
   gf:=λj b o a t=>by
    obtain⟨a,r⟩:=AG a;rw[rH (λ⟨i,hi,k,m⟩=>r (by rw[h.inj j i b o a k t m];exact hi))];exact h.gf j b o a t
   inj:=λj z b o a u=>h.inj j z b o (AG a).1 (AG u).1
   own:=λj b o a=>h.own j b o (AG a).1
   lt:=λj a=>h.lt j (AG a).1
   bl:=λj b o a=>h.bl j b o (AG a).1
   le:=h.le}
 .by_cases hs:FromL φ objs l b o
  .obtain⟨i,_,k,m⟩:=hs;exact .inr (h.own i b o k m)
  .rw[rH hs]at d;exact q.new b o v d
 .exact Mc f ((L3 _).mono (FromL.one x ⟨_,s,by simp⟩)) (h.ob _ _ s)
structure Frz(w0:World)(F:CS)(nt:Slots)(G0 G:GH)(ν:Nat->Nu)(st:St)(l:List Nat)(a:Act)(w:World)(G1:GH):Prop where
 le:GLe G G1
 rel:Rel w0 F nt G0 G1 ν {env:=st.env,objs:=kill st.objs l,nx:=st.nx} a w
 sl:∀id∈l,∀(e:Ty) (xs:List e.den),Wt st.objs id=some (.arr e xs)->oF G1 (Enc G1 e.ro) (fi e xs) (ν id).hdr
theorem Rel.frz(h:Rel w0 F nt G0 G ν st a w)(l:List Nat):∃G1,Frz w0 F nt G0 G ν st l a w G1:=by
 obtain⟨G1,b,c,d,e⟩:=h.h.freezeL h.gx l;exact⟨G1,b,h.on b (λ_ _=>rfl) (Xl _) c d,e⟩
theorem Frz.cell{l:List Nat}{j:GH}(h:Frz w0 F nt G0 G ν st l a w j):∀(c:Cell) (v:Value),CellRel G ν st.nx c v->CellRel j ν st.nx (HF st.objs l c) v:=by
 have b:=λc v (g:CellRel G ν st.nx c v)=>CellRel.mono (G':=j) (ν':=ν) (am:=st.nx) h.le (λ_ _=>rfl) (Xl _) c v g;intro c v g;cases c with
 |own id=>
  simp only[HF];cases he:ew id l with
  |false=>simp_all
  |true=>
   simp only[We];have k:=(LA id l).1 he;split
   .rename_i e xs ho;obtain⟨_,m⟩:=g;rw[m];exact⟨_,rfl,h.sl id k e xs ho⟩
   .trivial
 |vw id lo hi=>exact b _ v g
 |val t d=>exact b _ v g
 |nils=>exact b _ v g
 |aptr id=>exact b _ v g
 |ptr id off=>exact b _ v g
 |eptr id i off=>exact b _ v g
 |rptr t d off=>exact b _ v g
 |clos f caps=>exact b _ v g
 |junk=>trivial
theorem Frz.val{l:List Nat}{b:GH}(h:Frz w0 F nt G0 G ν st l a w b):∀(x:AVal) (v:Value),AValRel G ν st.nx x v->AValRel b ν st.nx (sw st.objs l x) v
 | .s (.one c),v,hx=>⟨h.cell c v hx.1,hx.2⟩
 | .s (.agg cs),v,⟨n,m,k,e⟩=>by
  refine⟨n,m,by simp[k],λj c u f i=>?_⟩;rw[ff]at f;obtain⟨d,g,rfl⟩:=dw.1 f;exact⟨h.cell d u (e j d u g i).1,(e j d u g i).2⟩
 | .tup xs,v,hx=>AValRel.mono h.le (λ_ _=>rfl) (Xl _) (.tup xs) v hx
end
end Go.Sx
