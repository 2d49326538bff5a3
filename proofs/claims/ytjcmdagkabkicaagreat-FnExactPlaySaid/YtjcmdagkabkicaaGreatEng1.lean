/- The abstract machine, part 1: a reflective interpreter of the program's code over data, with its soundness over the model. -/
import Derived.WalkKit
import Derived.LoopN
import Derived.KernelRfl
import Derived.ProofKit
import Derived.OpenShut
import Derived.JoinedCond
open Nat renaming beq→Xav,blt→Xgh,succ_mul→Xbr,add_comm→Xcw,add_assoc→Xba,lt_of_lt_of_le→Xbh,mul_le_mul_right→Xax,min_eq_left→Xcd,add_zero→Xbe,eq_of_beq_eq_true→Xck,add_mul→Xcs,le_refl→Xm,zero_le→Xci,le_trans→Xak,le_succ→Xdc,lt_succ_self→Xbt
open List renaming length→Xb,getD→Xc,append→Xh,replicate→Xp,length_append→Xaa,length_cons→Xr,drop_drop→Xdq,take_length_add_append→Xez,drop_left→Xgi,getElem?_append→Xar,getElem?_take→Xbo,getElem?_drop→Xbn,mem_append_left→Xn,mem_append_right→Xg,set_eq_take_append_cons_drop→Xeg,getElem?_eq_some_iff→Xab,mem_cons_of_mem→Xf,mem_map_of_mem→Xam,mem_cons_self→Xj,mem_singleton→Xag,length_take→Xbj,length_drop→Xdw,pairwise_cons→Xy,getElem?_eq_getElem→Xq,mapM_cons→Xey,map_cons→Xaf,getElem?_map→Xaj,eq_nil_of_length_eq_zero→Xx,length_map→Xu,map_nil→Xcg,map_toArray→Xdv,mem_map→Xw,mem_cons→Xs,pairwise_append→Xah,mem_append→Xo,map_append→Xz,pairwise_singleton→Xbm,nodup_cons→Xac,nodup_nil→Xdd
open Bool renaming and_eq_true→Xi
open Option renaming map_some→Xbx,map_eq_some_iff→Xt
open Array renaming getElem?_setIfInBounds_ne→Xem,length_toList→Xaq
namespace Go.Sx
abbrev Wc:=@if_neg
abbrev Wf:=@if_pos
abbrev We:=@decide_eq_true
abbrev Wk:=@decide_eq_false
abbrev Wi:=@decide_eq_true_eq
abbrev Ws:=@decide_eq_false_iff_not
abbrev WaT:=@of_decide_eq_true
abbrev WD:=@absurd
abbrev Wm:=@congrArg
abbrev W8:=@if_true
abbrev Wat:=@if_false
theorem Wb{A:Type}(a b:A):cond true a b=a:=rfl
theorem Wa{A:Type}(a b:A):cond false a b=b:=rfl
inductive Ty where
 |int (k:IntKind)|bool|str|slice (e:Ty)|own (e:Ty)|prod (a b:Ty)
 deriving DecidableEq
def Ty.den:Ty->Type
 | .int _=>Int
 | .bool=>Bool
 | .str=>List UInt8
 | .slice e=>List e.den
 | .own e=>List e.den
 | .prod a b=>a.den×b.den
def Ty.size:Ty->Nat
 | .prod a b=>a.size+b.size
 |_=>1
def Ty.dflt:(t:Ty)->t.den
 | .int _=>(0:Int)
 | .bool=>false
 | .str=>([]:List UInt8)
 | .slice e=>([]:List e.den)
 | .own e=>([]:List e.den)
 | .prod a b=>(a.dflt,b.dflt)
def Ty.noRo:Ty->Bool
 | .slice _=>false
 | .own e=>e.noRo
 | .prod a b=>a.noRo&&b.noRo
 |_=>true
def Ty.ro:Ty->Ty
 | .own e=>.slice e.ro
 | .slice e=>.slice e
 | .prod a b=>.prod a.ro b.ro
 | .int k=>.int k
 | .bool=>.bool
 | .str=>.str
theorem Weu:∀t:Ty,t.ro.den=t.den
 | .own e=>Wm List (Weu e)
 | .slice _=>rfl
 | .prod a b=>by show(a.ro.den×b.ro.den)=(a.den×b.den);rw[Weu a,Weu b]
 | .int _| .bool| .str=>rfl
def WuX(t:Ty)(d:t.den):t.ro.den:=cast (Weu t).symm d
def WcL(t:Ty)(l:List t.den):List t.ro.den:=cast (Wm List (Weu t).symm) l
def Wn5(t t':Ty)(d:t.den):Option t'.den:=
 if h:t=t' then some (h▸d)else none
def WgO(e e':Ty)(l:List e.den):Option (List e'.den):=
 if h:e=e' then some (h▸l)else none
inductive Cell where
 |val (t:Ty) (d:t.den)
 |nils
 |own (id:Nat)
 |vw (id lo hi:Nat)
 |aptr (id:Nat)
 |ptr (id off:Nat)
 |eptr (id i off:Nat)
 |rptr (t:Ty) (d:t.den) (off:Nat)
 |clos (f:FuncId) (caps:List Nat)
 |junk
inductive AV where
 |one (c:Cell)
 |agg (cs:List Cell)
inductive AVal where
 |s (x:AV)
 |tup (xs:List AV)
inductive Ob where
 |box (cs:List Cell)
 |arr (e:Ty) (xs:List e.den)
 |hole (e:Ty) (xs:List e.den) (i p:Nat)
 |dead
abbrev Wab:=List (Nat×Ob)
structure St where
 env:List (Nat×AVal)
 objs:Wab
 nx:Nat
universe u
def Wn{α:Type u}:List (Nat×α)->Nat->Option α
 | [],_=>none
 |(k,v)::l,i=>match Xav k i with|true=>some v|false=>Wn l i
abbrev GH:=Nat->Nat->Option Value
abbrev CS:=Nat->Nat->Prop
def CS.disj(A B:CS):Prop:=∀b o,A b o->B b o->False
def CS.le(A B:CS):Prop:=∀b o,A b o->B b o
def rng(b lo n:Nat):CS:=λb' o=>b'=b/\lo<=o/\o<lo+n
def Sep(l:List CS):Prop:=l.Pairwise CS.disj
structure Nu where
 blk:Option Nat
 off:Nat
 len:Nat
 cap:Nat
 esz:Nat
def Nu.hdr(n:Nu):Value:=match n.blk with
 |none=>.slice none 0 0
 |some b=>.slice (some ⟨b,n.off,none⟩) n.len n.cap
def Nu.vhdr(n:Nu)(lo hi:Nat):Value:=match n.blk with
 |none=>.slice none 0 0
 |some b=>.slice (some ⟨b,if n.cap=lo then n.off else n.off+lo*n.esz,none⟩) (hi-lo) (n.cap-lo)
structure Pc where
 nu:Nu
 fp:CS
def WfF(G:GH)(b off:Nat)(cs:List Value):Prop:=∀(j:Nat) (v:Value),cs[j]?=some v->G b (off+j)=some v
def Wef{α:Type}(R:α->List Value->Prop):List α->List Value->Prop
 | [],cs=>cs= []
 |x::l,cs=>∃c1 c2,cs=c1++c2/\R x c1/\Wef R l c2
def WjN{α:Type}(G:GH)(R:α->List Value->Prop)(l:List α)(v:Value):Prop:=
 (v= .slice none 0 0/\l= [])\/
 (∃b off cap cs,v= .slice (some ⟨b,off,none⟩) l.length cap/\l.length<=cap/\cap<=maxLen/\Wef R l cs/\WfF G b off cs)\/
 ∃a cap,v= .slice (some a) 0 cap/\l= []
def Enc(G:GH):(t:Ty)->t.den->List Value->Prop
 | .int k,n,cs=>cs= [.int k n]
 | .bool,b,cs=>cs= [.bool b]
 | .str,s,cs=>cs= [.string ⟨List.toArray s⟩]
 | .slice e,l,cs=>∃v,cs= [v]/\WjN G (Enc G e) l v
 | .own _,_,_=>False
 | .prod a b,d,cs=>∃c1 c2,cs=c1++c2/\Enc G a d.1 c1/\Enc G b d.2 c2
def CellRel(G:GH)(ν:Nat->Nu)(nx:Nat):Cell->Value->Prop
 | .val t d,v=>Enc G t d [v]
 | .nils,v=>v= .slice none 0 0
 | .own id,v=>id<nx/\v=(ν id).hdr
 | .vw id lo hi,v=>id<nx/\lo<=hi/\hi<=(ν id).len/\((ν id).blk=none->hi=0)/\v=(ν id).vhdr lo hi
 | .aptr id,v=>id<nx/\∃b,(ν id).blk=some b/\v= .pointer (some ⟨b,(ν id).off,none⟩)
 | .ptr id off,v=>id<nx/\∃b,(ν id).blk=some b/\v= .pointer (some ⟨b,(ν id).off+off,none⟩)
 | .eptr id i off,v=>id<nx/\i<(ν id).len/\∃b,(ν id).blk=some b/\v= .pointer (some ⟨b,(ν id).off+(i*(ν id).esz+off),none⟩)
 | .rptr t d off,v=>∃b o cs,v= .pointer (some ⟨b,o+off,none⟩)/\Enc G t d cs/\WfF G b o cs
 | .clos f caps,v=>∃vs:List Value,v= .func (.func f) #[] vs.toArray/\vs.length=caps.length/\
   ∀(j id:Nat) (u:Value),caps[j]?=some id->vs[j]?=some u->id<nx/\u.oneCell'=true/\∃b,(ν id).blk=some b/\u= .pointer (some ⟨b,(ν id).off+0,none⟩)
 | .junk,_=>True
def CellsRel(G:GH)(ν:Nat->Nu)(nx:Nat)(cs:List Cell)(vs:List Value):Prop:=
 vs.length=cs.length/\∀(j:Nat) (c:Cell) (v:Value),cs[j]?=some c->vs[j]?=some v->CellRel G ν nx c v/\v.oneCell'=true
def AvRel(G:GH)(ν:Nat->Nu)(nx:Nat):AV->Value->Prop
 | .one c,v=>CellRel G ν nx c v/\v.oneCell'=true
 | .agg cs,v=>∃vs:List Value,v= .agg vs.toArray/\CellsRel G ν nx cs vs
def WsY(G:GH)(ν:Nat->Nu)(nx:Nat)(xs:List AV)(vs:List Value):Prop:=
 vs.length=xs.length/\∀(j:Nat) (x:AV) (v:Value),xs[j]?=some x->vs[j]?=some v->AvRel G ν nx x v
def AValRel(G:GH)(ν:Nat->Nu)(nx:Nat):AVal->Value->Prop
 | .s x,v=>AvRel G ν nx x v
 | .tup xs,v=>∃vs:List Value,v= .tuple vs.toArray/\WsY G ν nx xs vs
def Row(w:World)(b n:Nat):Prop:=∃vs T,w.heap[b]?=some (.cells vs T (0,0))/\n<=vs.size
def Mem(w:World)(b o:Nat)(vs:List Value):Prop:=∀(j:Nat) (v:Value),vs[j]?=some v->w.cell? ⟨b,o+j,none⟩=some v
def Wfh{α:Type}(R:α->List Value->List Pc->Prop):List α->List Value->List Pc->Prop
 | [],cs,ps=>cs= []/\ps= []
 |x::l,cs,ps=>∃c1 c2 p1 p2,cs=c1++c2/\ps=p1++p2/\R x c1 p1/\Wfh R l c2 p2
def WbN{α:Type}(w:World)(R:α->List Value->List Pc->Prop)(n:Nat)(nu:Nu)(xs:List α)(S:CS):Prop:=
 xs.length=nu.len/\nu.esz=n/\match nu.blk with
  |none=>xs= []
  |some b=>xs.length<=nu.cap/\nu.cap<=maxLen/\Row w b (nu.off+nu.cap*n)/\∃cs ps,Wfh R xs cs ps/\Mem w b nu.off cs/\
    Sep (rng b nu.off (nu.cap*n)::ps.map Pc.fp)/\∀s∈rng b nu.off (nu.cap*n)::ps.map Pc.fp,CS.le s S
def Wy(G:GH)(w:World):(t:Ty)->t.den->List Value->List Pc->Prop
 | .own e,xs,vs,ns=>∃p:Pc,ns= [p]/\vs= [p.nu.hdr]/\WbN w (Wy G w e) e.size p.nu xs p.fp
 | .prod a b,d,vs,ns=>∃v1 v2 n1 n2,vs=v1++v2/\ns=n1++n2/\Wy G w a d.1 v1 n1/\Wy G w b d.2 v2 n2
 | .int k,d,vs,ns=>ns= []/\Enc G (.int k) d vs
 | .bool,d,vs,ns=>ns= []/\Enc G .bool d vs
 | .str,d,vs,ns=>ns= []/\Enc G .str d vs
 | .slice e,d,vs,ns=>ns= []/\Enc G (.slice e) d vs
def Wh4{α:Type}(w:World)(R:α->List Value->List Pc->Prop)(n:Nat)(nu np:Nu)(xs:List α)(i:Nat)(S:CS):Prop:=
 xs.length=nu.len/\nu.esz=n/\i<xs.length/\∃b,nu.blk=some b/\np.blk=some b/\np.off=nu.off+i*n/\xs.length<=nu.cap/\nu.cap<=maxLen/\Row w b (nu.off+nu.cap*n)/\
  ∃c1 c2 p1 p2,Wfh R (xs.take i) c1 p1/\Wfh R (xs.drop (i+1)) c2 p2/\Mem w b nu.off c1/\Mem w b (nu.off+(i+1)*n) c2/\
   Sep (rng b nu.off (i*n)::rng b (nu.off+(i+1)*n) ((nu.cap-(i+1))*n)::(p1++p2).map Pc.fp)/\
   ∀s∈rng b nu.off (i*n)::rng b (nu.off+(i+1)*n) ((nu.cap-(i+1))*n)::(p1++p2).map Pc.fp,CS.le s S
def WcM(G:GH)(ν:Nat->Nu)(nx:Nat)(w:World)(id:Nat)(S:CS):Ob->Prop
 | .box cs=>∃b vs,(ν id).blk=some b/\Row w b ((ν id).off+cs.length)/\Mem w b (ν id).off vs/\CellsRel G ν nx cs vs/\CS.le (rng b (ν id).off cs.length) S
 | .arr e xs=>WbN w (Wy G w e) e.size (ν id) xs S
 | .hole e xs i p=>p<nx/\Wh4 w (Wy G w e) e.size (ν id) (ν p) xs i S
 | .dead=>True
def Live(objs:Wab)(id:Nat):Prop:=∃ob,Wn objs id=some ob/\ob≠ .dead
structure WLe(F:CS)(w w':World):Prop where
 size:w.heap.size<=w'.heap.size
 row:∀(b:Nat) (vs:Array Value) (T:TypeId),w.heap[b]?=some (Obj.cells vs T (0,0))->∃au:Array Value,w'.heap[b]?=some (Obj.cells au T (0,0))/\au.size=vs.size
 cell:∀(b o:Nat),b<w.heap.size->¬F b o->w'.cell? ⟨b,o,none⟩=w.cell? ⟨b,o,none⟩
 whole:∀(b:Nat),b<w.heap.size->(∀o,¬F b o)->w'.heap[b]?=w.heap[b]?
 os:w'.os=w.os
 output:w'.output=w.output
 tape:w'.tape=w.tape
structure HR(w0:World)(F:CS)(G:GH)(ν:Nat->Nu)(φ:Nat->CS)(objs:Wab)(nx:Nat)(w:World):Prop where
 g:∀b o v,G b o=some v->w.cell? ⟨b,o,none⟩=some v
 ob:∀id ob,Wn objs id=some ob->WcM G ν nx w id (φ id) ob
 gf:∀id b o,Live objs id->φ id b o->G b o=none
 inj:∀id cb b o,Live objs id->Live objs cb->φ id b o->φ cb b o->id=cb
 own:∀id b o,Live objs id->φ id b o->w0.heap.size<=b\/F b o
 lt:∀id,Live objs id->id<nx
 bl:∀id b o,Live objs id->φ id b o->b<w.heap.size
 le:WLe F w0 w
def HRel(w0:World)(F:CS)(G:GH)(ν:Nat->Nu)(objs:Wab)(nx:Nat)(w:World):Prop:=∃φ,HR w0 F G ν φ objs nx w
structure GExt(B:Nat)(F:CS)(G G':GH):Prop where
 le:∀b o v,G b o=some v->G' b o=some v
 new:∀b o v,G' b o=some v->G b o=some v\/B<=b\/F b o
structure Slots where
 n:Nat
 kept:List (Nat×Value)
 ex:AVal->Value->Prop
def Slots.Ok(s:Slots)(d:Nat):Prop:=d<s.n/\∀p∈s.kept,p.1≠d
structure Rel(w0:World)(F:CS)(nt:Slots)(G0:GH)(G:GH)(ν:Nat->Nu)(st:St)(a:Act)(w:World):Prop where
 defers:a.defers= []
 ntm:a.tmps.size=nt.n
 par:∀p∈nt.kept,a.tmps[p.1]?=some p.2
 env:∀i x,Wn st.env i=some x->∃v,a.tmps[i]?=some v/\AValRel G ν st.nx x v
 h:HRel w0 F G ν st.objs st.nx w
 gx:GExt w0.heap.size F G0 G
 ex:∀x v,nt.ex x v->AValRel G ν st.nx x v
end Go.Sx
namespace Go.Sx
set_option linter.unusedVariables false
inductive Shape where
 |basic|slice (e:TypeId)|struct (fs:List (Nat×TypeId))|ptr (e:TypeId)|arr (n:Nat) (e:TypeId)
structure TE where
 ty:Ty
 agg:Bool
 shape:Shape
abbrev Tab:=List (TypeId×TE)
def TE.plain(te:TE):Bool:=match te.shape with
 | .arr _ _=>false
 |_=>true
def Wh(k:IntKind)(a b:Int):Int:=k.wrap (a+b)
def WT(k:IntKind)(a b:Int):Int:=k.wrap (a-b)
def Wrz(k:IntKind)(a b:Int):Int:=k.wrap (a*b)
def WpH(k:IntKind)(a b:Int):Int:=k.wrap (a.tdiv b)
def Wdj(a b:Int):Int:=a.tmod b
def WxG(k:IntKind)(a b:Int):Int:=k.wrap (BitVec.ofInt k.bits a&&&BitVec.ofInt k.bits b).toNat
def ior(k:IntKind)(a b:Int):Int:=k.wrap (BitVec.ofInt k.bits a|||BitVec.ofInt k.bits b).toNat
def WxI(k:IntKind)(a b:Int):Int:=k.wrap (BitVec.ofInt k.bits a^^^BitVec.ofInt k.bits b).toNat
def Wxq(k:IntKind)(a b:Int):Int:=k.wrap (BitVec.ofInt k.bits a&&& ~~~BitVec.ofInt k.bits b).toNat
def Wxu(k:IntKind)(a b:Int):Int:=k.wrap (a*2^(min b.toNat k.bits))
def Wxo(k:IntKind)(a b:Int):Int:=a.fdiv (2^(min b.toNat k.bits))
def WxC(a b:List UInt8):Bool:=!decide (((a.length+b.length:Nat):Int)>IntKind.i64.max)
def Wg{α:Type}(l:List α):Int:=(l.length:Int)
def inb(i:Int)(n:Nat):Bool:=decide (0<=i)&&decide (i<(n:Int))
def Wz(n:Nat):Bool:=decide (n<=1073741824)
def Wtr(l:List Int):List UInt8:=l.map λn=>UInt8.ofNat n.toNat
def ieq(a b:Int):Bool:=a==b
def beq(a b:Bool):Bool:=a==b
def seq(a b:List UInt8):Bool:=a==b
def inz(b:Int):Bool:=!decide (b=0)
def inn(b:Int):Bool:=!decide (b<0)
def one(t:Ty)(d:t.den):AVal:=.s (.one (.val t d))
def Wxk(op:BinOp)(k:IntKind)(a b:Int):Option (Bool×AVal):=
 match op with
 | .add=>some (true,one (.int k) (Wh k a b))
 | .sub=>some (true,one (.int k) (WT k a b))
 | .mul=>some (true,one (.int k) (Wrz k a b))
 | .quo=>some (inz b,one (.int k) (WpH k a b))
 | .rem=>some (inz b,one (.int k) (Wdj a b))
 | .and=>some (true,one (.int k) (WxG k a b))
 | .or=>some (true,one (.int k) (ior k a b))
 | .xor=>some (true,one (.int k) (WxI k a b))
 | .andNot=>some (true,one (.int k) (Wxq k a b))
 | .eql=>some (true,one .bool (a==b))
 | .neq=>some (true,one .bool (a !=b))
 | .lss=>some (true,one .bool (decide (a<b)))
 | .leq=>some (true,one .bool (decide (a<=b)))
 | .gtr=>some (true,one .bool (decide (a>b)))
 | .geq=>some (true,one .bool (decide (a>=b)))
 |_=>none
def Wxp(op:BinOp)(a b:List UInt8):Option (Bool×AVal):=
 match op with
 | .add=>some (WxC a b,one .str (a++b))
 | .eql=>some (true,one .bool (seq a b))
 | .neq=>some (true,one .bool (!seq a b))
 |_=>none
def Wmv(te:TE)(c d:Cell):Option Bool:=
 match te,c,d with
 |⟨.int _,false,.basic⟩,.val (.int k) a,.val (.int k') b=>if k=k' then some (ieq a b)else none
 |⟨.bool,false,.basic⟩,.val .bool a,.val .bool b=>some (beq a b)
 |⟨.str,false,.basic⟩,.val .str a,.val .str b=>some (seq a b)
 |_,_,_=>none
def Wc9(T:Tab):List TypeId->List Cell->List Cell->Option Bool
 | [],[],[]=>some true
 |t::ts,c::cs,d::ds=>match Wn T t with
  |some te=>match Wmv te c d,Wc9 T ts cs ds with
   |some x,some y=>some (x&&y)
   |_,_=>none
  |none=>none
 |_,_,_=>none
def binOp(T:Tab)(op:BinOp)(t:TypeId)(x y:AVal):Option (Bool×AVal):=
 match x,y with
 | .s (.one (.val (.int k) a)),.s (.one (.val (.int k') b))=>
  match op with
  | .shl=>some (inn b,one (.int k) (Wxu k a b))
  | .shr=>some (inn b,one (.int k) (Wxo k a b))
  |_=>if k=k' then Wxk op k a b else none
 | .s (.one (.val .str a)),.s (.one (.val .str b))=>Wxp op a b
 | .s (.one (.val .bool a)),.s (.one (.val .bool b))=>
  match Wn T t with
  |some ⟨.bool,false,.basic⟩=>
   match op with
   | .eql=>some (true,one .bool (beq a b))
   | .neq=>some (true,one .bool (!beq a b))
   |_=>none
  |_=>none
 | .s (.agg cs),.s (.agg ds)=>
  match Wn T t with
  |some ⟨_,true,.struct fs⟩=>
   if decide (fs.map (·.1)=List.range fs.length)then
    match op,Wc9 T (fs.map (·.2)) cs ds with
    | .eql,some b=>some (true,one .bool b)
    | .neq,some b=>some (true,one .bool (!b))
    |_,_=>none
   else none
  |_=>none
 |_,_=>none
def unOp(op:UnOp)(x:AVal):Option (Bool×AVal):=
 match op,x with
 | .not,.s (.one (.val .bool b))=>some (true,one .bool (!b))
 | .neg,.s (.one (.val (.int k) n))=>some (true,one (.int k) (WT k 0 n))
 |_,_=>none
def split:(t:Ty)->t.den->List Cell
 | .prod a b,d=>split a d.1++split b d.2
 | .int k,d=>[.val (.int k) d]
 | .bool,d=>[.val .bool d]
 | .str,d=>[.val .str d]
 | .slice e,d=>[.val (.slice e) d]
 | .own e,d=>[.junk]
def Wan:Value->Option Cell
 | .int k n=>some (.val (.int k) n)
 | .bool b=>some (.val .bool b)
 | .string s=>some (.val .str s.data.toList)
 | .slice none 0 0=>some .nils
 | .pointer none=>some .junk
 | .nilFunc=>some .junk
 |_=>none
def Wsy:Value->Option AVal
 | .agg cs=>(cs.toList.mapM Wan).map λl=>.s (.agg l)
 |v=>(Wan v).map λc=>.s (.one c)
def ev(st:St):Operand->Option AVal
 | .tmp t=>Wn st.env t
 | .const v=>Wsy v
 | .func f=>some (.s (.one (.clos f [])))
 | .global _=>none
def St.put(st:St)(dst:Option Tmp)(x:AVal):St:=
 match dst with
 |some d=>{st with env:=(d,x)::st.env}
 |none=>st
def sub(agg:Bool)(cs:List Cell)(off n:Nat):Option AVal:=
 if agg then(if off+n<=cs.length then some (.s (.agg ((cs.drop off).take n)))else none)
 else(cs[off]?).map λc=>.s (.one c)
def WhN(T:Tab)(st:St)(t:TypeId)(x:AVal):Option AVal:=
 match Wn T t with
 |some te=>
  if te.plain then
   match x with
   | .s (.one (.ptr id off))=>match Wn st.objs id with
    |some (.box cs)=>sub te.agg cs off te.ty.size
    |_=>none
   | .s (.one (.eptr id i off))=>match Wn st.objs id with
    |some (.arr e xs)=>sub te.agg (split e (xs.getD i e.dflt)) off te.ty.size
    |_=>none
   | .s (.one (.rptr t' d off))=>sub te.agg (split t' d) off te.ty.size
   |_=>none
  else none
 |none=>none
def WuO(k:IntKind)(xs:List Int):Nat->Nat->List Cell
 |_,0=>[]
 |i,n+1=>.val (.int k) (xs.getD i (0:Int))::WuO k xs (i+1) n
def Wf8(T:Tab)(st:St)(t:TypeId)(x:AVal):Option (Bool×AVal):=
 match Wn T t with
 |some ⟨.int k,true,.arr n _⟩=>match x with
  | .s (.one (.aptr id))=>match Wn st.objs id with
   |some (.arr (.int k') xs)=>if k'=k then some (decide (Xb xs=n),.s (.agg (WuO k xs 0 n)))else none
   |_=>none
  |_=>none
 |_=>none
def WbK(k:IntKind):List Cell->Option (List Int)
 | []=>some []
 | .val (.int k') d::cs=>if k'=k then(WbK k cs).map λl=>(d:Int)::l else none
 |_=>none
def asI:AVal->Option Int
 | .s (.one (.val (.int _) n))=>some n
 |_=>none
def asB:AVal->Option Bool
 | .s (.one (.val .bool b))=>some b
 |_=>none
def obL(o:Option Ob):Option (Bool×AVal):=match o with
 |some (.arr _ xs)=>some (true,one (.int .i64) (Wg xs))
 |some (.hole _ xs _ _)=>some (true,one (.int .i64) (Wg xs))
 |_=>none
def Wka(T:Tab)(st:St)(t:TypeId)(x:AVal):Option (Bool×AVal):=
 match Wn T t,x with
 |some ⟨_,false,.slice _⟩,.s (.one (.val (.slice _) l))=>some (true,one (.int .i64) (Wg l))
 |some ⟨_,false,.slice _⟩,.s (.one .nils)=>some (true,one (.int .i64) (0:Int))
 |some ⟨_,false,.slice _⟩,.s (.one (.own id))=>obL (Wn st.objs id)
 |some ⟨_,false,.slice _⟩,.s (.one (.vw _ lo hi))=>some (true,one (.int .i64) ((hi-lo:Nat):Int))
 |some ⟨.str,false,.basic⟩,.s (.one (.val .str s))=>some (true,one (.int .i64) (Wg (α:=UInt8) s))
 |_,_=>none
def WgP(T:Tab)(t:TypeId)(f:Nat):Option (Nat×TE):=
 match Wn T t with
 |some ⟨_,_,.struct fs⟩=>match fs[f]? with
  |some (off,ft)=>match Wn T ft with
   |some te=>if te.plain then some (off,te)else none
   |none=>none
  |none=>none
 |_=>none
def Wcb(T:Tab)(st:St)(t:TypeId)(x:AVal)(f:Nat):Option (Bool×AVal):=
 match WgP T t f,x with
 |some (off,_),.s (.one (.ptr id o))=>match Wn st.objs id with
  |some (.box _)=>some (true,.s (.one (.ptr id (o+off))))
  |_=>none
 |some (off,_),.s (.one (.eptr id i o))=>match Wn st.objs id with
  |some (.arr _ _)=>some (true,.s (.one (.eptr id i (o+off))))
  |_=>none
 |some (off,_),.s (.one (.rptr t' d o))=>some (true,.s (.one (.rptr t' d (o+off))))
 |_,_=>none
def Wos(T:Tab)(t:TypeId)(x:AVal)(f:Nat):Option (Bool×AVal):=
 match WgP T t f,x with
 |some (off,te),.s (.agg cs)=>(sub te.agg cs off te.ty.size).map λv=>(true,v)
 |_,_=>none
def obI(te:TE)(n:Int)(id:Nat)(o:Option Ob):Option (Bool×AVal):=match o with
 |some (.arr e xs)=>if te.ty=e.ro then some (inb n xs.length,.s (.one (.eptr id n.toNat 0)))else none
 |some (.hole e xs i p)=>if te.ty=e.ro then some (inb n xs.length&&Xav n.toNat i,.s (.one (.ptr p 0)))else none
 |_=>none
def Ww1(te:TE)(n:Int)(id lo hi:Nat)(o:Option Ob):Option (Bool×AVal):=match o with
 |some (.arr e xs)=>if te.ty=e.ro then some (inb n (hi-lo),.s (.one (.eptr id (lo+n.toNat) 0)))else none
 |_=>none
def Wwo(te:TE)(n:Int)(k:Nat)(id:Nat)(o:Option Ob):Option (Bool×AVal):=match o with
 |some (.arr e xs)=>if te.ty=e then some (inb n k&&decide (xs.length=k),.s (.one (.eptr id n.toNat 0)))else none
 |_=>none
def Wb8(T:Tab)(st:St)(t:TypeId)(x i:AVal):Option (Bool×AVal):=
 match Wn T t,asI i with
 |some ⟨_,_,.slice et⟩,some n=>match Wn T et with
  |some te=>
   if te.plain then match x with
    | .s (.one (.val (.slice e) l))=>if te.ty=e then some (inb n (Xb l),.s (.one (.rptr e (Xc l n.toNat e.dflt) 0)))else none
    | .s (.one .nils)=>some (false,.s (.one .junk))
    | .s (.one (.own id))=>obI te n id (Wn st.objs id)
    | .s (.one (.vw id lo hi))=>Ww1 te n id lo hi (Wn st.objs id)
    |_=>none
   else none
  |none=>none
 |some ⟨_,_,.arr k et⟩,some n=>match Wn T et with
  |some te=>
   if te.plain then match x with
    | .s (.one (.aptr id))=>Wwo te n k id (Wn st.objs id)
    |_=>none
   else none
  |none=>none
 |_,_=>none
def Wor(T:Tab)(t:TypeId)(x i:AVal):Option (Bool×AVal):=
 match Wn T t,x,asI i with
 |some ⟨.str,_,.basic⟩,.s (.one (.val .str s)),some n=>some (inb n (Xb s),one (.int .u8) ((Xc s n.toNat 0).toNat:Int))
 |some ⟨.int k,_,.arr m et⟩,.s (.agg cs),some n=>match Wn T et with
  |some ⟨.int k',false,.basic⟩=>match WbK k cs with
   |some l=>if k'=k/\cs.length=m then some (inb n m,one (.int k) (Xc l n.toNat (0:Int)))else none
   |none=>none
  |_=>none
 |_,_,_=>none
def WcY(n:Nat)(lo hi:Option Int):Bool×Nat×Nat:=
 match lo,hi with
 |none,none=>(true,0,n)
 |some l,none=>(decide (0<=l)&&decide (l<=(n:Int)),l.toNat,n)
 |none,some h=>(decide (0<=h)&&decide (h<=(n:Int)),0,h.toNat)
 |some l,some h=>(decide (0<=h)&&decide (h<=(n:Int))&&decide (0<=l)&&decide (l<=h),l.toNat,h.toNat)
def Wu0{α:Type}(l:List α)(lo hi:Option Int):List α:=
 match lo,hi with
 |none,none=>l
 |some a,none=>l.drop a.toNat
 |none,some b=>l.take b.toNat
 |some a,some b=>(l.take b.toNat).drop a.toNat
def Wmy(st:St):Option Operand->Option (Option Int)
 |none=>some none
 |some x=>((ev st x).bind asI).map some
def Wmq(T:Tab)(st:St)(t:TypeId)(x:AVal)(lo hi:Option Operand):Option (Bool×AVal):=
 match Wn T t,x,Wmy st lo,Wmy st hi with
 |some ⟨.str,_,.basic⟩,.s (.one (.val .str s)),some l,some h=>some ((WcY (Xb s) l h).1,one .str (Wu0 s l h))
 |some ⟨_,_,.slice et⟩,.s (.one (.val (.slice e) xs)),some l,some h=>match Wn T et with
  |some te=>if te.ty=e/\te.plain then some ((WcY (Xb xs) l h).1,one (.slice e) (Wu0 xs l h))else none
  |none=>none
 |_,_,_,_=>none
def WtN(st:St):AVal->Option Ob
 | .s (.one (.own id))=>Wn st.objs id
 |_=>none
def WwO(T:Tab)(o:Option Ob)(src dst:TypeId)(x:AVal):Option (Bool×AVal):=
 match Wn T src,Wn T dst,x with
 |some ⟨.int _,false,.basic⟩,some ⟨.int k,false,.basic⟩,.s (.one (.val (.int _) n))=>some (true,one (.int k) (k.wrap n))
 |some ⟨.str,false,.basic⟩,some ⟨.str,false,.basic⟩,.s (.one (.val .str s))=>some (true,one .str s)
 |some ⟨_,_,.slice et⟩,some ⟨.str,false,.basic⟩,.s (.one c)=>
  match Wn T et with
  |some ⟨.int .u8,false,.basic⟩=>match c with
   | .val (.slice (.int .u8)) l=>some (true,one .str (Wtr l))
   | .nils=>some (true,one .str ([]:List UInt8))
   | .own _=>match o with
    |some (.arr (.int .u8) xs)=>some (true,one .str (Wtr xs))
    |_=>none
   |_=>none
  |_=>none
 |_,_,_=>none
def Wku(T:Tab)(st:St)(src dst:TypeId)(x:AVal):Option (Bool×AVal):=WwO T (WtN st x) src dst x
def Wrn(st:St)(x:AVal):Option (Bool×AVal):=
 match x with
 | .s (.one (.rptr _ _ _))=>some (true,x)
 | .s (.one (.ptr id _))=>match Wn st.objs id with
  |some (.box _)=>some (true,x)
  |_=>none
 | .s (.one (.eptr id _ _))| .s (.one (.aptr id))=>match Wn st.objs id with
  |some (.arr _ _)=>some (true,x)
  |_=>none
 |_=>none
def WgG(st:St):List Operand->Option (List Nat)
 | []=>some []
 |o::l=>match ev st o,WgG st l with
  |some (.s (.one (.ptr id 0))),some r=>some (id::r)
  |_,_=>none
def WxD(a b:Int):Int:=if b<a then b else a
def Wsi(a b:Int):Int:=if a<b then b else a
def WqN(T:Tab)(st:St)(op:BinOp)(t:TypeId)(a b:AVal):Option (Bool×AVal):=
 match a,b with
 | .s (.one (.own id)),.s (.one .nils)=>match Wn T t with
  |some ⟨_,false,.slice _⟩=>match Wn st.objs id with
   |some (.arr _ xs)=>match op with
    | .eql=>some (Xgh 0 xs.length,one .bool false)
    | .neq=>some (Xgh 0 xs.length,one .bool true)
    |_=>none
   |_=>none
  |_=>none
 |_,_=>none
def Waf(T:Tab)(st:St):Op->Option (Bool×AVal)
 | .move x| .assign x=>(ev st x).map λv=>(true,v)
 | .pick c a b=>match(ev st c).bind asB with
  |some p=>match ev st a,ev st b with
   |some (.s (.one (.val .bool x))),some (.s (.one (.val .bool y)))=>some (true,one .bool (bif p then x else y))
   |va,vb=>(bif p then va else vb).map λv=>(true,v)
  |none=>none
 | .load t a=>(ev st a).bind λv=>match Wf8 T st t v with
  |some r=>some r
  |none=>(WhN T st t v).map λr=>(true,r)
 | .nilCheck x=>(ev st x).bind (Wrn st)
 | .binOp op t x y _=>match ev st x,ev st y with
  |some a,some b=>match WqN T st op t a b with
   |some r=>some r
   |none=>binOp T op t a b
  |_,_=>none
 | .unOp op _ x=>(ev st x).bind (unOp op)
 | .convert src dst x=>(ev st x).bind (Wku T st src dst)
 | .slice t x lo hi none=>(ev st x).bind λv=>Wmq T st t v lo hi
 | .fieldAddr s x f=>(ev st x).bind λv=>Wcb T st s v f
 | .field t x f=>(ev st x).bind λv=>Wos T t v f
 | .indexAddr t x i=>match ev st x,ev st i with
  |some a,some b=>Wb8 T st t a b
  |_,_=>none
 | .index t x i=>match ev st x,ev st i with
  |some a,some b=>Wor T t a b
  |_,_=>none
 | .extract t ix=>match ev st t with
  |some (.tup xs)=>(xs[ix]?).map λx=>(true,.s x)
  |_=>none
 | .makeFunc (.func f) first captured=>if first.isEmpty then(WgG st captured.toList).map λids=>(true,.s (.one (.clos f ids)))else none
 | .call c=>match c.callee,c.args.toList,c.argTypes.toList with
  | .builtin .len,[x],[t]=>(ev st x).bind (Wka T st t)
  | .builtin .min,[x,y],[_,_]=>match ev st x,ev st y with
   |some (.s (.one (.val (.int k) a))),some (.s (.one (.val (.int k') b)))=>if k=k' then some (true,one (.int k) (WxD a b))else none
   |_,_=>none
  | .builtin .max,[x,y],[_,_]=>match ev st x,ev st y with
   |some (.s (.one (.val (.int k) a))),some (.s (.one (.val (.int k') b)))=>if k=k' then some (true,one (.int k) (Wsi a b))else none
   |_,_=>none
  |_,_,_=>none
 |_=>none
def Wey:Ty->List Cell
 | .prod a b=>Wey a++Wey b
 | .int k=>[.val (.int k) (0:Int)]
 | .bool=>[.val .bool false]
 | .str=>[.val .str ([]:List UInt8)]
 | .slice _=>[.nils]
 | .own _=>[.junk]
def Ty.data:Ty->Bool
 | .own _=>false
 | .prod a b=>a.data&&b.data
 |_=>true
def unfold:(t:Ty)->t.den->Nat->List Cell×Wab×Nat
 | .prod a b,d,nx=>
  let x:=unfold a d.1 nx
  let y:=unfold b d.2 x.2.2
  (x.1++y.1,x.2.1++y.2.1,y.2.2)
 | .own e,d,nx=>([.own nx],[(nx,.arr e d)],nx+1)
 | .int k,d,nx=>([.val (.int k) d],[],nx)
 | .bool,d,nx=>([.val .bool d],[],nx)
 | .str,d,nx=>([.val .str d],[],nx)
 | .slice e,d,nx=>([.val (.slice e) d],[],nx)
def Wj5(t:Ty)(c:Cell):Option t.den:=
 match c with
 | .val t' d=>Wn5 t' t d
 |_=>none
def Wtl(e:Ty)(objs:Wab)(fc:List Cell->Option (e.den×List Nat×List Nat))(id:Nat):Option (List e.den×List Nat):=
 match Wn objs id with
 |some (.arr e' xs)=>(WgO e' e xs).map λys=>(ys,[id])
 |some (.hole e' xs i p)=>match WgO e' e xs,Wn objs p with
  |some ys,some (.box cs)=>match fc cs with
   |some (d,m,[])=>some (ys.set i d,id::p::m)
   |_=>none
  |_,_=>none
 |_=>none
def Wu5(e:Ty)(objs:Wab)(fc:List Cell->Option (e.den×List Nat×List Nat))(id:Nat):Option (List e.den×List Nat):=
 match Wn objs id with
 |some (.arr e' xs)=>(WgO e'.ro e (WcL e' xs)).map λys=>(ys,[id])
 |some (.hole e' xs i p)=>match WgO e'.ro e (WcL e' xs),Wn objs p with
  |some ys,some (.box cs)=>match fc cs with
   |some (d,[],l)=>some (ys.set i d,id::p::l)
   |_=>none
  |_,_=>none
 |_=>none
def Wax:(t:Ty)->List Cell->Wab->Option (t.den×List Nat×List Nat)
 | .prod a b,cs,objs=>match Wax a (cs.take a.size) objs,Wax b (cs.drop a.size) objs with
  |some (x,m,r),some (y,m',r')=>some ((x,y),m++m',r++r')
  |_,_=>none
 | .own e,cs,objs=>match cs with
  | [.own id]=>(Wtl e objs (λcs=>Wax e cs objs) id).map λp=>(p.1,p.2,[])
  | [.vw id lo hi]=>match Wn objs id with
   |some (.arr e' xs)=>(WgO e' e xs).map λys=>((ys.take hi).drop lo,[id],[])
   |_=>none
  | [.nils]=>some (([]:List e.den),[],[])
  |_=>none
 | .slice e,cs,objs=>match cs with
  | [.own id]=>(Wu5 e objs (λcs=>Wax e cs objs) id).map λp=>(p.1,[],p.2)
  | [.vw id lo hi]=>match Wn objs id with
   |some (.arr e' xs)=>(WgO e'.ro e (WcL e' xs)).map λys=>((ys.take hi).drop lo,[],[id])
   |_=>none
  | [.nils]=>some (([]:List e.den),[],[])
  | [c]=>(Wj5 (.slice e) c).map λd=>(d,[],[])
  |_=>none
 | .int k,cs,_=>match cs with
  | [c]=>(Wj5 (.int k) c).map λd=>(d,[],[])
  |_=>none
 | .bool,cs,_=>match cs with
  | [c]=>(Wj5 .bool c).map λd=>(d,[],[])
  |_=>none
 | .str,cs,_=>match cs with
  | [c]=>(Wj5 .str c).map λd=>(d,[],[])
  |_=>none
def WcB(i:Nat):List Nat->Bool
 | []=>false
 |j::l=>Xav i j||WcB i l
def Wbw:List Nat->Bool
 | []=>true
 |i::l=>!WcB i l&&Wbw l
def eqN:List Nat->List Nat->Bool
 | [],[]=>true
 |i::l,j::m=>Xav i j&&eqN l m
 |_,_=>false
def Wf2(l m:List Nat):Bool:=l.all λi=>!WcB i m
def kill(objs:Wab):List Nat->Wab
 | []=>objs
 |i::l=>(i,.dead)::kill objs l
def cellsOf(agg:Bool):AVal->Option (List Cell)
 | .s (.one c)=>if agg then none else some [c]
 | .s (.agg cs)=>if agg then some cs else none
 | .tup _=>none
inductive PTy where
 |v (t:Ty) (agg:Bool)
 |box (t:Ty)
 |mut (e:Ty)
 |clos (g:FuncId) (n:Nat)
 |kv (t:Ty) (agg:Bool)
 |rp (t:Ty)
 |boxal (t:Ty) (lf:Nat)
 |vj (t:Ty)
def Ty.owns:Ty->Nat
 | .own _=>1
 | .prod a b=>a.owns+b.owns
 |_=>0
def WfE:List PTy->Type
 | []=>Unit
 | .v t _::ps=>t.den×WfE ps
 | .box t::ps=>t.den×WfE ps
 | .mut e::ps=>List e.den×WfE ps
 | .clos _ _::ps=>WfE ps
 | .kv t _::ps=>t.den×WfE ps
 | .rp t::ps=>t.den×WfE ps
 | .vj _::ps=>WfE ps
 | .boxal t _::ps=>t.den×Nat×WfE ps
def Wgb:List PTy->Type
 | []=>Unit
 | .v _ _::ps=>Wgb ps
 | .box t::ps=>t.den×Wgb ps
 | .mut e::ps=>List e.den×Wgb ps
 | .clos _ _::ps=>Wgb ps
 | .kv t _::ps=>t.den×Wgb ps
 | .rp _::ps=>Wgb ps
 | .vj _::ps=>Wgb ps
 | .boxal t _::ps=>t.den×Wgb ps
def WgX:List PTy->Type
 | []=>Unit
 | .v t _::rs=>t.den×WgX rs
 | .box t::rs=>t.den×WgX rs
 | .mut _::rs=>WgX rs
 | .clos _ _::rs=>WgX rs
 | .kv _ _::rs=>WgX rs
 | .rp _::rs=>WgX rs
 | .vj t::rs=>t.den×WgX rs
 | .boxal _ _::rs=>WgX rs
structure Kp where
 id:Nat
 off:Nat
def kp0(l:List Nat):List Kp:=l.map λi=>⟨i,0⟩
structure Args(ps:List PTy) where
 d:WfE ps
 moved:List Nat
 lent:List Nat
 kept:List Kp
 all:List Nat
def WbB:Ty->Nat->Option Nat
 | .own _,n=>match n with
  |0=>some 0
  |_+1=>none
 | .prod a b,n=>if n<a.owns then WbB a n else(WbB b (n-a.owns)).map (a.size+ ·)
 | .int _,_=>none
 | .bool,_=>none
 | .str,_=>none
 | .slice _,_=>none
def WrD(objs:Wab):Cell->AVal->Option Nat
 | .own r,.s (.one (.ptr p off))=>match off,Wn objs r with
  |0,some (.hole _ _ i p')=>if Xav p p' then some i else none
  |_,_=>none
 | .own r,.s (.one (.eptr r' i off))=>match off,Wn objs r with
  |0,some (.arr _ _)=>if Xav r r' then some i else none
  |_,_=>none
 |_,_=>none
def WsI:Cell->Bool
 | .vw _ _ _=>false
 |_=>true
def WuJ:AVal->Bool
 | .s (.one c)=>WsI c
 | .s (.agg cs)=>cs.all WsI
 | .tup _=>true
def Wm9(objs:Wab)(t:Ty)(m:List Nat)(x:AVal):Bool:=decide (m.length=t.owns)&&WuJ x&&m.all λid=>match Wn objs id with
 |some (.arr _ _)=>true
 |_=>false
def Whb(l:List Nat):List AVal:=l.map λid=>.s (.one (.ptr id 0))
def Waa:(ps:List PTy)->List AVal->Wab->Option (Args ps)
 | [],xs,_=>match xs with
  | []=>some ⟨(),[],[],[],[]⟩
  |_=>none
 | .v t agg::ps,xs,objs=>match xs with
  |x::xs=>match(cellsOf agg x).bind λcs=>Wax t cs objs,Waa ps xs objs with
   |some (d,m,r),some A=>some ⟨(d,A.d),m++A.moved,r++A.lent,A.kept,m++A.all⟩
   |_,_=>none
  |_=>none
 | .box t::ps,xs,objs=>match xs with
  | .s (.one (.ptr id off))::xs=>match Wn objs id with
   |some (.box cs)=>match Wax t ((cs.drop off).take t.size) objs,Waa ps xs objs with
    |some (d,m,[]),some A=>some ⟨(d,A.d),m++A.moved,A.lent,⟨id,off⟩::A.kept,id::(m++A.all)⟩
    |_,_=>none
   |_=>none
  |_=>none
 | .mut e::ps,xs,objs=>match xs with
  | .s (.one (.own id))::xs=>match Wn objs id with
   |some (.arr e' ys)=>match WgO e' e ys,Waa ps xs objs with
    |some d,some A=>some ⟨(d,A.d),A.moved,A.lent,⟨id,0⟩::A.kept,id::A.all⟩
    |_,_=>none
   |_=>none
  |_=>none
 | .clos g n::ps,xs,objs=>match xs with
  | .s (.one (.clos g' caps))::xs=>if g'=g/\caps.length=n then(Waa ps (Whb caps++xs) objs).map λA=>⟨A.d,A.moved,A.lent,A.kept,A.all⟩else none
  |_=>none
 | .kv t agg::ps,xs,objs=>match xs with
  |x::xs=>match(cellsOf agg x).bind λcs=>Wax t cs objs,Waa ps xs objs with
   |some (d,m,r),some A=>if Wm9 objs t m x then some ⟨(d,A.d),A.moved,r++A.lent,kp0 m++A.kept,m++A.all⟩else none
   |_,_=>none
  |_=>none
 | .rp t::ps,xs,objs=>match xs with
  | .s (.one (.ptr id off))::xs=>match Wn objs id with
   |some (.box cs)=>match Wax t ((cs.drop off).take t.size) objs,Waa ps xs objs with
    |some (d,[],r),some A=>if t.data then some ⟨(d,A.d),A.moved,id::(r++A.lent),A.kept,A.all⟩else none
    |_,_=>none
   |_=>none
  | .s (.one (.rptr t' d off))::xs=>match Wax t (((split t' d).drop off).take t.size) objs,Waa ps xs objs with
   |some (d,[],[]),some A=>if t.data then some ⟨(d,A.d),A.moved,A.lent,A.kept,A.all⟩else none
   |_,_=>none
  |_=>none
 | .vj _::_,_,_=>none
 | .boxal t lf::ps,xs,objs=>match xs with
  | .s (.one (.ptr id off))::y::xs=>match Wn objs id with
   |some (.box cs)=>match Wax t ((cs.drop off).take t.size) objs,Waa ps xs objs,((WbB t lf).bind λk=>((cs.drop off).take t.size)[k]?).bind λc=>WrD objs c y with
    |some (d,m,[]),some A,some i=>some ⟨(d,i,A.d),m++A.moved,A.lent,⟨id,off⟩::A.kept,id::(m++A.all)⟩
    |_,_,_=>none
   |_=>none
  |_=>none
def WcG:(t:Ty)->t.den->List Nat->Wab
 | .own e,d,ids=>match ids with
  |id::_=>[(id,.arr e d)]
  | []=>[]
 | .prod a b,d,ids=>WcG a d.1 (ids.take a.owns)++WcG b d.2 (ids.drop a.owns)
 | .int _,_,_=>[]
 | .bool,_,_=>[]
 | .str,_,_=>[]
 | .slice _,_,_=>[]
def Wes(cs:List Cell)(off:Nat)(ds:List Cell):List Cell:=cs.take off++ds++cs.drop (off+ds.length)
def WhI(o:Option Ob)(off:Nat)(ds:List Cell):Ob:=match o with
 |some (.box cs)=>.box (Wes cs off ds)
 |_=>.dead
def Wad:(ps:List PTy)->Wgb ps->List Kp->Wab->Nat->Wab×Nat
 | [],_,_,objs,nx=>(objs,nx)
 | .v _ _::ps,o,ids,objs,nx=>Wad ps o ids objs nx
 | .box t::ps,o,ids,objs,nx=>match ids with
  |k::ids=>
   let x:=unfold t o.1 nx
   Wad ps o.2 ids ((k.id,WhI (Wn objs k.id) k.off x.1)::(x.2.1++objs)) x.2.2
  | []=>(objs,nx)
 | .mut e::ps,o,ids,objs,nx=>match ids with
  |k::ids=>Wad ps o.2 ids ((k.id,.arr e o.1)::objs) nx
  | []=>(objs,nx)
 | .clos _ _::ps,o,ids,objs,nx=>Wad ps o ids objs nx
 | .kv t _::ps,o,ids,objs,nx=>Wad ps o.2 (ids.drop t.owns) (WcG t o.1 ((ids.take t.owns).map Kp.id)++objs) nx
 | .rp _::ps,o,ids,objs,nx=>Wad ps o ids objs nx
 | .vj _::ps,o,ids,objs,nx=>Wad ps o ids objs nx
 | .boxal t _::ps,o,ids,objs,nx=>match ids with
  |k::ids=>
   let x:=unfold t o.1 nx
   Wad ps o.2 ids ((k.id,WhI (Wn objs k.id) k.off x.1)::(x.2.1++objs)) x.2.2
  | []=>(objs,nx)
def WwN(agg:Bool)(cs:List Cell):AV:=if agg then .agg cs else match cs with
 | [c]=>.one c
 |_=>.agg cs
def Wbp:(rs:List PTy)->WgX rs->Wab->Nat->List AV×Wab×Nat
 | [],_,objs,nx=>([],objs,nx)
 | .v t agg::rs,d,objs,nx=>
  let x:=unfold t d.1 nx
  let y:=Wbp rs d.2 (x.2.1++objs) x.2.2
  (WwN agg x.1::y.1,y.2)
 | .box t::rs,d,objs,nx=>
  let x:=unfold t d.1 (nx+1)
  let y:=Wbp rs d.2 ((nx,.box x.1)::(x.2.1++objs)) x.2.2
  (.one (.ptr nx 0)::y.1,y.2)
 | .mut _::rs,d,objs,nx=>Wbp rs d objs nx
 | .clos _ _::rs,d,objs,nx=>Wbp rs d objs nx
 | .kv _ _::rs,d,objs,nx=>Wbp rs d objs nx
 | .rp _::rs,d,objs,nx=>Wbp rs d objs nx
 | .vj t::rs,d,objs,nx=>
  let x:=unfold t d.1 nx
  let y:=Wbp rs d.2 (x.2.1++objs) x.2.2
  (.agg (x.1++ [.junk])::y.1,y.2)
 | .boxal _ _::rs,d,objs,nx=>Wbp rs d objs nx
def WwL:List AV->AVal
 | [x]=>.s x
 |xs=>.tup xs
abbrev KV(R:Type):=AVal->Wab->Nat->Option R
abbrev Out:=AVal×Wab×Nat
def Wby(x:AVal)(objs:Wab)(nx:Nat):Option Out:=some (x,objs,nx)
structure Inl where
 fn:(R:Type)->St->KV R->Option R
 law:∀(R:Type) (st:St) (k:KV R),fn R st k=(fn Out st Wby).bind λp=>k p.1 p.2.1 p.2.2
 suf:∀(st:St) (x:AVal) (objs:Wab) (nx:Nat),fn Out st Wby=some (x,objs,nx)->∃pre,objs=pre++st.objs
structure Sig where
 ps:List PTy
 rs:List PTy
 fn:(R:Type)->WfE ps->(Wgb ps×WgX rs->Option R)->Option R
 run:WfE ps->Option (Wgb ps×WgX rs)
 law:∀(R:Type) (d:WfE ps) (k:Wgb ps×WgX rs->Option R),fn R d k=(run d).bind k
 inl:Option Inl
noncomputable def Sig.of(ps:List PTy)(rs:List PTy)(run:WfE ps->Option (Wgb ps×WgX rs)):Sig:=⟨ps,rs,λ_ d k=>(run d).bind k,run,λ_ _ _=>rfl,none⟩
theorem Sig.law'(s:Sig){R:Type}(d:WfE s.ps)(k:Wgb s.ps×WgX s.rs->Option R)(r:R)(h:s.fn R d k=some r):∃o,s.run d=some o/\k o=some r:=by
 rw[s.law]at h;cases hr:s.run d with
 |none=>simp_all
 |some o=>simp_all
def PTy.fresh:PTy->Bool
 | .v _ _=>true
 | .box t=>t.noRo
 | .mut e=>e.noRo
 | .clos _ _=>true
 | .kv t _=>t.noRo
 | .rp _=>true
 | .vj _=>true
 | .boxal t _=>t.noRo
def PTy.freshR:PTy->Bool
 | .v t _=>t.noRo
 | .box t=>t.noRo
 | .mut _=>true
 | .clos _ _=>true
 | .kv _ _=>true
 | .rp _=>true
 | .vj t=>t.noRo
 | .boxal _ _=>true
def Sig.fresh(s:Sig):Bool:=s.rs.all PTy.freshR&&s.ps.all PTy.fresh
abbrev Ctx:=List (FuncId×Sig)
def evs(st:St):List Operand->Option (List AVal)
 | []=>some []
 |o::l=>match ev st o,evs st l with
  |some x,some xs=>some (x::xs)
  |_,_=>none
def Wfx{R:Type}(sg:Sig)(st:St)(xs:List AVal)(k:KV R):Option R:=
 match Waa sg.ps xs st.objs with
 |some A=>
  if Wbw A.all&&Wf2 A.lent A.all&&(sg.fresh||A.lent.isEmpty)then
   sg.fn R A.d λo=>
    let p:=Wad sg.ps o.1 A.kept (kill st.objs A.moved) st.nx
    let q:=Wbp sg.rs o.2 p.1 p.2
    k (WwL q.1) q.2.1 q.2.2
  else none
 |none=>none
def Wli(objs:Wab)(ids:List Nat):Cell->Cell
 | .own id=>bif WcB id ids then(match Wn objs id with
  |some (.arr e xs)=>.val (.slice e.ro) (WcL e xs)
  |_=>.junk)else .own id
 | .vw id lo hi=>.vw id lo hi
 | .val t d=>.val t d
 | .nils=>.nils
 | .aptr id=>.aptr id
 | .ptr id off=>.ptr id off
 | .eptr id i off=>.eptr id i off
 | .rptr t d off=>.rptr t d off
 | .clos f caps=>.clos f caps
 | .junk=>.junk
def WhD(objs:Wab)(ids:List Nat):AVal->AVal
 | .s (.one c)=>.s (.one (Wli objs ids c))
 | .s (.agg cs)=>.s (.agg (cs.map (Wli objs ids)))
 | .tup xs=>.tup xs
def Wr7:Cell->List Nat
 | .own id=>[id]
 | .vw _ _ _=>[]
 | .val _ _=>[]
 | .nils=>[]
 | .aptr _=>[]
 | .ptr _ _=>[]
 | .eptr _ _ _=>[]
 | .rptr _ _ _=>[]
 | .clos _ _=>[]
 | .junk=>[]
def WsX:AVal->List Nat
 | .s (.one c)=>Wr7 c
 | .s (.agg cs)=>cs.flatMap Wr7
 | .tup _=>[]
def WtP:Ty->List Cell->List Nat
 | .prod a b,cs=>WtP a (cs.take a.size)++WtP b (cs.drop a.size)
 | .slice _,cs=>match cs with
  |c::_=>Wr7 c
  | []=>[]
 | .own _,_=>[]
 | .int _,_=>[]
 | .bool,_=>[]
 | .str,_=>[]
def Whv(e:Ty):AVal->List Nat
 | .s (.one c)=>WtP e [c]
 | .s (.agg cs)=>WtP e cs
 | .tup _=>[]
def Wf4(objs:Wab)(p v:AVal):List Nat:=match p with
 | .s (.one (.eptr id _ _))=>match Wn objs id with
  |some (.arr e _)=>bif e.data then WsX v else Whv e v
  |_=>[]
 |_=>[]
def Wmf(ps:List (Nat×AVal)):List Nat:=ps.flatMap λp=>WsX p.2
def Wej(objs:Wab)(l:List Nat):Wab:=kill objs l
def WlW(objs:Wab)(ps:List (Nat×AVal)):List (Nat×AVal):=ps.map λp=>(p.1,WhD objs (Wmf ps) p.2)
def Wn1{R:Type}(sg:Sig)(st:St)(xs:List AVal)(k:KV R):Option R:=
 bif sg.fresh then Wfx sg st xs k else match Waa sg.ps xs st.objs with
  |some A=>match A.lent with
   | []=>Wfx sg st xs k
   |_=>Wfx sg {env:=st.env,objs:=kill st.objs A.lent,nx:=st.nx} (xs.map (WhD st.objs A.lent)) k
  |none=>none
def St.new(st:St)(dst:Option Tmp)(ob:Ob)(x:AVal):St:=
 {env:=st.env,objs:=(st.nx,ob)::st.objs,nx:=st.nx+1:St}.put dst x
def St.turn(st:St)(id:Nat)(ob:Ob):St:={st with objs:=(id,ob)::st.objs}
def Wg1:AVal->Option (List Cell)
 | .s (.one c)=>some [c]
 | .s (.agg cs)=>some cs
 | .tup _=>none
def Wc4(T:Tab)(st:St)(t:TypeId)(x v:AVal):Option St:=
 match Wn T t,x,Wg1 v with
 |some te,.s (.one (.ptr id off)),some ds=>match Wn st.objs id with
  |some (.box cs)=>if decide (te.ty.size=ds.length)&&te.plain&&decide (off+ds.length<=cs.length)then some (st.turn id (.box (Wes cs off ds)))else none
  |_=>none
 |some te,.s (.one (.eptr id i off)),some ds=>match Wn st.objs id with
  |some (.arr e xs)=>
   if decide (te.ty.size=ds.length)&&te.plain&&decide (off+ds.length<=e.size)&&e.data then
    match Wax e (Wes (split e (xs.getD i e.dflt)) off ds) st.objs with
    |some (d,[],[])=>some (st.turn id (.arr e (xs.set i d)))
    |_=>none
   else if decide (te.ty.size=ds.length)&&te.plain&&decide (off=0)&&decide (ds.length=e.size)then
    match Wax e ds st.objs with
    |some (d,m,[])=>if Wbw (id::m)then some {env:=st.env,objs:=(id,.arr e (xs.set i d))::kill st.objs m,nx:=st.nx}else none
    |_=>none
   else none
  |_=>none
 |_,_,_=>none
def Wvq(st:St)(e:Ty):AVal->Option (List e.den)
 | .s (.one (.val (.slice e') d))=>WgO e' e d
 | .s (.one .nils)=>some []
 | .s (.one (.own id))=>match Wn st.objs id with
  |some (.arr e' xs)=>WgO e' e xs
  |_=>none
 | .s (.one (.vw id lo hi))=>match Wn st.objs id with
  |some (.arr e' xs)=>(WgO e' e xs).map λys=>(ys.take hi).drop lo
  |_=>none
 |_=>none
def Wt3(st:St)(e:Ty):AVal->Option (List e.den×List Nat)
 | .s (.one .nils)=>some ([],[])
 | .s (.one (.own id))=>match Wn st.objs id with
  |some (.arr e' xs)=>(WgO e' e xs).map λys=>(ys,[id])
  |_=>none
 |_=>none
def WxK(st:St):AVal->Option Ty
 | .s (.one (.own id))=>match Wn st.objs id with
  |some (.arr e _)=>some e
  |_=>none
 |_=>none
def WeJ{R:Type}(st:St)(te:Ty)(s x:AVal)(k:KV R):Option R:=
 match s with
 | .s (.one .nils)=>match WxK st x with
  |some e=>if e.ro=te then match Wt3 st e x with
    |some (l,m)=>bif Wz l.length then k (.s (.one (.own st.nx))) ((st.nx,.arr e l)::kill st.objs m) (st.nx+1)else none
    |none=>none
   else none
  |none=>none
 | .s (.one (.own id))=>match Wn st.objs id with
  |some (.arr e xs)=>if e.ro=te then match Wt3 st e x with
    |some (l,m)=>if Wbw (id::m)then(bif Wz (xs.length+l.length)then k (.s (.one (.own st.nx))) ((st.nx,.arr e (Xh xs l))::kill st.objs (id::m)) (st.nx+1)else none)else none
    |none=>none
   else none
  |_=>none
 |_=>none
def Wuw(st:St):AVal->AVal->Bool
 | .s (.one (.own id)),_=>match Wn st.objs id with
  |some (.arr e _)=>e.data
  |_=>true
 | .s (.one .nils),.s (.one (.own id))=>match Wn st.objs id with
  |some (.arr e _)=>e.data
  |_=>true
 |_,_=>true
def Wea{R:Type}(T:Tab)(st:St)(t t2:TypeId)(s x:AVal)(k:KV R):Option R:=
 match Wn T t,Wn T t2 with
 |some ⟨_,false,.slice et⟩,some _=>match Wn T et with
  |some te=>
   if t=t2/\te.plain/\te.ty.data then
    bif !Wuw st s x then WeJ st te.ty s x k else
    match s,Wvq st te.ty x with
    | .s (.one .nils),some l=>bif Wz l.length then k (.s (.one (.own st.nx))) ((st.nx,.arr te.ty l)::st.objs) (st.nx+1)else none
    | .s (.one (.own id)),some l=>match Wn st.objs id with
     |some (.arr e xs)=>match Wn5 (.own e) (.own te.ty) xs with
      |some ys=>bif Wz (Xb ys+l.length)then k (.s (.one (.own st.nx))) ((st.nx,.arr te.ty (Xh ys l))::(id,.dead)::st.objs) (st.nx+1)else none
      |none=>none
     |_=>none
    | .s (.one (.vw id 0 hi)),some l=>match Wn st.objs id with
     |some (.arr e xs)=>match Wn5 (.own e) (.own te.ty) xs with
      |some ys=>bif Wz (hi+l.length)then k (.s (.one (.own st.nx))) ((st.nx,.arr te.ty (Xh (ys.take hi) l))::(id,.dead)::st.objs) (st.nx+1)else none
      |none=>none
     |_=>none
    |_,_=>none
   else none
  |none=>none
 |_,_=>none
def WnP(T:Tab)(fs:List (Nat×TypeId)):List (Nat×AVal)->List Cell->Option (List Cell)
 | [],cs=>some cs
 |(i,x)::ps,cs=>match fs[i]? with
  |some (off,ft)=>match Wn T ft,Wg1 x with
   |some te,some ds=>if decide (te.ty.size=ds.length)&&decide (off+ds.length<=cs.length)then WnP T fs ps (Wes cs off ds)else none
   |_,_=>none
  |none=>none
def WqY(e:Ty)(objs:Wab):List (Nat×AVal)->List e.den->Option (List e.den)
 | [],xs=>some xs
 |(i,x)::ps,xs=>match Wg1 x with
  |some ds=>match Wax e ds objs with
   |some (d,[],[])=>if i<xs.length then WqY e objs ps (xs.set i d)else none
   |_=>none
  |none=>none
def WcI(st:St):List (Nat×Operand)->Option (List (Nat×AVal))
 | []=>some []
 |(i,o)::l=>match ev st o,WcI st l with
  |some x,some xs=>some ((i,x)::xs)
  |_,_=>none
inductive An where
 |nest (e:Ty)
 |view
 |opn
 |shut (off:Nat)
def Wwx(A:List (Nat×An))(o:Oper):Option An:=match o.dst with
 |some d=>Wn A d
 |none=>none
def WdE{R:Type}(st:St)(e:Ty)(ps:List (Nat×AVal))(k:KV R):Option R:=
 match ps with
 | [p]=>if p.1=0 then match Wg1 (WhD st.objs (Whv e p.2) p.2)with
  |some ds=>match Wax e ds (Wej st.objs (Whv e p.2))with
   |some (d,m,[])=>if Wbw m then k (.s (.one (.own st.nx))) ((st.nx,.arr e [d])::kill (Wej st.objs (Whv e p.2)) m) (st.nx+1)else none
   |_=>none
  |none=>none
  else none
 |_=>none
def WfH{R:Type}(st:St)(te:Ty)(id:Nat)(l h:Option Int)(k:KV R):Option R:=
 match Wn st.objs id with
 |some (.arr e xs)=>if te=e.ro then bif (WcY (Xb xs) l h).1 then k (.s (.one (.vw id (WcY (Xb xs) l h).2.1 (WcY (Xb xs) l h).2.2))) st.objs st.nx else none else none
 |_=>none
def Wsa(o:Option Ob)(n:Nat):Bool:=match o with
 |some (.box cs)=>Xav cs.length n
 |_=>false
def Wcg:Nat->List AVal->List (Nat×AVal)
 |_,[]=>[]
 |i,x::xs=>(i,x)::Wcg (i+1) xs
def rxe{R:Type}(T:Tab)(Γ:Ctx)(A:List (Nat×An))(o:Oper)(st:St)(k:KV R):Option R:=
 match o.op with
 | .alloc t=>match Wn T t with
  |some ⟨e,true,.arr n _⟩=>if e.data&&Wz n then k (.s (.one (.aptr st.nx))) ((st.nx,.arr e (Xp n e.dflt))::st.objs) (st.nx+1)else none
  |some te=>if te.plain then k (.s (.one (.ptr st.nx 0))) ((st.nx,.box (Wey te.ty))::st.objs) (st.nx+1)else none
  |none=>none
 | .box t x=>match Wn T t,(ev st x).bind Wg1 with
  |some _,some cs=>k (.s (.one (.ptr st.nx 0))) ((st.nx,.box cs)::st.objs) (st.nx+1)
  |_,_=>none
 | .build t parts=>match Wn T t,WcI st parts.toList with
  |some ⟨ty,true,.struct fs⟩,some ps=>
   if fs.all (λf=>match Wn T f.2 with|some te=>te.plain|none=>false)then
    match WnP T fs ps (Wey ty)with
    |some cs=>k (.s (.agg cs)) st.objs st.nx
    |none=>none
   else none
  |_,_=>none
 | .buildSlice t n parts=>match Wn T t,WcI st parts.toList with
  |some ⟨_,false,.slice et⟩,some ps=>match Wn T et with
   |some te=>match Wwx A o with
    |some (.nest e)=>if decide (n=1)&&decide (e.ro=te.ty)&&te.plain&&decide (te.ty.size<=16777216)then WdE st e ps k else none
    |_=>match WqY te.ty (Wej st.objs (Wmf ps)) (WlW st.objs ps) (Xp n te.ty.dflt)with
    |some xs=>if decide (n*te.ty.size<=16777216)&&te.ty.data&&te.plain then k (.s (.one (.own st.nx))) ((st.nx,.arr te.ty xs)::Wej st.objs (Wmf ps)) (st.nx+1)else none
    |none=>none
   |none=>none
  |_,_=>none
 | .makeSlice t n c=>match Wn T t,(ev st n).bind asI,(ev st c).bind asI with
  |some ⟨_,false,.slice et⟩,some n',some c'=>match Wn T et with
   |some te=>match Wwx A o with
    |some (.nest e)=>if decide (e.ro=te.ty)&&te.plain then(bif decide (0<=n')&&decide (n'<=c')&&Wz c'.toNat then k (.s (.one (.own st.nx))) ((st.nx,.arr e (Xp n'.toNat e.dflt))::st.objs) (st.nx+1)else none)else none
    |_=>if te.ty.data&&te.plain then(bif decide (0<=n')&&decide (n'<=c')&&Wz c'.toNat then k (.s (.one (.own st.nx))) ((st.nx,.arr te.ty (Xp n'.toNat te.ty.dflt))::st.objs) (st.nx+1)else none)else none
   |none=>none
  |_,_,_=>none
 | .store t a x=>match ev st a,ev st x with
  |some p,some v=>match Wc4 T {env:=st.env,objs:=Wej st.objs (Wf4 st.objs p v),nx:=st.nx} t p (WhD st.objs (Wf4 st.objs p v) v)with
   |some af=>match o.dst with
    |none=>k (.tup []) af.objs af.nx
    |some _=>none
   |none=>none
  |_,_=>none
 | .slice t x lo hi none=>match ev st x with
  |some (.s (.one (.own id)))=>match Wn T t,Wmy st lo,Wmy st hi with
   |some ⟨_,false,.slice et⟩,some l,some h=>match Wn T et with
    |some te=>match Wwx A o with
     |some .view=>if te.plain then WfH st te.ty id l h k else none
     |_=>match l,h,Wn st.objs id with
      |none,some h,some (.arr e xs)=>if te.ty=e.ro/\te.plain then(bif decide (0<=h)&&decide (h<=(xs.length:Int))then k (.s (.one (.own st.nx))) ((st.nx,.arr e (xs.take h.toNat))::(id,.dead)::st.objs) (st.nx+1)else none)else none
      |none,some h,some (.hole e xs i p)=>if te.ty=e.ro/\te.plain/\Wsa (Wn st.objs p) e.size then(bif decide (0<=h)&&decide (h<=(xs.length:Int))&&decide (h<=(i:Int))then k (.s (.one (.own st.nx))) ((st.nx,.arr e (xs.take h.toNat))::(id,.dead)::(p,.dead)::st.objs) (st.nx+1)else none)else none
      |_,_,_=>none
    |none=>none
   |_,_,_=>none
  |_=>match Waf T st o.op with
   |some (c,v)=>bif c then k v st.objs st.nx else none
   |none=>none
 | .call c=>match c.callee,c.args.toList,c.argTypes.toList with
  | .builtin .append,[s,x],[t,t2]=>match ev st s,ev st x with
   |some sv,some xv=>Wea T st t t2 sv xv k
   |_,_=>none
  | .builtin .clear,[x],[t]=>match ev st x with
   |some (.s (.one (.vw id lo hi)))=>match Wn T t,Wn st.objs id with
    |some ⟨_,false,.slice et⟩,some (.arr e xs)=>match Wn T et with
     |some te=>if te.ty=e/\te.plain/\e.data then k (.tup []) ((id,.arr e (xs.take lo++Xp (hi-lo) e.dflt++xs.drop hi))::st.objs) st.nx else none
     |none=>none
    |_,_=>none
   |_=>none
  | .builtin _,_,_=>match Waf T st o.op with
   |some (c,v)=>bif c then k v st.objs st.nx else none
   |none=>none
  | .value f,args,_=>match ev st f,evs st args with
   |some (.s (.one (.clos g caps))),some xs=>match Wn Γ g with
    |some sg=>match sg.inl with
     |none=>Wn1 sg st (xs++Whb caps) k
     |some i=>i.fn R {env:=Wcg 0 (xs++Whb caps),objs:=st.objs,nx:=st.nx} k
    |none=>none
   |_,_=>none
  |_,_,_=>none
 |op=>match Waf T st op with
  |some (c,v)=>bif c then k v st.objs st.nx else none
  |none=>none
def rx1{R:Type}(T:Tab)(Γ:Ctx)(A:List (Nat×An))(o:Oper)(st:St)(k:St->Option R):Option R:=
 rxe T Γ A o st λx objs nx=>k (({env:=st.env,objs:=objs,nx:=nx}:St).put o.dst x)
def rxg{R:Type}(T:Tab)(Γ:Ctx)(A:List (Nat×An))(ops:Array Oper)(o:Oper)(st:St)(k:St->Option R):Option R:=
 match o.guard with
 |none=>rx1 T Γ A o st k
 |some (j,want)=>match(ops[j]?).bind (·.dst)with
  |some t=>match Wn st.env t with
   |some (.tup [])=>k (st.put o.dst (.tup []))
   |some x=>match asB x with
    |some b=>bif b
     then(if want then rx1 T Γ A o (st.put (some t) (one .bool true)) k else k ((st.put (some t) (one .bool true)).put o.dst (.tup [])))
     else(if want then k ((st.put (some t) (one .bool false)).put o.dst (.tup []))else rx1 T Γ A o (st.put (some t) (one .bool false)) k)
    |none=>none
   |none=>none
  |none=>none
inductive Ex where
 |normal|exit (id:Nat)|ret
def Wo9{R:Type}(f:St->(Ex->St->Option R)->Option R):Nat->St->(Ex->St->Option R)->Option R
 |0,_,_=>none
 |n+1,st,k=>f st λe af=>match e with
  | .normal=>Wo9 f n af k
  | .exit id=>k (.exit id) af
  | .ret=>k .ret af
inductive Ghost where
 |canon (slots:List Nat)
 |adopt (slot:Nat) (e:Ty)
 |freeze (slot:Nat)
 |adoptC (slot off:Nat) (e:Ty)
 |freezeC (slot off:Nat)
 |nest (dst:Nat) (e:Ty)
 |view (dst:Nat)
 |opn (dst:Nat)
 |unfE (slot:Nat)
 |unfS (slot:Nat) (ix:Option Nat)
 |unfC (slot off:Nat) (ix:Option Nat)
 |empt (slot:Nat) (e:Ty)
 |refold (slot:Nat)
 |shut (slot off:Nat)
 |shutD (dst off:Nat)
 |solo (slot:Nat)
 |soloC (slot off:Nat)
def WjI:List Ghost->List (Nat×An)
 | []=>[]
 | .nest d e::l=>(d,.nest e)::WjI l
 | .view d::l=>(d,.view)::WjI l
 | .opn d::l=>(d,.opn)::WjI l
 | .canon _::l=>WjI l
 | .adopt _ _::l=>WjI l
 | .freeze _::l=>WjI l
 | .adoptC _ _ _::l=>WjI l
 | .freezeC _ _::l=>WjI l
 | .unfE _::l=>WjI l
 | .unfS _ _::l=>WjI l
 | .unfC _ _ _::l=>WjI l
 | .refold _::l=>WjI l
 | .shut _ _::l=>WjI l
 | .shutD d off::l=>(d,.shut off)::WjI l
 | .empt _ _::l=>WjI l
 | .solo _::l=>WjI l
 | .soloC _ _::l=>WjI l
def Wbd:Cell->List Nat
 | .own id| .aptr id| .ptr id _| .eptr id _ _| .vw id _ _=>[id]
 | .clos _ caps=>caps
 |_=>[]
def Wft:AV->List Nat
 | .one c=>Wbd c
 | .agg cs=>cs.flatMap Wbd
def WaZ:AVal->List Nat
 | .s x=>Wft x
 | .tup xs=>xs.flatMap Wft
def WlD:Nat->List Nat->List Nat->Wab->List Nat
 |0,_,acc,_=>acc
 |n+1,todo,acc,objs=>match todo with
  | []=>acc
  |i::l=>if WcB i acc then WlD n l acc objs else
   match Wn objs i with
   |some (.box cs)=>WlD n (l++cs.flatMap Wbd) (acc++ [i]) objs
   |some (.arr _ _)=>WlD n l (acc++ [i]) objs
   |some (.hole _ _ _ p)=>WlD n (l++ [p]) (acc++ [i]) objs
   |_=>WlD n l acc objs
def WsR(i:Nat):List Nat->Option Nat
 | []=>none
 |j::l=>if Xav i j then some 0 else(WsR i l).map (· +1)
def WnK(m:List Nat):List Nat->Option (List Nat)
 | []=>some []
 |i::l=>match WsR i m,WnK m l with
  |some j,some r=>some (j::r)
  |_,_=>none
def Wda(m:List Nat):Cell->Cell
 | .own id=>match WsR id m with|some j=>.own j|none=>.junk
 | .vw id lo hi=>match WsR id m with|some j=>.vw j lo hi|none=>.junk
 | .aptr id=>match WsR id m with|some j=>.aptr j|none=>.junk
 | .ptr id off=>match WsR id m with|some j=>.ptr j off|none=>.junk
 | .eptr id i off=>match WsR id m with|some j=>.eptr j i off|none=>.junk
 | .clos f caps=>match WnK m caps with|some js=>.clos f js|none=>.junk
 | .val t d=>.val t d
 | .nils=>.nils
 | .rptr t d off=>.rptr t d off
 | .junk=>.junk
def Wvv(m:List Nat):AV->AV
 | .one c=>.one (Wda m c)
 | .agg cs=>.agg (cs.map (Wda m))
def Wo3(m:List Nat):AVal->AVal
 | .s x=>.s (Wvv m x)
 | .tup xs=>.tup (xs.map (Wvv m))
def WrW(m:List Nat):Ob->Ob
 | .box cs=>.box (cs.map (Wda m))
 | .arr e xs=>.arr e xs
 | .hole e xs i p=>match WsR p m with|some j=>.hole e xs i j|none=>.dead
 | .dead=>.dead
def Wga(env:List (Nat×AVal)):List Nat->List (Nat×AVal)
 | []=>[]
 |i::l=>match Wn env i with
  |some x=>(i,x)::Wga env l
  |none=>Wga env l
def Wed(m:List Nat)(objs:Wab):Nat->List Nat->Wab
 |_,[]=>[]
 |j,i::l=>match Wn objs i with
  |some ob=>(j,WrW m ob)::Wed m objs (j+1) l
  |none=>Wed m objs (j+1) l
def canon(slots:List Nat)(st:St):St:=
 let env:=Wga st.env slots
 let m:=WlD 400 (env.flatMap λp=>WaZ p.2) [] st.objs
 {env:=env.map λp=>(p.1,Wo3 m p.2),objs:=Wed m st.objs 0 m,nx:=m.length}
def WkV(st:St)(r i:Nat):Option St:=
 match Wn st.objs r with
 |some (.arr e xs)=>
  let x:=unfold e (xs.getD i e.dflt) (st.nx+1)
  some {env:=st.env,objs:=(r,.hole e xs i st.nx)::(st.nx,.box x.1)::(x.2.1++st.objs),nx:=x.2.2}
 |_=>none
def WuN(st:St)(r:Nat):Option Nat->Option (Bool×Nat)
 |none=>match Wn st.objs r with
  |some (.arr _ xs)=>some (inb (WT .i64 (Wg xs) 1) (Xb xs),(WT .i64 (Wg xs) 1).toNat)
  |_=>none
 |some s=>match Wn st.objs r,(Wn st.env s).bind asI with
  |some (.arr _ xs),some n=>some (inb n (Xb xs),n.toNat)
  |_,_=>none
def Wkl(st:St)(r:Nat)(ix:Option Nat):Option (Bool×St):=
 match WuN st r ix with
 |some (c,i)=>(WkV st r i).map λaf=>(c,af)
 |none=>none
def WnN(p:Nat):Wab->Option Nat
 | []=>none
 |(r,.hole _ _ _ p')::l=>if Xav p p' then some r else WnN p l
 |(_,.box _)::l=>WnN p l
 |(_,.arr _ _)::l=>WnN p l
 |(_,.dead)::l=>WnN p l
def Wln(st:St)(p:Nat):Option St:=
 match WnN p st.objs with
 |some r=>match Wn st.objs r,Wn st.objs p with
  |some (.hole e xs i p'),some (.box cs)=>match Wax e cs st.objs with
   |some (d,m,[])=>if Xav p p'&&Wbw (r::p::m)then some {env:=st.env,objs:=(r,.arr e (xs.set i d))::kill st.objs (p::m),nx:=st.nx}else none
   |_=>none
  |_,_=>none
 |none=>none
def Wen(g:Ghost)(st:St):Option (Bool×St):=
 match g with
 | .canon slots=>some (true,canon slots st)
 | .adopt slot e=>match Wn st.env slot with
  |some (.s (.one .nils))=>some (true,st.new (some slot) (.arr e []) (.s (.one (.own st.nx))))
  |some (.s (.one (.own _)))=>some (true,st)
  |_=>none
 | .freeze slot=>match Wn st.env slot with
  |some (.s (.one (.own id)))=>match Wn st.objs id with
   |some (.arr e xs)=>some (true,(st.turn id .dead).put (some slot) (one (.slice e.ro) (WcL e xs)))
   |_=>none
  |_=>none
 | .adoptC slot off e=>match Wn st.env slot with
  |some (.s (.one (.ptr id 0)))=>match Wn st.objs id with
   |some (.box cs)=>match cs[off]? with
    |some .nils=>some (true,{env:=st.env,objs:=(id,.box (cs.set off (.own st.nx)))::(st.nx,.arr e [])::st.objs,nx:=st.nx+1})
    |some (.own _)=>some (true,st)
    |_=>none
   |_=>none
  |_=>none
 | .freezeC slot off=>match Wn st.env slot with
  |some (.s (.one (.ptr id 0)))=>match Wn st.objs id with
   |some (.box cs)=>match cs[off]? with
    |some (.own j)=>match Wn st.objs j with
     |some (.arr e xs)=>some (true,{st with objs:=(id,.box (cs.set off (.val (.slice e.ro) (WcL e xs))))::(j,.dead)::st.objs})
     |_=>none
    |some (.val _ _)=>some (true,st)
    |some .nils=>some (true,st)
    |_=>none
   |_=>none
  |_=>none
 | .nest _ _=>some (true,st)
 | .view _=>some (true,st)
 | .opn _=>some (true,st)
 | .shutD _ _=>some (true,st)
 | .unfE slot=>match Wn st.env slot with
  |some (.s (.one (.eptr r i 0)))=>(WkV st r i).map λaf=>(true,af.put (some slot) (.s (.one (.ptr st.nx 0))))
  |_=>none
 | .unfS slot ix=>match Wn st.env slot with
  |some (.s (.one (.own r)))=>Wkl st r ix
  |_=>none
 | .unfC slot off ix=>match Wn st.env slot with
  |some (.s (.one (.ptr id o)))=>match Wn st.objs id with
   |some (.box cs)=>match cs[o+off]? with
    |some (.own r)=>Wkl st r ix
    |_=>none
   |_=>none
  |_=>none
 | .refold slot=>match Wn st.env slot with
  |some (.s (.one (.ptr p _)))=>(Wln st p).map λaf=>(true,af)
  |_=>none
 | .shut slot off=>match Wn st.env slot with
  |some (.s (.one (.ptr id o)))=>match Wn st.objs id with
   |some (.box cs)=>match cs[o+off]? with
    |some (.own r)=>match Wn st.objs r with
     |some (.hole _ _ _ p)=>(Wln st p).map λaf=>(true,af)
     |some (.arr _ _)=>some (true,st)
     |_=>none
    |_=>none
   |_=>none
  |_=>none
 | .empt slot e=>match Wn st.env slot with
  |some (.s (.one (.own id)))=>match Wn st.objs id with
   |some (.arr e' [])=>if e.size=e'.size/\e.ro=e'.ro then some (true,st.turn id (.arr e []))else none
   |_=>none
  |_=>none
 | .solo slot=>match Wn st.env slot with
  |some (.s (.one (.vw id lo hi)))=>match Wn st.objs id with
   |some (.arr e xs)=>some (true,(st.turn id .dead).new (some slot) (.arr e ((xs.take hi).drop lo)) (.s (.one (.own st.nx))))
   |_=>none
  |some (.s (.one (.own _)))=>some (true,st)
  |_=>none
 | .soloC slot off=>match Wn st.env slot with
  |some (.s (.one (.ptr id o)))=>match Wn st.objs id with
   |some (.box cs)=>match cs[o+off]? with
    |some (.vw j lo hi)=>match Wn st.objs j with
     |some (.arr e xs)=>some (true,{env:=st.env,objs:=(id,.box (cs.set (o+off) (.own st.nx)))::(st.nx,.arr e ((xs.take hi).drop lo))::(j,.dead)::st.objs,nx:=st.nx+1})
     |_=>none
    |some (.own _)=>some (true,st)
    |_=>none
   |_=>none
  |_=>none
def Ghost.quiet:Ghost->Bool
 | .canon _=>false
 |_=>true
def Wb5:List Ghost->St->Option (Bool×St)
 | [],st=>some (true,st)
 |g::l,st=>match Wen g st with
  |some (c,af)=>match Wb5 l af with
   |some (c',bP)=>some (c&&c',bP)
   |none=>none
  |none=>none
def opG(A:List (Nat×An))(o:Oper)(st:St):Option (Bool×St):=match Wwx A o,o.dst with
 |some .opn,some d=>match Wn st.env d with
  |some (.tup [])=>some (true,st)
  |_=>Wen (.unfE d) st
 |some .view,_=>some (true,st)
 |some (.nest _),_=>some (true,st)
 |none,_=>some (true,st)
 |some .opn,none=>some (true,st)
 |some (.shut off),some d=>Wen (.shut d off) st
 |some (.shut _),none=>some (true,st)
def rxs{R:Type}(T:Tab)(Γ:Ctx)(A:List (Nat×An))(ops:Array Oper):List Oper->St->(St->Option R)->Option R
 | [],st,k=>k st
 |o::l,st,k=>rxg T Γ A ops o st λaf=>match opG A o af with
  |some (c,bP)=>bif c then rxs T Γ A ops l bP k else none
  |none=>none
def WfX:Code->Option Nat
 | .region id _ _=>some id
 | .seq a b=>match WfX a with
  |some i=>some i
  |none=>WfX b
 | .cond _ a b=>match WfX a with
  |some i=>some i
  |none=>WfX b
 | .block _ c=>WfX c
 | .loop c=>(WfX c).map (· +100000)
 |_=>none
def Wf7(c:Code):Nat:=match WfX c with
 |some i=>i+100000
 |none=>99999
def Wk3{R:Type}(gs:List Ghost)(f:St->(Ex->St->Option R)->Option R)(st:St)(k:Ex->St->Option R):Option R:=
 f st λe af=>match e with
  | .normal=>match Wb5 gs af with
   |some (c,bP)=>bif c then k .normal bP else none
   |none=>none
  | .exit id=>k (.exit id) af
  | .ret=>k .ret af
def Wac:Op->List Operand
 | .move x| .assign x| .box _ x| .load _ x| .nilCheck x| .unOp _ _ x| .convert _ _ x| .fieldAddr _ x _| .field _ x _| .extract x _=>[x]
 | .pick c a b=>[c,a,b]
 | .build _ ps| .buildSlice _ _ ps=>ps.toList.map (·.2)
 | .store _ a v| .binOp _ _ a v _| .makeSlice _ a v| .indexAddr _ a v| .index _ a v=>[a,v]
 | .makeFunc _ first captured=>first.toList++captured.toList
 | .slice _ x l h m=>x::(l.toList++(h.toList++m.toList))
 | .call c=>(match c.callee with| .value f=>[f]|_=>[])++c.args.toList
 |_=>[]
def WaP(o:Oper):Bool:=match o.op with
 | .alloc _| .box _ _| .buildSlice _ _ _| .makeSlice _ _ _| .store _ _ _| .slice _ _ _ _ _=>true
 | .call c=>match c.callee with
  | .builtin .append=>true
  | .builtin .clear=>true
  | .builtin _=>false
  |_=>true
 |_=>false
def WvK:Op->Bool
 | .load _ _| .nilCheck _| .binOp _ _ _ _ _| .convert _ _ _| .fieldAddr _ _ _| .indexAddr _ _ _| .call _=>true
 |_=>false
def WeK(st:St):List Operand->List Nat
 | []=>[]
 |x::l=>match ev st x with
  |some v=>WaZ v++WeK st l
  |none=>WeK st l
def WcE(o:Oper)(st:St):List Nat:=bif WvK o.op then WeK st (Wac o.op)else []
def WhW(l:Wab):List Nat:=l.map (·.1)
def WpT(a b:Wab):List Nat:=WhW (b.take (b.length-a.length))
def Ww6(x:Nat)(l:List Nat):List Nat:=bif WcB x l then l else x::l
def WnL:List Nat->List Nat->List Nat
 | [],l=>l
 |x::m,l=>WnL m (Ww6 x l)
def Wnt(o:Oper):List Nat:=(o.after.toList.filter (Region.binds .any)).map (·.on)
def Wmx(acc:List (List Nat)):List Nat->List Nat->List Nat
 | [],l=>l
 |j::ds,l=>Wmx acc ds (WnL (acc.getD j []) (Ww6 j l))
def WcU:List Oper->List (List Nat)->List (List Nat)
 | [],acc=>acc
 |o::l,acc=>WcU l (acc++ [Wmx acc (Wnt o) []])
def WcR(B:List (List Nat))(j i:Nat):Bool:=WcB j (B.getD i [])
def Wt8:List Oper->Nat->Bool
 | [],_=>true
 |o::l,n=>(Wnt o).all (λd=>Xgh d n)&&Wt8 l (n+1)
def WsA:Operand->List Nat
 | .tmp t=>[t]
 |_=>[]
def WdD(ops:Array Oper)(o:Oper):List Nat:=(Wac o.op).flatMap WsA++(match o.guard with
 |some (j,_)=>((ops[j]?).bind (·.dst)).toList
 |none=>[])
def WhM:List Oper->Nat->List (Nat×Nat)
 | [],_=>[]
 |o::l,i=>match o.dst with
  |some d=>(d,i)::WhM l (i+1)
  |none=>WhM l (i+1)
def WlZ(ops:Array Oper)(B:List (List Nat))(D:List (Nat×Nat)):List Oper->Nat->Bool
 | [],_=>true
 |o::l,i=>(WdD ops o).all (λt=>D.all λp=>!Xav p.1 t||Xav p.2 i||WcR B p.2 i||WcR B i p.2)&&WlZ ops B D l (i+1)
def WtH(ops:Array Oper)(B:List (List Nat)):Bool:=
 Wt8 ops.toList 0&&Wbw ((WhM ops.toList 0).map (·.1))&&WlZ ops B (WhM ops.toList 0) ops.toList 0
def WdM:List Oper->Nat->List Nat
 | [],_=>[]
 |o::l,i=>bif WaP o then i::WdM l (i+1)else WdM l (i+1)
def Wrx(B:List (List Nat)):Nat->List Nat->List (List Nat)
 |0,_=>[[]]
 |n+1,rem=>match rem with
  | []=>[[]]
  |_=>(rem.filter λm=>rem.all λm'=>!WcR B m' m).flatMap λm=>(Wrx B n (rem.filter λx=>!Xav x m)).map (m:: ·)
def WuR(ops:List Oper)(B:List (List Nat))(done:List Nat)(σ:List Nat):Nat->Option Nat:=λi=>match ops with
 | []=>none
 |o::l=>bif !WcB i done&&(B.getD i []).all (λj=>WcB j done)&&(!WaP o||(match σ with|m::_=>Xav m i| []=>false))then some i else WuR l B done σ (i+1)
def WiA(ops:List Oper)(B:List (List Nat)):Nat->List Nat->List Nat->List Nat
 |0,_,_=>[]
 |n+1,done,σ=>match WuR ops B done σ 0 with
  |some i=>i::WiA ops B n (i::done) (match σ with|m::σ'=>bif Xav m i then σ' else σ| []=>[])
  |none=>[]
def Wix(ops:Array Oper):List Nat->List Nat->Bool
 | [],done=>Xav done.length ops.size
 |i::l,done=>!WcB i done&&(match ops[i]? with|some o=>(Wnt o).all (λd=>WcB d done)|none=>false)&&Wix ops l (i::done)
def Wgy{α:Type}:List Nat->(List Nat->α)->α
 | [],k=>k []
 |x::l,k=>Wgy l λl'=>k (x::l')
def WpR{α:Type}:List (List Nat)->(List (List Nat)->α)->α
 | [],k=>k []
 |x::l,k=>Wgy x λx'=>WpR l λl'=>k (x'::l')
def rdx{R:Type}(T:Tab)(Γ:Ctx)(A:List (Nat×An))(ops:Array Oper)(B:List (List Nat)):List Nat->List (Nat×List Nat)->List (Nat×List Nat)->St->(St->Option R)->Option R
 | [],_,_,st,k=>k st
 |i::l,fl,mu,st,k=>match ops[i]? with
  |some o=>bif WaP o
   then rxg T Γ A ops o st λaf=>Wgy (WpT st.objs af.objs) λids=>
    bif fl.all (λp=>WcR B p.1 i||Wf2 p.2 ids)then rdx T Γ A ops B l fl ((i,ids)::mu) af k else none
   else Wgy (WcE o st) λids=>
    bif mu.all (λp=>WcR B p.1 i||Wf2 ids p.2)then rxg T Γ A ops o st λaf=>rdx T Γ A ops B l ((i,ids)::fl) mu af k else none
  |none=>none
def Wj{α β:Type}(x:α)(f:α->β):β:=f x
open Classical in
noncomputable def Wb6{α:Type}(a b:Option α):Option α:=if a=b then a else none
noncomputable def WvN{R:Type}(T:Tab)(Γ:Ctx)(A:List (Nat×An))(ops:Array Oper)(B:List (List Nat))(st:St)(k:St->Option R):List (List Nat)->Option R
 | []=>none
 |σ::l=>
  let a:=Wgy (WiA ops.toList B ops.size [] σ) λL=>bif Wix ops L []&&eqN (L.filter λi=>WcB i σ) σ then rdx T Γ A ops B L [] [] st k else none
  match l with
  | []=>a
  |_=>Wb6 a (WvN T Γ A ops B st k l)
noncomputable def WlH{R:Type}(T:Tab)(Γ:Ctx)(A:List (Nat×An))(ops:Array Oper)(st:St)(k:St->Option R):Option R:=
 WpR (WcU ops.toList []) λB=>bif WtH ops B then WvN T Γ A ops B st k (Wrx B ops.size (WdM ops.toList 0))else none
noncomputable def sx{R:Type}(T:Tab)(Γ:Ctx)(ann:Nat->List Ghost)(N:Nat):Code->St->(Ex->St->Option R)->Option R
 | .skip,st,k=>k .normal st
 | .region id ops draw,st,k=>
  bif draw then WlH T Γ (WjI (ann id)) ops st λaf=>match Wb5 (ann id) af with
   |some (c,bP)=>bif c then k .normal bP else none
   |none=>none
  else rxs T Γ (WjI (ann id)) ops ops.toList st λaf=>match Wb5 (ann id) af with
   |some (c,bP)=>bif c then k .normal bP else none
   |none=>none
 | .seq a b,st,k=>sx T Γ ann N a st λe af=>match e with
  | .normal=>sx T Γ ann N b af k
  | .exit id=>k (.exit id) af
  | .ret=>k .ret af
 | .cond c x y,st,k=>match(ev st c).bind asB with
  |some b=>bif b then sx T Γ ann N x st k else sx T Γ ann N y st k
  |none=>none
 | .block id c,st,k=>sx T Γ ann N c st λe af=>match e with
  | .exit cb=>if cb=id then k .normal af else k (.exit cb) af
  | .normal=>k .normal af
  | .ret=>k .ret af
 | .loop c,st,k=>match Wb5 (ann (Wf7 c)) st with
  |some (b,af)=>bif b then Wo9 (Wk3 (ann (Wf7 c)) λst k=>sx T Γ ann N c st k) N af k else none
  |none=>none
 | .exit id,st,k=>k (.exit id) st
 | .ret,st,k=>k .ret st
 |_,_,_=>none
def Wsc:List AVal->List Nat
 | []=>[]
 | .s (.one (.ptr id 0))::l=>id::Wsc l
 |_::l=>Wsc l
def WP:(ps:List PTy)->WfE ps->Wab->Nat->List AVal×Wab×Nat
 | [],_,objs,nx=>([],objs,nx)
 | .v t agg::ps,d,objs,nx=>
  let x:=unfold t d.1 nx
  let y:=WP ps d.2 (x.2.1++objs) x.2.2
  (.s (WwN agg x.1)::y.1,y.2)
 | .box t::ps,d,objs,nx=>
  let x:=unfold t d.1 (nx+1)
  let y:=WP ps d.2 ((nx,.box x.1)::(x.2.1++objs)) x.2.2
  (.s (.one (.ptr nx 0))::y.1,y.2)
 | .mut e::ps,d,objs,nx=>
  let y:=WP ps d.2 ((nx,.arr e d.1)::objs) (nx+1)
  (.s (.one (.own nx))::y.1,y.2)
 | .clos g n::ps,d,objs,nx=>
  let y:=WP ps d objs nx
  (.s (.one (.clos g (Wsc (y.1.take n))))::y.1.drop n,y.2)
 | .kv t agg::ps,d,objs,nx=>
  let x:=unfold t d.1 nx
  let y:=WP ps d.2 (x.2.1++objs) x.2.2
  (.s (WwN agg x.1)::y.1,y.2)
 | .rp t::ps,d,objs,nx=>
  let y:=WP ps d.2 objs nx
  (.s (.one (.rptr t d.1 0))::y.1,y.2)
 | .vj _::ps,d,objs,nx=>
  let y:=WP ps d objs nx
  (.tup []::y.1,y.2)
 | .boxal t lf::ps,d,objs,nx=>
  let x:=unfold t d.1 (nx+1)
  let y:=WP ps d.2.2 ((nx,.box x.1)::(x.2.1++objs)) x.2.2
  (.s (.one (.ptr nx 0)):: .s (.one (.eptr (nx+1+lf) d.2.1 0))::y.1,y.2)
def Wdu(T:Tab)(st:St):List ResultVar->Option (List AVal)
 | []=>some []
 | .tmp t::rs=>match Wn st.env t,Wdu T st rs with
  |some x,some xs=>some (x::xs)
  |_,_=>none
 | .cell a t::rs=>match(Wn st.env a).bind (WhN T st t),Wdu T st rs with
  |some x,some xs=>some (x::xs)
  |_,_=>none
structure Outs(α:Type) where
 d:α
 moved:List Nat
 lent:List Nat
def Wa8:(rs:List PTy)->List AVal->Wab->Option (Outs (WgX rs))
 | [],xs,_=>match xs with
  | []=>some ⟨(),[],[]⟩
  |_=>none
 | .v t agg::rs,xs,objs=>match xs with
  |x::xs=>match(cellsOf agg x).bind λcs=>Wax t cs objs,Wa8 rs xs objs with
   |some (d,m,l),some A=>some ⟨(d,A.d),m++A.moved,l++A.lent⟩
   |_,_=>none
  |_=>none
 | .box t::rs,xs,objs=>match xs with
  | .s (.one (.ptr id 0))::xs=>match Wn objs id with
   |some (.box cs)=>match Wax t cs objs,Wa8 rs xs objs with
    |some (d,m,l),some A=>some ⟨(d,A.d),id::(m++A.moved),l++A.lent⟩
    |_,_=>none
   |_=>none
  |_=>none
 | .mut _::_,_,_=>none
 | .clos _ _::_,_,_=>none
 | .kv _ _::_,_,_=>none
 | .rp _::_,_,_=>none
 | .vj t::rs,xs,objs=>match xs with
  | .s (.agg cs)::xs=>if cs.length=t.size+1 then(match Wax t (cs.take t.size) objs,Wa8 rs xs objs with
   |some (d,m,l),some A=>some ⟨(d,A.d),m++A.moved,l++A.lent⟩
   |_,_=>none)else none
  |_=>none
 | .boxal _ _::_,_,_=>none
structure OutK(α:Type) where
 d:α
 kept:List Nat
 moved:List Nat
 lent:List Nat
def WA:List PTy->Nat->Nat->St->List AVal
 | [],_,_,_=>[]
 |_::ps,i,k+1,st=>WA ps i k st
 | .v _ _::ps,i,0,st=>.tup []::WA ps (i+1) 0 st
 | .box _::ps,i,0,st=>(Wn st.env i).getD (.tup [])::WA ps (i+1) 0 st
 | .mut _::ps,i,0,st=>(Wn st.env i).getD (.tup [])::WA ps (i+1) 0 st
 | .clos _ n::ps,i,0,st=>(Wn st.env i).getD (.tup [])::WA ps (i+1) n st
 | .kv _ _::ps,i,0,st=>(Wn st.env i).getD (.tup [])::WA ps (i+1) 0 st
 | .rp _::ps,i,0,st=>.tup []::WA ps (i+1) 0 st
 | .vj _::ps,i,0,st=>.tup []::WA ps (i+1) 0 st
 | .boxal _ _::ps,i,0,st=>(Wn st.env i).getD (.tup []):: .tup []::WA ps (i+2) 0 st
def W2:(ps:List PTy)->List AVal->Wab->Option (OutK (Wgb ps))
 | [],_,_=>some ⟨(),[],[],[]⟩
 | .v _ _::ps,xs,objs=>(W2 ps xs.tail objs).map λA=>⟨A.d,A.kept,A.moved,A.lent⟩
 | .box t::ps,xs,objs=>match xs with
  | .s (.one (.ptr id 0))::xs=>match Wn objs id with
   |some (.box cs)=>match Wax t cs objs,W2 ps xs objs with
    |some (d,m,l),some A=>some ⟨(d,A.d),id::A.kept,m++A.moved,l++A.lent⟩
    |_,_=>none
   |_=>none
  |_=>none
 | .mut e::ps,xs,objs=>match xs with
  | .s (.one (.own id))::xs=>match Wn objs id with
   |some (.arr e' ys)=>match WgO e' e ys,W2 ps xs objs with
    |some d,some A=>some ⟨(d,A.d),id::A.kept,A.moved,A.lent⟩
    |_,_=>none
   |_=>none
  |_=>none
 | .clos g n::ps,xs,objs=>match xs with
  | .s (.one (.clos g' caps))::xs=>if g'=g/\caps.length=n then(W2 ps (Whb caps++xs) objs).map λA=>⟨A.d,A.kept,A.moved,A.lent⟩else none
  |_=>none
 | .kv t agg::ps,xs,objs=>match xs with
  |x::xs=>match(cellsOf agg x).bind λcs=>Wax t cs objs,W2 ps xs objs with
   |some (d,m,l),some A=>if Wm9 objs t m x then some ⟨(d,A.d),m++A.kept,A.moved,l++A.lent⟩else none
   |_,_=>none
  |_=>none
 | .rp _::ps,xs,objs=>(W2 ps xs.tail objs).map λA=>⟨A.d,A.kept,A.moved,A.lent⟩
 | .vj _::_,_,_=>none
 | .boxal t _::ps,xs,objs=>match xs with
  | .s (.one (.ptr id 0))::_::xs=>match Wn objs id with
   |some (.box cs)=>match Wax t cs objs,W2 ps xs objs with
    |some (d,m,l),some A=>some ⟨(d,A.d),id::A.kept,m++A.moved,l++A.lent⟩
    |_,_=>none
   |_=>none
  |_=>none
def WxB{R:Type}(T:Tab)(sg:Sig)(rv:List ResultVar)(k:Wgb sg.ps×WgX sg.rs->Option R)(e:Ex)(st:St):Option R:=
 match e with
 | .exit _=>none
 |_=>match Wdu T st rv with
  |some xs=>match Wa8 sg.rs xs st.objs,W2 sg.ps (WA sg.ps 0 0 st) st.objs with
   |some A,some B=>if Wbw (B.kept++(B.moved++A.moved))&&Wf2 (A.lent++B.lent) (B.kept++(B.moved++A.moved))then k (B.d,A.d)else none
   |_,_=>none
  |none=>none
noncomputable def den{R:Type}(T:Tab)(Γ:Ctx)(ann:Nat->List Ghost)(N:Nat)(sg:Sig)(f:Func)(d:WfE sg.ps)(k:Wgb sg.ps×WgX sg.rs->Option R):Option R:=
 let x:=WP sg.ps d [] 0
 match f.body,Wb5 (ann 1000000) {env:=Wcg 0 x.1,objs:=x.2.1,nx:=x.2.2}with
 |some c,some (b,st)=>bif b then sx T Γ ann N c st (WxB T sg f.results.toList k)else none
 |_,_=>none
def Weo:List PTy->Nat->Nat->List Nat
 | [],_,_=>[]
 |_::ps,i,k+1=>Weo ps i k
 | .v _ _::ps,i,0=>Weo ps (i+1) 0
 | .box _::ps,i,0=>i::Weo ps (i+1) 0
 | .mut _::ps,i,0=>i::Weo ps (i+1) 0
 | .clos _ n::ps,i,0=>i::Weo ps (i+1) n
 | .kv _ _::ps,i,0=>i::Weo ps (i+1) 0
 | .rp _::ps,i,0=>Weo ps (i+1) 0
 | .vj _::ps,i,0=>Weo ps (i+1) 0
 | .boxal _ _::ps,i,0=>i::Weo ps (i+2) 0
def WbS:List PTy->Nat
 | []=>0
 | .v _ _::ps=>WbS ps+1
 | .box _::ps=>WbS ps+1
 | .mut _::ps=>WbS ps+1
 | .clos _ _::ps=>WbS ps+1
 | .kv _ _::ps=>WbS ps+1
 | .rp _::ps=>WbS ps+1
 | .vj _::ps=>WbS ps+1
 | .boxal _ _::ps=>WbS ps+2
def Wk7:List PTy->Nat->Bool
 |_,0=>true
 | .box _::ps,n+1=>Wk7 ps n
 |_,_+1=>false
def WcD:List PTy->Bool
 | []=>true
 | .clos _ n::ps=>Wk7 ps n&&WcD ps
 | .v _ _::ps=>WcD ps
 | .box _::ps=>WcD ps
 | .mut _::ps=>WcD ps
 | .kv _ _::ps=>WcD ps
 | .rp _::ps=>WcD ps
 | .vj _::ps=>WcD ps
 | .boxal _ _::ps=>WcD ps
end Go.Sx
namespace Go.Sx
set_option linter.unusedVariables false
theorem Wd1{α:Type}{R:α->List Value->Prop}{n:Nat}(h:∀x c,R x c->c.length=n):
  ∀(l:List α) (cs:List Value),Wef R l cs->cs.length=l.length*n
 | [],cs,e=>by grind [Wef]
 |x::l,cs,e=>by
  obtain⟨c1,c2,rfl,h1,h2⟩:=e;have:=Wd1 h l c2 h2;rw[Xaa,h _ _ h1,this,Xr,Xbr,Xcw]
theorem Wnm{α:Type}{R R':α->List Value->Prop}(h:∀x c,R x c->R' x c):
  ∀(l:List α) (cs:List Value),Wef R l cs->Wef R' l cs
 | [],_,e=>e
 |_::l,_,⟨c1,c2,he,h1,h2⟩=>⟨c1,c2,he,h _ _ h1,Wnm h l c2 h2⟩
theorem Wel{α:Type}{R:α->List Value->Prop}:∀(l l':List α) (cs cI:List Value),Wef R l cs->Wef R l' cI->Wef R (l++l') (cs++cI)
 | [],_,cs,cI,e,e'=>by grind [Wef]
 |x::l,l',_,cI,⟨c1,c2,he,h1,h2⟩,e'=>⟨c1,c2++cI,by simp[he],h1,Wel l l' c2 cI h2 e'⟩
theorem Wk9{α:Type}{R:α->List Value->Prop}{n:Nat}(h:∀x c,R x c->c.length=n):
  ∀(l:List α) (cs:List Value) (i:Nat) (x:α),Wef R l cs->l[i]?=some x->R x ((cs.drop (i*n)).take n)
 | [],_,_,_,_,hi=>by simp at hi
 |y::l,cs,0,x,⟨c1,c2,he,h1,_⟩,hi=>by
  grind
 |y::l,cs,i+1,x,⟨c1,c2,he,h1,h2⟩,hi=>by
  have hl:=h _ _ h1;have:=Wk9 h l c2 i x h2 (by simp_all);rw[he,Xbr,Xcw,←Xdq,List.drop_left' hl];exact this
theorem WeQ{α:Type}{R:α->List Value->Prop}{n:Nat}(h:∀x c,R x c->c.length=n):
  ∀(l:List α) (cs:List Value) (m:Nat),Wef R l cs->Wef R (l.take m) (cs.take (m*n))
 | [],cs,m,e=>by grind [Wef]
 |x::l,cs,0,_=>by simp[Wef]
 |x::l,cs,m+1,⟨c1,c2,he,h1,h2⟩=>by
  have hl:=h _ _ h1;refine⟨c1,c2.take (m*n),?_,h1,WeQ h l c2 m h2⟩;rw[he,Xbr,Xcw,←hl,Xez]
theorem WeH{α:Type}{R:α->List Value->Prop}{n:Nat}(h:∀x c,R x c->c.length=n):
  ∀(l:List α) (cs:List Value) (m:Nat),Wef R l cs->Wef R (l.drop m) (cs.drop (m*n))
 | [],cs,m,e=>by grind [Wef]
 |x::l,cs,0,e=>by grind
 |x::l,cs,m+1,⟨c1,c2,he,h1,h2⟩=>by
  have hl:=h _ _ h1;have:=WeH h l c2 m h2
  grind [Wef,Xbr,Xcw,Xdq,Xgi]
theorem WlK{α:Type}{R:α->List Value->Prop}{n:Nat}(h:∀x c,R x c->c.length=n):
  ∀(l:List α) (cs:List Value) (i:Nat) (x:α) (ds:List Value),Wef R l cs->i<l.length->R x ds->
   Wef R (l.set i x) (cs.take (i*n)++ds++cs.drop (i*n+n))
 | [],_,_,_,_,_,hi,_=>by simp at hi
 |y::l,cs,0,x,ds,⟨c1,c2,he,h1,h2⟩,_,hx=>by
  have hl:=h _ _ h1;refine⟨ds,c2,?_,hx,h2⟩;simp_all
 |y::l,cs,i+1,x,ds,⟨c1,c2,he,h1,h2⟩,hi,hx=>by
  have hl:=h _ _ h1;refine⟨c1,_,?_,h1,WlK h l c2 i x ds h2 (by simp_all) hx⟩;have e1:(i+1)*n=c1.length+i*n:=by rw[Xbr,hl,Xcw]
  rw[he,e1,Xez,Xba,←Xdq,Xgi];simp
theorem W5{G:GH}:∀(t:Ty) (d:t.den) (cs:List Value),Enc G t d cs->cs.length=t.size
 | .int _,_,_,h=>by grind [Enc,Ty.size]
 | .bool,_,_,h=>by grind [Enc,Ty.size]
 | .str,_,_,h=>by grind [Enc,Ty.size]
 | .slice _,_,_,h=>by obtain⟨v,rfl,_⟩:=h;simp[Ty.size]
 | .own _,_,_,h=>h.elim
 | .prod a b,d,_,h=>by
  obtain⟨c1,c2,rfl,h1,h2⟩:=h;rw[Xaa,W5 a _ _ h1,W5 b _ _ h2,Ty.size]
def GLe(G G':GH):Prop:=∀b o v,G b o=some v->G' b o=some v
theorem Wi2{G G':GH}(h:GLe G G'){b o:Nat}{cs:List Value}(hs:WfF G b o cs):WfF G' b o cs:=λj v hj=>h _ _ _ (hs j v hj)
theorem Wba{G G':GH}(h:GLe G G'):∀(t:Ty) (d:t.den) (cs:List Value),Enc G t d cs->Enc G' t d cs
 | .int _,_,_,e=>e
 | .bool,_,_,e=>e
 | .str,_,_,e=>e
 | .slice e,d,cs,hh=>by
  obtain⟨v,hv,hr⟩:=hh;refine⟨v,hv,?_⟩;rcases hr with hr|⟨b,off,cap,cI,h1,h2,h3,h4,h5⟩|hr
  .exact .inl hr
  rotate_left
  .exact .inr (.inr hr)
  .exact .inr<| .inl ⟨b,off,cap,cI,h1,h2,h3,Wnm (λx c hx=>Wba h e x c hx) _ _ h4,Wi2 h h5⟩
 | .own _,_,_,e=>e
 | .prod a b,d,_,⟨c1,c2,he,h1,h2⟩=>⟨c1,c2,he,Wba h a _ _ h1,Wba h b _ _ h2⟩
section
variable{G:GH}{ν:Nat->Nu}{nx:Nat}
theorem CellsRel.nil:CellsRel G ν nx [] []:=⟨rfl,λj c v h=>by simp at h⟩
theorem CellsRel.append{cs cI:List Cell}{vs au:List Value}(h:CellsRel G ν nx cs vs)(h':CellsRel G ν nx cI au):
  CellsRel G ν nx (cs++cI) (vs++au):=by
 refine⟨by simp[h.1,h'.1],λj c v hc hv=>?_⟩;rw[Xar]at hc hv;rw[h.1]at hv;split at hc
 .rename_i ac;rw[Wf ac]at hv;exact h.2 j c v hc hv
 .rename_i ac;rw[Wc ac]at hv;exact h'.2 _ c v hc hv
theorem CellsRel.take{cs:List Cell}{vs:List Value}(h:CellsRel G ν nx cs vs)(n:Nat):CellsRel G ν nx (cs.take n) (vs.take n):=by
 refine⟨by simp[h.1],λj c v hc hv=>?_⟩;rw[Xbo]at hc hv;split at hc
 .rename_i ac;rw[Wf ac]at hv;exact h.2 j c v hc hv
 grind
theorem CellsRel.drop{cs:List Cell}{vs:List Value}(h:CellsRel G ν nx cs vs)(n:Nat):CellsRel G ν nx (cs.drop n) (vs.drop n):=by
 refine⟨by simp[h.1],λj c v hc hv=>?_⟩;rw[Xbn]at hc hv;exact h.2 _ c v hc hv
theorem CellsRel.one{c:Cell}{v:Value}(h:CellRel G ν nx c v)(hv1:v.oneCell'=true):CellsRel G ν nx [c] [v]:=by
 refine⟨rfl,λj c' v' hc hv=>?_⟩
 grind
theorem WaM:∀(t:Ty) (d:t.den) (vs:List Value),Enc G t d vs->CellsRel G ν nx (split t d) vs
 | .int k,d,vs,h=>by have h':=h;simp only[Enc]at h';subst h';exact CellsRel.one h rfl
 | .bool,d,vs,h=>by have h':=h;simp only[Enc]at h';subst h';exact CellsRel.one h rfl
 | .str,d,vs,h=>by have h':=h;simp only[Enc]at h';subst h';exact CellsRel.one h rfl
 | .slice e,d,vs,h=>by
  obtain⟨v,rfl,hr⟩:=h;refine CellsRel.one ⟨v,rfl,hr⟩ ?_;rcases hr with⟨rfl,_⟩|⟨_,_,_,_,rfl,_⟩|⟨_,_,rfl,_⟩<;>rfl
 | .own _,_,_,h=>h.elim
 | .prod a b,d,vs,⟨c1,c2,he,h1,h2⟩=>by
  subst he;exact(WaM a _ _ h1).append (WaM b _ _ h2)
end
def WsD(nx:Nat)(ν ν':Nat->Nu):Prop:=∀id,id<nx->ν' id=ν id
section
variable{G G':GH}{ν ν':Nat->Nu}{nx am:Nat}
theorem CellRel.mono(hg:GLe G G')(hn:WsD nx ν ν')(hx:nx<=am):
  ∀(c:Cell) (v:Value),CellRel G ν nx c v->CellRel G' ν' am c v
 | .val t d,v,h=>Wba hg t d _ h
 | .nils,_,h=>h
 | .own id,v,⟨h1,h2⟩=>⟨Xbh h1 hx,by rw[hn id h1];exact h2⟩
 | .vw id lo hi,v,⟨h1,h2⟩=>⟨Xbh h1 hx,by rw[hn id h1];exact h2⟩
 | .aptr id,v,⟨h1,h2⟩=>⟨Xbh h1 hx,by rw[hn id h1];exact h2⟩
 | .ptr id off,v,⟨h1,h2⟩=>⟨Xbh h1 hx,by rw[hn id h1];exact h2⟩
 | .eptr id i off,v,⟨h1,h2⟩=>⟨Xbh h1 hx,by rw[hn id h1];exact h2⟩
 | .rptr t d off,v,⟨b,o,cs,h1,h2,h3⟩=>⟨b,o,cs,h1,Wba hg t d _ h2,Wi2 hg h3⟩
 | .clos f caps,v,⟨vs,h1,h2,h3⟩=>⟨vs,h1,h2,λj id u hc hv=>by
   obtain⟨h4,h6,h5⟩:=h3 j id u hc hv;exact⟨Xbh h4 hx,h6,by rw[hn id h4];exact h5⟩⟩
 | .junk,_,_=>trivial
theorem CellsRel.mono(hg:GLe G G')(hn:WsD nx ν ν')(hx:nx<=am){cs:List Cell}{vs:List Value}(h:CellsRel G ν nx cs vs):CellsRel G' ν' am cs vs:=
 ⟨h.1,λj c v hc hv=>⟨CellRel.mono hg hn hx c v (h.2 j c v hc hv).1,(h.2 j c v hc hv).2⟩⟩
theorem AvRel.mono(hg:GLe G G')(hn:WsD nx ν ν')(hx:nx<=am):∀(x:AV) (v:Value),AvRel G ν nx x v->AvRel G' ν' am x v
 | .one c,v,h=>⟨CellRel.mono hg hn hx c v h.1,h.2⟩
 | .agg cs,v,⟨vs,he,h⟩=>⟨vs,he,h.mono hg hn hx⟩
theorem AValRel.mono(hg:GLe G G')(hn:WsD nx ν ν')(hx:nx<=am):∀(x:AVal) (v:Value),AValRel G ν nx x v->AValRel G' ν' am x v
 | .s x,v,h=>AvRel.mono hg hn hx x v h
 | .tup xs,v,⟨vs,he,hl,h⟩=>⟨vs,he,hl,λj x u jW hu=>AvRel.mono hg hn hx x u (h j x u jW hu)⟩
end
theorem Wje(nu:Nu):nu.hdr.oneCell'=true:=by unfold Nu.hdr;split<;>rfl
theorem WpF(nu:Nu)(lo hi:Nat):(nu.vhdr lo hi).oneCell'=true:=by unfold Nu.vhdr;split<;>rfl
section
variable{α:Type}{R R':α->List Value->List Pc->Prop}
theorem Wa4{n:Nat}(h:∀x c p,R x c p->c.length=n):∀(l:List α) (cs:List Value) (ps:List Pc),Wfh R l cs ps->cs.length=l.length*n
 | [],cs,ps,e=>by simp[e.1]
 |x::l,cs,ps,⟨c1,c2,p1,p2,he,hp,h1,h2⟩=>by
  rw[he,Xaa,h _ _ _ h1,Wa4 h l c2 p2 h2,Xr,Xbr,Xcw]
theorem WbQ{Q:Pc->Prop}(h:∀x c p,(∀q∈p,Q q)->R x c p->R' x c p):∀(l:List α) (cs:List Value) (ps:List Pc),(∀q∈ps,Q q)->Wfh R l cs ps->Wfh R' l cs ps
 | [],_,_,_,e=>e
 |_::l,_,_,hq,⟨c1,c2,p1,p2,he,hp,h1,h2⟩=>by
  subst hp;exact⟨c1,c2,p1,p2,he,rfl,h _ _ _ (λq hm=>hq q (Xn _ hm)) h1,WbQ h l c2 p2 (λq hm=>hq q (Xg _ hm)) h2⟩
theorem WdY:∀(l l':List α) (cs cI:List Value) (ps nr:List Pc),Wfh R l cs ps->Wfh R l' cI nr->Wfh R (l++l') (cs++cI) (ps++nr)
 | [],_,cs,cI,ps,nr,e,e'=>by obtain⟨rfl,rfl⟩:=e;exact e'
 |x::l,l',_,cI,_,nr,⟨c1,c2,p1,p2,he,hp,h1,h2⟩,e'=>⟨c1,c2++cI,p1,p2++nr,by simp[he],by simp[hp],h1,WdY l l' c2 cI p2 nr h2 e'⟩
theorem WkZ:∀(l l':List α) (cs:List Value) (ps:List Pc),Wfh R (l++l') cs ps->∃c1 c2 p1 p2,cs=c1++c2/\ps=p1++p2/\Wfh R l c1 p1/\Wfh R l' c2 p2
 | [],l',cs,ps,e=>⟨[],cs,[],ps,rfl,rfl,⟨rfl,rfl⟩,e⟩
 |x::l,l',cs,ps,⟨c1,c2,p1,p2,he,hp,h1,h2⟩=>by
  obtain⟨d1,d2,q1,q2,g1,g2,g3,g4⟩:=WkZ l l' c2 p2 h2;exact⟨c1++d1,d2,p1++q1,q2,by grind,by grind,⟨c1,d1,p1,q1,rfl,rfl,h1,g3⟩,g4⟩
theorem Wpy{x:α}{cs:List Value}{ps:List Pc}:Wfh R [x] cs ps↔R x cs ps:=by
 constructor
 .rintro⟨c1,c2,p1,p2,he,hp,h1,h2,h3⟩;simp_all
 .intro h;exact⟨cs,[],ps,[],by simp,by simp,h,rfl,rfl⟩
theorem WeO(l:List α)(cs:List Value)(ps:List Pc)(n:Nat)(h:Wfh R l cs ps):∃c1 c2 p1 p2,cs=c1++c2/\ps=p1++p2/\Wfh R (l.take n) c1 p1/\Wfh R (l.drop n) c2 p2:=
 WkZ _ _ _ _ (by simp_all)
theorem Wpc{l:List α}{cs:List Value}{ps:List Pc}{i:Nat}(h:Wfh R l cs ps)(d:α)(hi:i<l.length):
  ∃c1 c c2 p1 p p2,cs=c1++(c++c2)/\ps=p1++(p++p2)/\Wfh R (l.take i) c1 p1/\R (l.getD i d) c p/\Wfh R (l.drop (i+1)) c2 p2:=by
 obtain⟨c1,c',p1,p',h1,h2,h3,h4⟩:=WeO l cs ps i h;have e:l.drop i=l.getD i d::l.drop (i+1):=by
  simp_all
 rw[e]at h4;obtain⟨c,c2,p,p2,h5,h6,h7,h8⟩:=h4
 grind
theorem Wp6{l:List α}{c1 c c2:List Value}{p1 p p2:List Pc}{i:Nat}{x:α}(hi:i<l.length)(h1:Wfh R (l.take i) c1 p1)(h:R x c p)(h2:Wfh R (l.drop (i+1)) c2 p2):
  Wfh R (l.set i x) (c1++(c++c2)) (p1++(p++p2)):=by
 have e:l.set i x=l.take i++(x::l.drop (i+1)):=by
  rw[Xeg,Wf hi]
 rw[e];exact WdY _ _ _ _ _ _ h1 ⟨c,c2,p,p2,rfl,rfl,h,h2⟩
end
section
variable{G G':GH}{w w':World}
theorem WH:∀(t:Ty) (d:t.den) (vs:List Value) (ns:List Pc),Wy G w t d vs ns->vs.length=t.size
 | .own e,xs,vs,ns,⟨p,_,h,_⟩=>by rw[h];rfl
 | .prod a b,d,vs,ns,⟨v1,v2,n1,n2,h1,h2,h3,h4⟩=>by
  rw[h1,Xaa,WH a _ _ _ h3,WH b _ _ _ h4];rfl
 | .int k,d,vs,ns,h=>W5 _ _ _ h.2
 | .bool,d,vs,ns,h=>W5 _ _ _ h.2
 | .str,d,vs,ns,h=>W5 _ _ _ h.2
 | .slice e,d,vs,ns,h=>W5 _ _ _ h.2
theorem W4:∀(t:Ty) (d:t.den) (vs:List Value) (ns:List Pc),Wy G w t d vs ns->ns.length=t.owns
 | .own e,xs,vs,ns,⟨nu,h,_⟩=>by rw[h];rfl
 | .prod a b,d,vs,ns,⟨v1,v2,n1,n2,h1,h2,h3,h4⟩=>by rw[h2,Xaa,W4 a _ _ _ h3,W4 b _ _ _ h4];rfl
 | .int k,d,vs,ns,h=>by rw[h.1];rfl
 | .bool,d,vs,ns,h=>by rw[h.1];rfl
 | .str,d,vs,ns,h=>by rw[h.1];rfl
 | .slice e,d,vs,ns,h=>by rw[h.1];rfl
theorem Wa7:∀(t:Ty) (d:t.den) (vs:List Value) (ns:List Pc),t.data=true->(Wy G w t d vs ns↔Enc G t d vs/\ns= [])
 | .own e,xs,vs,ns,h=>by simp[Ty.data]at h
 | .prod a b,d,vs,ns,h=>by
  simp only[Ty.data,Xi]at h;constructor
  .rintro⟨v1,v2,n1,n2,h1,h2,h3,h4⟩;obtain⟨e1,e2⟩:=(Wa7 a _ _ _ h.1).1 h3;obtain⟨e3,e4⟩:=(Wa7 b _ _ _ h.2).1 h4;exact⟨⟨v1,v2,h1,e1,e3⟩,by simp_all⟩
  .rintro⟨⟨v1,v2,h1,h2,h3⟩,h4⟩;exact⟨v1,v2,[],[],h1,h4,(Wa7 a _ _ _ h.1).2 ⟨h2,rfl⟩,(Wa7 b _ _ _ h.2).2 ⟨h3,rfl⟩⟩
 | .int k,d,vs,ns,_=>⟨λh=>⟨h.2,h.1⟩,λh=>⟨h.2,h.1⟩⟩
 | .bool,d,vs,ns,_=>⟨λh=>⟨h.2,h.1⟩,λh=>⟨h.2,h.1⟩⟩
 | .str,d,vs,ns,_=>⟨λh=>⟨h.2,h.1⟩,λh=>⟨h.2,h.1⟩⟩
 | .slice e,d,vs,ns,_=>⟨λh=>⟨h.2,h.1⟩,λh=>⟨h.2,h.1⟩⟩
theorem WcC{e:Ty}(he:e.data=true):∀(xs:List e.den) (cs:List Value) (ps:List Pc),Wfh (Wy G w e) xs cs ps↔Wef (Enc G e) xs cs/\ps= []
 | [],cs,ps=>Iff.rfl
 |x::xs,cs,ps=>by
  constructor
  .rintro⟨c1,c2,p1,p2,h1,h2,h3,h4⟩;obtain⟨e1,e2⟩:=(Wa7 e _ _ _ he).1 h3;obtain⟨e3,e4⟩:=(WcC he xs _ _).1 h4;exact⟨⟨c1,c2,h1,e1,e3⟩,by simp_all⟩
  .rintro⟨⟨c1,c2,h1,h2,h3⟩,h4⟩;exact⟨c1,c2,[],[],h1,h4,(Wa7 e _ _ _ he).2 ⟨h2,rfl⟩,(WcC he xs _ _).2 ⟨h3,rfl⟩⟩
structure Same(S:CS)(w w':World):Prop where
 row:∀b n,Row w b n->Row w' b n
 cell:∀b o,S b o->w'.cell? ⟨b,o,none⟩=w.cell? ⟨b,o,none⟩
theorem Same.mono{S S':CS}(h:Same S w w')(hl:CS.le S' S):Same S' w w':=⟨h.row,λb o hs=>h.cell b o (hl b o hs)⟩
theorem Mem.same{S:CS}(h:Same S w w'){b o n:Nat}{cs:List Value}(hm:Mem w b o cs)(hn:cs.length<=n)(hs:CS.le (rng b o n) S):Mem w' b o cs:=λj v hj=>by
 have ac:j<cs.length:=(Xab.1 hj).1;rw[h.cell b (o+j) (hs _ _ ⟨rfl,by omega,by omega⟩)];exact hm j v hj
theorem Wif{α:Type}{R R':α->List Value->List Pc->Prop}{n:Nat}{nu:Nu}{xs:List α}{S S':CS}(hR:∀x c p,R x c p->c.length=n)(h:Same S w w')(bd:CS.le S S')
  (hm:∀x c p,(∀q∈p,CS.le q.fp S)->R x c p->R' x c p) (ho:WbN w R n nu xs S):WbN w' R' n nu xs S':=by
 obtain⟨h1,h2,h3⟩:=ho;refine⟨h1,h2,?_⟩;cases hb:nu.blk with
 |none=>simp_all
 |some b=>
  simp only[hb]at h3;obtain⟨h4,h5,h6,cs,ps,h7,h8,h9,cJ⟩:=h3;have hl:=Wa4 hR _ _ _ h7;have jX:xs.length*n<=nu.cap*n:=Xax _ h4;exact⟨h4,h5,h.row _ _ h6,cs,ps,WbQ (Q:=λq=>CS.le q.fp S) hm _ _ _ (λq hq=>cJ _ (Xf _ (Xam hq))) h7,h8.same h (n:=nu.cap*n) (by omega) (cJ _ (Xj ..)),h9,λs hs b o hh=>bd b o (cJ s hs b o hh)⟩
theorem WaE(hg:GLe G G'):∀(t:Ty) (d:t.den) (vs:List Value) (ns:List Pc),(∀p∈ns,Same p.fp w w')->Wy G w t d vs ns->Wy G' w' t d vs ns
 | .own e,xs,vs,ns,hs,⟨p,h1,h2,h3⟩=>by
  subst h1;have gr:=hs p (Xag.2 rfl);exact⟨p,rfl,h2,Wif (λx c q hx=>WH e x c q hx) gr (λ_ _ hh=>hh) (λx c q hq hx=>WaE hg e x c q (λq' kQ=>gr.mono (hq q' kQ)) hx) h3⟩
 | .prod a b,d,vs,ns,hs,⟨v1,v2,n1,n2,h1,h2,h3,h4⟩=>by
  subst h2;exact⟨v1,v2,n1,n2,h1,rfl,WaE hg a _ _ _ (λp hp=>hs p (Xn _ hp)) h3,WaE hg b _ _ _ (λp hp=>hs p (Xg _ hp)) h4⟩
 | .int k,d,vs,ns,_,h=>⟨h.1,Wba hg _ _ _ h.2⟩
 | .bool,d,vs,ns,_,h=>⟨h.1,Wba hg _ _ _ h.2⟩
 | .str,d,vs,ns,_,h=>⟨h.1,Wba hg _ _ _ h.2⟩
 | .slice e,d,vs,ns,_,h=>⟨h.1,Wba hg _ _ _ h.2⟩
theorem Same.refl(S:CS)(w:World):Same S w w:=⟨λ_ _ h=>h,λ_ _ _=>rfl⟩
theorem Wdd(hg:GLe G G'){e:Ty}{nu:Nu}{xs:List e.den}{S S':CS}(h:Same S w w')(bd:CS.le S S')(ho:WbN w (Wy G w e) e.size nu xs S):WbN w' (Wy G' w' e) e.size nu xs S':=
 Wif (λx c q hx=>WH e x c q hx) h bd (λx c q hq hx=>WaE hg e x c q (λq' kQ=>h.mono (hq q' kQ)) hx) ho
theorem Wkw(hg:GLe G G'){e:Ty}{nu np:Nu}{xs:List e.den}{i:Nat}{S S':CS}(h:Same S w w')(bd:CS.le S S')(ho:Wh4 w (Wy G w e) e.size nu np xs i S):Wh4 w' (Wy G' w' e) e.size nu np xs i S':=by
 obtain⟨h1,h2,h3,b,h4,h5,h6,h7,h8,h9,c1,c2,p1,p2,g1,g2,g3,g4,g5,g6⟩:=ho;have l1:=Wa4 (λx c q hx=>WH e x c q hx) _ _ _ g1;have l2:=Wa4 (λx c q hx=>WH e x c q hx) _ _ _ g2;rw[Xbj,Xcd (by omega)]at l1;rw[Xdw]at l2;have jX:(xs.length-(i+1))*e.size<=(nu.cap-(i+1))*e.size:=Xax _ (by omega);refine⟨h1,h2,h3,b,h4,h5,h6,h7,h8,h.row _ _ h9,c1,c2,p1,p2,?_,?_,?_,?_,g5,λs hs b o hh=>bd b o (g6 s hs b o hh)⟩
 .exact WbQ (Q:=λq=>CS.le q.fp S) (λx c q hq hx=>WaE hg e x c q (λq' kQ=>h.mono (hq q' kQ)) hx) _ _ _ (λq hq=>g6 _ (by grind)) g1
 .exact WbQ (Q:=λq=>CS.le q.fp S) (λx c q hq hx=>WaE hg e x c q (λq' kQ=>h.mono (hq q' kQ)) hx) _ _ _ (λq hq=>g6 _ (by grind)) g2
 .exact g3.same h (n:=i*e.size) (by omega) (g6 _ (Xj ..))
 .exact g4.same h (n:=(nu.cap-(i+1))*e.size) (by omega) (g6 _ (Xf _ (Xj ..)))
theorem WdN(hg:GLe G G'){ν ν':Nat->Nu}{nx am id:Nat}{S S':CS}(h:Same S w w')(bd:CS.le S S')(hn:WsD nx ν ν')(hx:nx<=am)(bM:id<nx):
  ∀(ob:Ob),WcM G ν nx w id S ob->WcM G' ν' am w' id S' ob
 | .dead,_=>trivial
 | .box cs,⟨b,vs,h1,h2,h3,h4,h5⟩=>by
  refine⟨b,vs,by rw[hn id bM];exact h1,by rw[hn id bM];exact h.row _ _ h2,by rw[hn id bM];exact h3.same h (n:=cs.length) (by rw[h4.1];omega) h5,h4.mono hg hn hx,by rw[hn id bM];exactλb o hh=>bd b o (h5 b o hh)⟩
 | .arr e xs,ho=>by
  show WbN w' (Wy G' w' e) e.size (ν' id) xs S';rw[hn id bM];exact Wdd hg h bd ho
 | .hole e xs i p,⟨hp,ho⟩=>by
  show p<am/\Wh4 w' (Wy G' w' e) e.size (ν' id) (ν' p) xs i S';rw[hn id bM,hn p hp];grind [Xbh,Wkw]
theorem Wib{ν:Nat->Nu}{nx:Nat}:∀(t:Ty) (d:t.den) (vs:List Value) (ns:List Pc),Wy G w t d vs ns->CellsRel G ν nx (split t d) vs
 | .own e,d,vs,ns,⟨p,_,h,_⟩=>by rw[h];exact CellsRel.one trivial (Wje _)
 | .prod a b,d,vs,ns,⟨v1,v2,n1,n2,h1,h2,h3,h4⟩=>by
  rw[h1];exact(Wib a _ _ _ h3).append (Wib b _ _ _ h4)
 | .int k,d,vs,ns,h=>WaM _ _ _ h.2
 | .bool,d,vs,ns,h=>WaM _ _ _ h.2
 | .str,d,vs,ns,h=>WaM _ _ _ h.2
 | .slice e,d,vs,ns,h=>WaM _ _ _ h.2
theorem WsW{A A' B B':Type}(hA:A=A')(hB:B=B')(h:(A×B)=(A'×B'))(d:A×B):cast h d=(cast hA d.1,cast hB d.2):=by
 grind
theorem Wsf{A A':Type}(hA:A=A')(h:List A=List A')(x:A)(l:List A):cast h (x::l)=cast hA x::cast h l:=by
 grind
theorem WuD{A A':Type}(hA:A=A')(h:List A=List A'):cast h ([]:List A)= []:=by
 grind
theorem WoH{A A':Type}(hA:A=A')(h:List A=List A')(l:List A):(cast h l).length=l.length:=by
 grind
theorem Wr0(a b:Ty)(d:(Ty.prod a b).den):WuX (.prod a b) d=(WuX a d.1,WuX b d.2):=WsW (Weu a).symm (Weu b).symm _ d
theorem Wq3(e:Ty)(x:e.den)(l:List e.den):WcL e (x::l)=WuX e x::WcL e l:=Wsf (Weu e).symm _ x l
theorem WnF(e:Ty):WcL e []= []:=WuD (Weu e).symm _
theorem WgE(e:Ty)(l:List e.den):(WcL e l).length=l.length:=WoH (Weu e).symm _ l
theorem WbC:∀t:Ty,t.ro.size=t.size
 | .prod a b=>by simp only[Ty.ro,Ty.size,WbC a,WbC b]
 | .own _| .slice _| .int _| .bool| .str=>rfl
theorem Woq:∀t:Ty,t.ro.data=true
 | .prod a b=>by simp only[Ty.ro,Ty.data,Woq a,Woq b];rfl
 | .own _| .slice _| .int _| .bool| .str=>rfl
def Froz(G:GH)(w:World)(S:CS):Prop:=∀b o v,S b o->w.cell? ⟨b,o,none⟩=some v->G b o=some v
theorem Froz.mono{G:GH}{S S':CS}(h:Froz G w S)(hl:CS.le S' S):Froz G w S':=λb o v hs=>h b o v (hl b o hs)
theorem Mem.stored{b o n:Nat}{cs:List Value}(hm:Mem w b o cs)(hn:cs.length<=n)(hf:Froz G w (rng b o n)):WfF G b o cs:=λj v hj=>by
 have ac:j<cs.length:=(Xab.1 hj).1;exact hf b (o+j) v ⟨rfl,by omega,by omega⟩ (hm j v hj)
theorem WlF{e:Ty}(hE:∀(x:e.den) (c:List Value) (p:List Pc),(∀q∈p,Froz G' w q.fp)->Wy G w e x c p->Enc G' e.ro (WuX e x) c):
  ∀(xs:List e.den) (cs:List Value) (ps:List Pc),(∀q∈ps,Froz G' w q.fp)->Wfh (Wy G w e) xs cs ps->Wef (Enc G' e.ro) (WcL e xs) cs
 | [],cs,ps,_,h=>by rw[WnF];exact h.1
 |x::xs,cs,ps,hf,⟨c1,c2,p1,p2,h1,h2,h3,h4⟩=>by
  subst h2;rw[Wq3];exact⟨c1,c2,h1,hE x c1 p1 (λq hq=>hf q (Xn _ hq)) h3,WlF hE xs c2 p2 (λq hq=>hf q (Xg _ hq)) h4⟩
theorem Ws6{e:Ty}(hE:∀(x:e.den) (c:List Value) (p:List Pc),(∀q∈p,Froz G' w q.fp)->Wy G w e x c p->Enc G' e.ro (WuX e x) c){nu:Nu}{xs:List e.den}{S:CS}
  (hf:Froz G' w S) (h:WbN w (Wy G w e) e.size nu xs S):WjN G' (Enc G' e.ro) (WcL e xs) nu.hdr:=by
 obtain⟨h1,h2,h3⟩:=h;unfold Nu.hdr;cases hb:nu.blk with
 |none=>simp only[hb]at h3;exact .inl ⟨rfl,by rw[h3,WnF]⟩
 |some b=>
  simp only[hb]at h3;obtain⟨h4,h5,h6,cs,ps,h7,h8,h9,cJ⟩:=h3;have hl:=Wa4 (λx c q hx=>WH e x c q hx) _ _ _ h7;have jX:xs.length*e.size<=nu.cap*e.size:=Xax _ h4;refine .inr (.inl ⟨b,nu.off,nu.cap,cs,by rw[WgE,h1],by grind [WgE],h5,WlF hE xs cs ps (λq hq=>hf.mono (cJ _ (Xf _ (Xam hq)))) h7,?_⟩);exact h8.stored (n:=nu.cap*e.size) (by omega) (hf.mono (cJ _ (Xj ..)))
theorem WdZ(hg:GLe G G'):∀(t:Ty) (d:t.den) (vs:List Value) (ns:List Pc),(∀p∈ns,Froz G' w p.fp)->Wy G w t d vs ns->Enc G' t.ro (WuX t d) vs
 | .own e,xs,vs,ns,hf,⟨p,h1,h2,h3⟩=>by
  subst h1;exact⟨_,h2,Ws6 (λx c q hq hx=>WdZ hg e x c q hq hx) (hf p (Xag.2 rfl)) h3⟩
 | .prod a b,d,vs,ns,hf,⟨v1,v2,n1,n2,h1,h2,h3,h4⟩=>by
  subst h2;rw[Wr0];exact⟨v1,v2,h1,WdZ hg a _ _ _ (λp hp=>hf p (Xn _ hp)) h3,WdZ hg b _ _ _ (λp hp=>hf p (Xg _ hp)) h4⟩
 | .int k,d,vs,ns,_,h=>Wba hg (.int k) _ _ h.2
 | .bool,d,vs,ns,_,h=>Wba hg .bool _ _ h.2
 | .str,d,vs,ns,_,h=>Wba hg .str _ _ h.2
 | .slice e,d,vs,ns,_,h=>Wba hg (.slice e) _ _ h.2
theorem Wi5(hg:GLe G G'){e:Ty}{nu:Nu}{xs:List e.den}{S:CS}(hf:Froz G' w S)(h:WbN w (Wy G w e) e.size nu xs S):WjN G' (Enc G' e.ro) (WcL e xs) nu.hdr:=
 Ws6 (λx c q hq hx=>WdZ hg e x c q hq hx) hf h
theorem WrI{b:Nat}{vs:Array Value}{T:TypeId}(h:w.heap[b]?=some (Obj.cells vs T (0,0))){o:Nat}{cs:List Value}(hc:∀j v,cs[j]?=some v->vs.toList[o+j]?=some v):Mem w b o cs:=λj v hj=>by
 grind [cell_of_row]
theorem Mem.left{b o:Nat}{c1 c2:List Value}(h:Mem w b o (c1++c2)):Mem w b o c1:=λj v hj=>h j v (by grind)
theorem Mem.right{b o n:Nat}{c1 c2:List Value}(h:Mem w b o (c1++c2))(hn:c1.length=n):Mem w b (o+n) c2:=λj v hj=>by
 have:=h (n+j) v (by grind)
 grind
theorem Mem.app{b o n:Nat}{c1 c2:List Value}(h1:Mem w b o c1)(h2:Mem w b (o+n) c2)(hn:c1.length=n):Mem w b o (c1++c2):=λj v hj=>by
 rw[Xar]at hj;split at hj
 .exact h1 j v hj
 .rename_i ac;have:=h2 (j-c1.length) v hj
  grind
theorem Wsb{e:Ty}{nu:Nu}{xs:List e.den}{S:CS}{b i:Nat}(h:WbN w (Wy G w e) e.size nu xs S)(hb:nu.blk=some b)(hi:i<xs.length):
  ∃c p,Wy G w e (xs.getD i e.dflt) c p/\Mem w b (nu.off+i*e.size) c:=by
 obtain⟨h1,h2,h3⟩:=h;simp only[hb]at h3;obtain⟨h4,h5,h6,cs,ps,h7,h8,h9,cJ⟩:=h3;obtain⟨c1,c,c2,p1,p,p2,g1,g2,g3,g4,g5⟩:=Wpc h7 e.dflt hi;refine⟨c,p,g4,?_⟩;rw[g1]at h8;have hl:=Wa4 (λx c q hx=>WH e x c q hx) _ _ _ g3;rw[Xbj,Xcd (by omega)]at hl;exact(h8.right hl).left
theorem WdP{e:Ty}(he:e.data=true){nu:Nu}{xs:List e.den}{S:CS}{b:Nat}(h:WbN w (Wy G w e) e.size nu xs S)(hb:nu.blk=some b):
  xs.length=nu.len/\xs.length<=nu.cap/\nu.cap<=maxLen/\Row w b (nu.off+nu.cap*e.size)/\∃cs,Wef (Enc G e) xs cs/\Mem w b nu.off cs/\CS.le (rng b nu.off (nu.cap*e.size)) S:=by
 obtain⟨h1,h2,h3⟩:=h
 grind [WcC,Xj]
theorem WmH{e:Ty}(he:e.data=true){nu:Nu}{xs:List e.den}{S:CS}{b:Nat}{cs:List Value}(hb:nu.blk=some b)(h1:xs.length=nu.len)(h2:nu.esz=e.size)(h4:xs.length<=nu.cap)(h5:nu.cap<=maxLen)
  (h6:Row w b (nu.off+nu.cap*e.size)) (h7:Wef (Enc G e) xs cs) (h8:Mem w b nu.off cs) (h9:CS.le (rng b nu.off (nu.cap*e.size)) S):WbN w (Wy G w e) e.size nu xs S:=by
 refine⟨h1,h2,?_⟩;simp only[hb];exact⟨h4,h5,h6,cs,[],(WcC he xs cs []).2 ⟨h7,rfl⟩,h8,Xy.2 ⟨by simp,List.Pairwise.nil⟩,λs hs=>by simp_all⟩
theorem Wcr{e:Ty}{nu:Nu}{xs:List e.den}{S:CS}(h:WbN w (Wy G w e) e.size nu xs S)(hb:nu.blk=none):xs= []:=by
 obtain⟨h1,h2,h3⟩:=h;simp_all
end
end Go.Sx
namespace Go.Sx
set_option linter.unusedVariables false
set_option linter.unusedSimpArgs false
def WbD:Ty->List Value
 | .prod a b=>WbD a++WbD b
 | .int k=>[.int k 0]
 | .bool=>[.bool false]
 | .str=>[.string ⟨#[]⟩]
 | .slice _=>[.slice none 0 0]
 | .own _=>[.pointer none]
def rep{α:Type}(l:List α):Nat->List α
 |0=>[]
 |n+1=>l++rep l n
def TE.cells(te:TE):List Value:=match te.shape with
 | .arr n _=>rep (WbD te.ty) n
 |_=>WbD te.ty
def TE.size(te:TE):Nat:=match te.shape with
 | .arr n _=>n*te.ty.size
 |_=>te.ty.size
structure TEok(P:Program)(T:Tab)(t:TypeId)(te:TE):Prop where
 und:match te.shape with
  | .basic=>te.agg=false/\(match te.ty with
   | .int k=>P.underlying t=some (.int k)
   | .bool=>P.underlying t=some .bool
   | .str=>P.underlying t=some .string
   |_=>False)
  | .slice e=>te.agg=false/\P.underlying t=some (.slice e)/\∃dW,Wn T e=some dW/\te.ty= .slice dW.ty
  | .struct fs=>te.agg=true/\∃fields:Array Field,P.underlying t=some (.struct fields)/\fields.toList.map (λf=>(f.offset,f.type))=fs/\
    (∀f∈fields,f.name≠ "_")∧P.stoodInHeld t=false∧P.eqGuardType P.depth t=false
  | .ptr e=>te.agg=false/\P.underlying t=some (.pointer e)
  | .arr n e=>te.agg=true/\P.underlying t=some (.array n e)/\∃dW,Wn T e=some dW/\dW.ty=te.ty/\∀m f,dW.shape≠ .arr m f
 info:∃i z,P.info? t=some i/\i.size=te.size/\i.zero=some z/\z.cells.toList=te.cells/\i.bytes<=4096
def Wai(P:Program)(T:Tab):Prop:=∀t te,Wn T t=some te->TEok P T t te
theorem WbW:∀t:Ty,0<t.size
 | .prod a b=>by have:=WbW a;simp[Ty.size];omega
 | .int _| .bool| .str| .slice _| .own _=>by simp[Ty.size]
section
variable{P:Program}{T:Tab}{w:World}
theorem Wl{t:TypeId}{d:TypeDesc}(h:P.underlying t=some d):(underlying t).run P w= .ok d w:=by
 simp[underlying,h]
theorem WhF{t:TypeId}{i:TypeInfo}(h:P.info? t=some i):(typeInfo t).run P w= .ok i w:=by
 simp[typeInfo,h]
theorem Wrb{t:TypeId}{i:TypeInfo}(h:P.info? t=some i):(sizeOf t).run P w= .ok i.size w:=by
 simp[sizeOf,WhF h]
theorem TEok.sizeOf{t:TypeId}{te:TE}(h:TEok P T t te):(sizeOf t).run P w= .ok te.size w:=by
 obtain⟨i,z,hi,hs,_⟩:=h.info;rw[Wrb hi,hs]
theorem TEok.isAgg{t:TypeId}{te:TE}(h:TEok P T t te):(isAgg t).run P w= .ok te.agg w:=by
 have hu:=h.und;obtain⟨ty,agg,shape⟩:=te;cases shape with
 |basic=>
  obtain⟨ha,hu⟩:=hu;cases ty<;>simp only at hu<;>first|exact hu.elim|simp_all [Go.isAgg,Wl]
 |slice e=>simp_all [Go.isAgg,Wl]
 |struct fs=>obtain⟨ha,f,hu,_⟩:=hu;simp_all [Go.isAgg,Wl]
 |ptr e=>simp_all [Go.isAgg,Wl]
 |arr n e=>simp_all [Go.isAgg,Wl]
end
theorem Wa5(b o j:Nat):(⟨b,o,none⟩:Addr).add j=⟨b,o+j,none⟩:=by
 simp[Addr.add]
section
variable{P:Program}{T:Tab}{w:World}{G:GH}{ν:Nat->Nu}{objs:Wab}{nx:Nat}
theorem WY{te:TE}(h:te.plain=true):te.size=te.ty.size:=by
 unfold TE.plain at h;unfold TE.size;split at h<;>simp_all
theorem Whn{t:TypeId}{te:TE}(bQ:TEok P T t te)(eU:te.plain=true){b o off:Nat}{cs:List Cell}{us:List Value}{x:AVal}
  (hc:CellsRel G ν nx cs us) (hm:∀(j:Nat) (v:Value),us[j]?=some v->w.cell? ⟨b,o+j,none⟩=some v)
  (hs:sub te.agg cs off te.ty.size=some x):
  ∃v,(loadVar t ⟨b,o+off,none⟩).run P w= .ok v w/\AValRel G ν nx x v:=by
 have cj:te.size=te.ty.size:=WY eU;unfold sub at hs;simp only[loadVar,Sem.run_bind,bQ.isAgg,Result.andThen_ok];cases ha:te.agg with
 |true=>
  simp only[ha,W8]at hs⊢;split at hs
  .rename_i bd;injection hs with hs;subst hs;have ad:((us.drop off).take te.ty.size).length=te.ty.size:=by simp[hc.1];omega
   have hr:=run_loadCells_list (P:=P) w ⟨b,o+off,none⟩ ((us.drop off).take te.ty.size) (λj v hj=>by
    grind [Wa5,Xba])
   rw[ad]at hr;refine⟨.agg ((us.drop off).take te.ty.size).toArray,?_,_,rfl,(hc.drop off).take _⟩;simp[bQ.sizeOf,cj,hr]
  grind
 |false=>
  simp only[ha]at hs⊢;cases bN:cs[off]? with
  |none=>simp_all
  |some c=>
   simp[bN]at hs;subst hs;have ac:off<us.length:=by rw[hc.1];grind
   have hu:us[off]?=some us[off]:=Xq ac;refine⟨us[off],?_,hc.2 off c _ bN hu⟩;simp_all
end
section
variable{w0:World}{F:CS}{nt:Slots}{G0 G:GH}{ν:Nat->Nu}{st:St}{a:Act}{w:World}{P:Program}{T:Tab}
theorem WsC{G:GH}:∀(t:Ty) (d:t.den) (v:Value),Enc G t d [v]->v.oneCell'=true
 | .int _,_,_,h=>by grind [Enc,Value.oneCell']
 | .bool,_,_,h=>by grind [Enc,Value.oneCell']
 | .str,_,_,h=>by grind [Enc,Value.oneCell']
 | .slice _,_,_,h=>by
  obtain⟨v,hv,hr⟩:=h;simp at hv;subst hv;rcases hr with⟨rfl,_⟩|⟨_,_,_,_,rfl,_⟩|⟨_,_,rfl,_⟩<;>rfl
 | .own _,_,_,h=>h.elim
 | .prod a b,d,v,h=>by
  have:=W5 _ _ _ h
  grind [WbW,Ty.size]
theorem WN{t:Ty}{d:t.den}{v:Value}(h:Enc G t d [v]):AValRel G ν st.nx (one t d) v:=
 ⟨h,WsC t d v h⟩
theorem Wgq:∀(v:Value) (c:Cell),Wan v=some c->CellRel G ν st.nx c v/\v.oneCell'=true
 | .int k n,c,h=>by simp[Wan]at h;subst h;exact⟨rfl,rfl⟩
 | .bool b,c,h=>by simp[Wan]at h;subst h;exact⟨rfl,rfl⟩
 | .string s,c,h=>by simp[Wan]at h;subst h;exact⟨by simp[CellRel,Enc],rfl⟩
 | .slice none 0 0,c,h=>by simp[Wan]at h;subst h;exact⟨rfl,rfl⟩
 | .slice none 0 (n+1),c,h=>by simp[Wan]at h
 | .slice none (n+1) _,c,h=>by simp[Wan]at h
 | .slice (some _) _ _,c,h=>by simp[Wan]at h
 | .pointer none,c,h=>by simp[Wan]at h;subst h;exact⟨trivial,rfl⟩
 | .nilFunc,c,h=>by simp[Wan]at h;subst h;exact⟨trivial,rfl⟩
 | .float _ _,_,h| .complex _ _ _,_,h| .pointer (some _),_,h| .map _,_,h| .chan _,_,h| .func _ _ _,_,h| .iface _ _,_,h| .nilIface,_,h| .agg _,_,h| .tuple _,_,h=>by simp[Wan]at h
theorem Wps:∀(vs:List Value) (cs:List Cell),vs.mapM Wan=some cs->CellsRel G ν st.nx cs vs
 | [],cs,h=>by grind [CellsRel.nil]
 |v::vs,cs,h=>by
  simp only[Xey,Option.bind_eq_bind,Option.bind_eq_some_iff]at h;obtain⟨c,hc,ds,hd,he⟩:=h;simp at he;subst he;obtain⟨h1,h2⟩:=Wgq (G:=G) (ν:=ν) (st:=st) v c hc;exact(CellsRel.one h1 h2).append (Wps vs ds hd)
theorem WK(h:Rel w0 F nt G0 G ν st a w):∀(x:Operand) (av:AVal),ev st x=some av->AValRel G ν st.nx av (a.eval x)
 | .tmp t,av,he=>by
  obtain⟨v,hv,hr⟩:=h.env t av he;simpa [Act.eval,hv]using hr
 | .const v,av,he=>by
  simp only[ev,Wsy]at he;split at he
  .rename_i cs;cases hm:cs.toList.mapM Wan with
   |none=>simp[hm]at he
   |some l=>
    simp[hm]at he;subst he;exact⟨cs.toList,by simp[Act.eval],Wps _ _ hm⟩
  .cases hm:Wan v with
   |none=>simp[hm]at he
   |some c=>
    simp[hm]at he;subst he;obtain⟨h1,h2⟩:=Wgq (G:=G) (ν:=ν) (st:=st) v c hm;exact⟨h1,h2⟩
 | .func f,av,he=>by
  simp[ev]at he;subst he;exact⟨⟨[],rfl,rfl,λj id u hj=>by simp at hj⟩,rfl⟩
 | .global g,av,he=>by simp[ev]at he
theorem Wf1(av:AVal)(v:Value)(n:Int)(h:AValRel G ν st.nx av v)(he:asI av=some n):∃k,v= .int k n:=by
 unfold asI at he;split at he
 .rename_i k m;injection he with he;subst he;obtain⟨h1,_⟩:=h;simp[CellRel,Enc]at h1;exact⟨k,h1⟩
 .simp at he
theorem WoG(av:AVal)(v:Value)(b:Bool)(h:AValRel G ν st.nx av v)(he:asB av=some b):v= .bool b:=by
 unfold asB at he;split at he
 .injection he with he;subst he;obtain⟨h1,_⟩:=h;simpa [CellRel,Enc]using h1
 .simp at he
def Gives(P:Program)(G:GH)(ν:Nat->Nu)(st:St)(w:World)(s:Sem Value)(r:AVal):Prop:=∃v,s.run P w= .ok v w/\AValRel G ν st.nx r v
theorem Gives.one{s:Sem Value}{t:Ty}{d:t.den}{v:Value}(hr:s.run P w= .ok v w)(h:Enc G t d [v]):Gives P G ν st w s (Sx.one t d):=⟨v,hr,WN h⟩
theorem Wq7{op:BinOp}{k:IntKind}{x y:Int}{r:AVal}(t:TypeId)(hs:op≠ .shl)(c9:op≠ .shr)(h:Wxk op k x y=some (true,r)):
  Gives P G ν st w (Go.binOp op t (.int k x) (.int k y)) r:=by
 cases op<;>simp[Wxk,inz]at h<;>first
  |exact WD rfl hs
  |exact WD rfl c9
  |(subst h;exact⟨_,by simp only[Go.binOp,ne_eq,not_true_eq_false,Wat,↓reduceIte,Op.intArith,Op.intBits,Op.intCmp]<;>rfl,WN rfl⟩)
  |(obtain⟨hz,rfl⟩:=h;exact⟨_,by simp[Go.binOp,Op.intDiv,hz,WpH,Wdj]<;>rfl,WN rfl⟩)
theorem Wjs{op:BinOp}{k yk:IntKind}{x y:Int}{r:AVal}(t:TypeId)(h:(op= .shl/\(true,r)=(inn y,Sx.one (.int k) (Wxu k x y)))\/(op= .shr/\(true,r)=(inn y,Sx.one (.int k) (Wxo k x y)))):
  Gives P G ν st w (Go.binOp op t (.int k x) (.int yk y)) r:=by
 rcases h with⟨rfl,h⟩|⟨rfl,h⟩<;>simp[inn]at h<;>obtain⟨hn,rfl⟩:=h
 .exact⟨_,by simp[Go.binOp,Op.shift,Int.not_lt.2 hn,Wxu]<;>rfl,WN rfl⟩
 .exact⟨_,by simp[Go.binOp,Op.shift,Int.not_lt.2 hn,Wxo]<;>rfl,WN rfl⟩
theorem Wqo{op:BinOp}{x y:List UInt8}{r:AVal}(t:TypeId)(h:Wxp op x y=some (true,r)):
  Gives P G ν st w (Go.binOp op t (.string ⟨x.toArray⟩) (.string ⟨y.toArray⟩)) r:=by
 cases op<;>simp[Wxp]at h
 .obtain⟨hf,rfl⟩:=h;simp[WxC]at hf;refine⟨.string ⟨(x++y).toArray⟩,?_,WN rfl⟩;have e:(ByteArray.mk x.toArray++ByteArray.mk y.toArray)=⟨(x++y).toArray⟩:=by
   apply ByteArray.ext;simp
  have cj:¬((((ByteArray.mk x.toArray).size+(ByteArray.mk y.toArray).size:Nat):Int)>IntKind.i64.max):=by
   have hm:IntKind.i64.max=9223372036854775807:=by decide
   simp only[ByteArray.size,List.size_toArray,hm];omega
  simp only[Go.binOp,Op.stringOp,Wc cj,e];rfl
 .subst h;exact⟨_,by simp[Go.binOp,Op.stringOp]<;>rfl,WN rfl⟩
 .subst h;exact⟨_,by simp[Go.binOp,Op.stringOp]<;>rfl,WN rfl⟩
theorem WwP(x y:List UInt8):((ByteArray.mk x.toArray).toList==(ByteArray.mk y.toArray).toList)=seq x y:=by simp[seq]
theorem Wmo{te:TE}{c d:Cell}{b:Bool}{u v:Value}{t:TypeId}(bQ:TEok P T t te)(hc:CellRel G ν st.nx c u)(hd:CellRel G ν st.nx d v)
  (h:Wmv te c d=some b) (n:Nat):(Op.equalIn (n+1) t u v).run P w= .ok b w/\te.agg=false:=by
 have hu:=bQ.und;unfold Wmv at h;split at h
 .split at h
  .rename_i hk;subst hk;injection h with h;subst h;simp only[CellRel,Enc,List.cons.injEq,and_true]at hc hd;subst hc hd;exact⟨run_equalIn_int w n t _ _ _ _ hu.2,rfl⟩
  .simp at h
 .injection h with h;subst h;simp only[CellRel,Enc,List.cons.injEq,and_true]at hc hd;subst hc hd;exact⟨run_equalIn_bool' w n t _ _ hu.2,rfl⟩
 .injection h with h;subst h;simp only[CellRel,Enc,List.cons.injEq,and_true]at hc hd;subst hc hd;exact⟨(run_equalIn_string w n t _ _ hu.2).trans (Wm (Result.ok · w) (WwP _ _)),rfl⟩
 .simp at h
theorem WpE{t:TypeId}{te:TE}(bQ:TEok P T t te)(ha:te.agg=false)(cs:Array Value)(off:Nat)(v:Value)(h:cs[off]?=some v):(part t cs off).run P w= .ok v w:=by
 simp only[part,Sem.run_bind,bQ.isAgg,Result.andThen_ok,ha];simp[h]
theorem Wfw(hT:Wai P T)(n:Nat)(xs ys:Array Value):∀(fields:List Field) (k:Nat) (cs ds:List Cell) (b:Bool),
  (∀f∈fields,f.name≠ "_")→fields.map (·.offset)=List.range' k fields.length→
  (∀(j:Nat) (c:Cell),cs[j]?=some c->∃v,xs[k+j]?=some v/\CellRel G ν st.nx c v)->
  (∀(j:Nat) (c:Cell),ds[j]?=some c->∃v,ys[k+j]?=some v/\CellRel G ν st.nx c v)->
  Wc9 T (fields.map (·.type)) cs ds=some b->(Op.eqFields (n+1) xs ys fields).run P w= .ok b w
 | [],k,[],[],b,_,_,_,_,h=>by simp[Wc9]at h;subst h;rfl
 |f::fs,k,c::cs,d::ds,b,hn,ho,hx,hy,h=>by
  simp only[Xaf,Wc9]at h;cases hl:Wn T f.type with
  |none=>simp[hl]at h
  |some te=>
   simp only[hl]at h;cases h1:Wmv te c d with
   |none=>simp[h1]at h
   |some p=>
    cases h2:Wc9 T (fs.map (·.type)) cs ds with
    |none=>simp[h1,h2]at h
    |some q=>
     simp[h1,h2]at h;subst h;obtain⟨u,hu,vF⟩:=hx 0 c rfl;obtain⟨v,hv,vG⟩:=hy 0 d rfl;obtain⟨he,ha⟩:=Wmo (w:=w) (hT _ _ hl) vF vG h1 n;simp only[Xaf,Xr,List.range'_succ,List.cons.injEq]at ho;have ih:=Wfw hT n xs ys fs (k+1) cs ds q (λf hf=>hn f (Xf _ hf)) ho.2
      (λj c hj=>by have:=hx (j+1) c (by simpa using hj);rwa [Xba,Xcw 1 j])
      (λj c hj=>by have:=hy (j+1) c (by simpa using hj);rwa [Xba,Xcw 1 j]) h2
     simp only[Op.eqFields,Wf (hn f (Xj ..)),Sem.run_bind,ho.1];rw[Xbe]at hu hv;rw[WpE (hT _ _ hl) ha xs k u hu,Result.andThen_ok,WpE (hT _ _ hl) ha ys k v hv,Result.andThen_ok,he,Result.andThen_ok];cases p
     .simp
     .simpa using ih
 | [],_,_::_,_,_,_,_,_,_,h=>by simp[Wc9]at h
 | [],_,[],_::_,_,_,_,_,_,h=>by simp[Wc9]at h
 |_::_,_,[],_,_,_,_,_,_,h=>by simp[Wc9]at h
 |_::_,_,_::_,[],_,_,_,_,_,h=>by simp[Wc9]at h
theorem Wb1{op:BinOp}{t:TypeId}{x y:Operand}{u v:Value}(hu:∀cs,u≠ .agg cs)(hn:u≠ .nilIface):(eqGuard op t x y u v).run P w= .ok () w:=by
 unfold eqGuard;cases op<;>simp<;>cases u<;>cases v<;>first|rfl|exact WD rfl hn|exact WD rfl (hu _)
theorem Wo1(hT:Wai P T){op:BinOp}{t:TypeId}{x y:AVal}{u v:Value}{r:AVal}(ox oy:Operand)(hx:AValRel G ν st.nx x u)(hy:AValRel G ν st.nx y v)
  (h:Sx.binOp T op t x y=some (true,r)):Gives P G ν st w (do eqGuard op t ox oy u v;Go.binOp op t u v) r:=by
 unfold Sx.binOp at h;split at h
 .rename_i k m k' m';obtain⟨hx,_⟩:=hx;obtain⟨hy,_⟩:=hy;simp only[CellRel,Enc,List.cons.injEq,and_true]at hx hy;subst hx hy;have hg:(eqGuard op t ox oy (.int k m) (.int k' m')).run P w= .ok () w:=Wb1 (by simp) (by simp)
  suffices hh:Gives P G ν st w (Go.binOp op t (.int k m) (.int k' m')) r by
   obtain⟨z,h1,h2⟩:=hh;exact⟨z,by simp[hg,h1],h2⟩
  split at h
  .injection h with h;exact Wjs t (.inl ⟨rfl,h.symm⟩)
  .injection h with h;exact Wjs t (.inr ⟨rfl,h.symm⟩)
  .split at h
   .rename_i hk;subst hk;exact Wq7 t (by assumption) (by assumption) h
   .simp at h
 .rename_i m m';obtain⟨hx,_⟩:=hx;obtain⟨hy,_⟩:=hy;simp only[CellRel,Enc,List.cons.injEq,and_true]at hx hy;subst hx hy;obtain⟨z,h1,h2⟩:=Wqo (w:=w) (P:=P) (G:=G) (ν:=ν) (st:=st) t h;exact⟨z,by simp[Wb1,h1],h2⟩
 .rename_i m m';obtain⟨hx,_⟩:=hx;obtain⟨hy,_⟩:=hy;simp only[CellRel,Enc,List.cons.injEq,and_true]at hx hy;subst hx hy;split at h
  .rename_i hl;have hu:=(hT _ _ hl).und;simp only[true_and]at hu;have key:(Op.equalIn 10000 t (.bool m) (.bool m')).run P w= .ok (beq m m') w:=run_equalIn_bool' w 9999 t m m' hu;split at h<;>simp at h
   .subst h;exact⟨.bool (beq m m'),by simp[Wb1,Go.binOp,Op.equal,Op.maxDepth,key],WN rfl⟩
   .subst h;exact⟨.bool (!beq m m'),by simp[Wb1,Go.binOp,Op.equal,Op.maxDepth,key],WN rfl⟩
  .simp at h
 .rename_i cs ds;obtain⟨us,rfl,bN⟩:=hx;obtain⟨vs,rfl,gR⟩:=hy;split at h
  .rename_i fs hl;obtain⟨_,fields,hu,eY,vH,bt,tR⟩:=(hT _ _ hl).und;split at h
   .rename_i hr;have hr:=WaT hr;have nv:P.fieldsOf t=fields:=by simp[Program.fieldsOf,hu]
    have key:∀b,Wc9 T (fs.map (·.2)) cs ds=some b->(Op.equalIn 10000 t (.agg us.toArray) (.agg vs.toArray)).run P w= .ok b w:=λb hb=>by
     rw[run_equalIn_struct w 9999 t _ _ (by rw[nv];exact hu) bt,nv];refine Wfw (G:=G) (ν:=ν) (st:=st) hT 9998 us.toArray vs.toArray fields.toList 0 cs ds b (λf hf=>vH f (by simpa using hf)) ?_ ?_ ?_ ?_
     .rw[←eY]at hr;simpa [List.range_eq_range',Function.comp_def]using hr
     .intro j c hj;have ac:j<us.length:=by rw[bN.1];exact(Xab.1 hj).1
      exact⟨us[j],by simp[ac],(bN.2 j c _ hj (Xq ac)).1⟩
     .intro j c hj;have ac:j<vs.length:=by rw[gR.1];exact(Xab.1 hj).1
      exact⟨vs[j],by simp[ac],(gR.2 j c _ hj (Xq ac)).1⟩
     .rw[←eY]at hb;simpa [Function.comp_def]using hb
    split at h
    .rename_i b hb;simp at h;subst h;exact⟨.bool b,by simp[run_eqGuard_agg w _ t ox oy _ _ tR,run_eql_struct,key b hb],WN rfl⟩
    .rename_i b hb;simp at h;subst h;exact⟨.bool (!b),by simp[run_eqGuard_agg w _ t ox oy _ _ tR,run_neq_struct,key b hb],WN rfl⟩
    .simp at h
   .simp at h
  .simp at h
 .simp at h
end
end Go.Sx
namespace Go.Sx
set_option linter.unusedVariables false
set_option linter.unusedSimpArgs false
section
variable{w0:World}{F:CS}{nt:Slots}{G0 G:GH}{ν:Nat->Nu}{st:St}{a:Act}{w:World}{P:Program}{T:Tab}
theorem HRel.g{objs:Wab}{nx:Nat}(h:HRel w0 F G ν objs nx w){b o:Nat}{v:Value}(hg:G b o=some v):w.cell? ⟨b,o,none⟩=some v:=by
 obtain⟨φ,h⟩:=h;exact h.g b o v hg
theorem HRel.obj{objs:Wab}{nx:Nat}(h:HRel w0 F G ν objs nx w){id:Nat}{ob:Ob}(ho:Wn objs id=some ob):∃S,WcM G ν nx w id S ob:=by
 obtain⟨φ,h⟩:=h;exact⟨φ id,h.ob id ob ho⟩
theorem WgW{k:IntKind}{n:Int}{v:Value}(h:AValRel G ν st.nx (.s (.one (.val (.int k) n))) v):v= .int k n:=by
 obtain⟨h,_⟩:=h
 grind [CellRel,Enc]
theorem WlU{n:Bool}{v:Value}(h:AValRel G ν st.nx (.s (.one (.val .bool n))) v):v= .bool n:=by
 obtain⟨h,_⟩:=h
 grind [CellRel,Enc]
theorem Wld{s:List UInt8}{v:Value}(h:AValRel G ν st.nx (.s (.one (.val .str s))) v):v= .string ⟨s.toArray⟩:=by
 obtain⟨h,_⟩:=h
 grind [CellRel,Enc]
theorem Wqi{op:UnOp}{x:AVal}{u:Value}{r:AVal}(hx:AValRel G ν st.nx x u)(h:Sx.unOp op x=some (true,r)):Gives P G ν st w (Op.unary op u) r:=by
 unfold Sx.unOp at h;split at h
 .have:=WlU hx;subst this;simp at h;subst h;exact⟨_,rfl,WN rfl⟩
 .have:=WgW hx;subst this;simp at h;subst h;exact⟨_,rfl,WN rfl⟩
 grind
theorem Wvc{id:Nat}{e:Ty}{xs:List e.den}{nx:Nat}{S:CS}(h:WcM G ν nx w id S (.arr e xs)):∃a c,(ν id).hdr= .slice a xs.length c:=by
 obtain⟨ad,_,aG⟩:=h;unfold Nu.hdr;cases hb:(ν id).blk with
 |none=>simp_all
 |some b=>simp_all
theorem WuC{id:Nat}{e:Ty}{xs:List e.den}{i p nx:Nat}{S:CS}(h:WcM G ν nx w id S (.hole e xs i p)):∃a c,(ν id).hdr= .slice a xs.length c:=by
 obtain⟨_,ad,_,_,b,hb,_⟩:=h;unfold Nu.hdr;simp_all
theorem WvJ{t ty:TypeId}(hu:P.underlying t=some .string)(s:List UInt8):(Builtin.len_ #[t] ty #[.string ⟨s.toArray⟩]).run P w= .ok (.int .i64 (Wg s)) w:=by
 have h1:(Builtin.len_ #[t] ty #[.string ⟨s.toArray⟩]).run P w= .ok (goInt (ByteArray.mk s.toArray).size) w:=by
  simp_all [Builtin.len_,Wl]
 rw[h1];rfl
theorem WoO(hT:Wai P T)(hh:HRel w0 F G ν st.objs st.nx w){t ty:TypeId}{x:AVal}{u:Value}{r:AVal}(hx:AValRel G ν st.nx x u)(h:Wka T st t x=some (true,r)):
  Gives P G ν st w (Builtin.len_ #[t] ty #[u]) r:=by
 unfold Wka at h;split at h
 .rename_i te e l _ hl;simp at h;subst h;have hu:=(hT _ _ hl).und.2.1;obtain⟨⟨v,hv,hr⟩,_⟩:=hx;simp at hv;subst hv;rcases hr with⟨rfl,dH⟩|⟨b,off,cap,cs,rfl,_⟩|⟨a,cap,rfl,dH⟩
  rotate_left 2
  .exact⟨_,by simp[Builtin.len_,Wl hu]<;>rfl,WN (by rw[dH];rfl)⟩
  .exact⟨_,by simp[Builtin.len_,Wl hu]<;>rfl,WN (by rw[dH];rfl)⟩
  .exact⟨_,by simp[Builtin.len_,Wl hu]<;>rfl,WN rfl⟩
 .rename_i te e _ hl;simp at h;subst h;have hu:=(hT _ _ hl).und.2.1;obtain⟨hv,_⟩:=hx;simp only[CellRel]at hv;subst hv;exact⟨_,by simp[Builtin.len_,Wl hu]<;>rfl,WN rfl⟩
 .rename_i te e id hl;have hu:=(hT _ _ hl).und.2.1;obtain⟨⟨_,hv⟩,_⟩:=hx;subst hv;unfold obL at h;split at h
  .rename_i e' xs ho;simp at h;subst h;obtain⟨S,aG⟩:=hh.obj ho;obtain⟨a,c,hd⟩:=Wvc aG;rw[hd];exact⟨.int .i64 (Wg xs),by simp[Builtin.len_,Wl hu]<;>rfl,WN rfl⟩
  .rename_i e' xs i p ho;simp at h;subst h;obtain⟨S,aG⟩:=hh.obj ho;obtain⟨a,c,hd⟩:=WuC aG;rw[hd];exact⟨.int .i64 (Wg xs),by simp[Builtin.len_,Wl hu]<;>rfl,WN rfl⟩
  grind
 .rename_i te e id lo hi hl;simp only[Option.some.injEq,Prod.mk.injEq,true_and]at h;subst h;have hu:=(hT _ _ hl).und.2.1;obtain⟨⟨_,h1,h2,h3,hv⟩,_⟩:=hx;subst hv;unfold Nu.vhdr;cases hb:(ν id).blk with
  |none=>
   have h0:=h3 hb;have e0:hi-lo=0:=by omega
   rw[e0];exact⟨_,by simp[Builtin.len_,Wl hu]<;>rfl,WN rfl⟩
  |some b=>exact⟨.int .i64 ((hi-lo:Nat):Int),by simp[Builtin.len_,Wl hu]<;>rfl,WN rfl⟩
 .rename_i s hl;simp at h;subst h;have hu:=(hT _ _ hl).und.2;have:=Wld hx;subst this;exact⟨.int .i64 (Wg (α:=UInt8) s),WvJ hu s,WN rfl⟩
 grind
theorem Wei(hT:Wai P T){t:TypeId}{f off:Nat}{te:TE}(h:WgP T t f=some (off,te)):
  ∃(fields:Array Field) (fd:Field),P.underlying t=some (.struct fields)/\fields[f]?=some fd/\fd.offset=off/\TEok P T fd.type te/\te.plain=true:=by
 unfold WgP at h;split at h
 .rename_i fs hl;obtain⟨_,fields,hu,eY,_⟩:=(hT _ _ hl).und;split at h
  .rename_i o ft hf;split at h
   .rename_i dW dH;split at h
    .rename_i hp;injection h with h;injection h with h1 h2;subst h1 h2;rw[←eY]at hf;simp only[Xaj,Array.getElem?_toList]at hf;cases iB:fields[f]? with
     |none=>simp_all
     |some fd=>
      simp[iB]at hf;obtain⟨h1,h2⟩:=hf;subst h1 h2;exact⟨fields,fd,hu,iB,rfl,hT _ _ dH,hp⟩
    grind
   grind
  grind
 grind
theorem WfT{t:TypeId}{f off:Nat}{te:TE}{b o:Nat}{fields:Array Field}{fd:Field}(hu:P.underlying t=some (.struct fields))(hf:fields[f]?=some fd)(ho:fd.offset=off)
  (bQ:TEok P T fd.type te) (hp:te.plain=true):(Instr.fieldAt t (.pointer (some ⟨b,o,none⟩)) f).run P w= .ok (.pointer (some ⟨b,o+off,none⟩)) w:=by
 have cj:te.size≠0:=by grind [WY,WbW]
 simp[Instr.fieldAt,Wl hu,hf,Instr.sureAddr,fieldPlace,bQ.sizeOf,cj,Wa5,ho]
theorem Wg3(hT:Wai P T)(hh:HRel w0 F G ν st.objs st.nx w){t:TypeId}{f:Nat}{x:AVal}{u:Value}{r:AVal}(hx:AValRel G ν st.nx x u)(h:Wcb T st t x f=some (true,r)):
  Gives P G ν st w (Instr.fieldAt t u f) r:=by
 unfold Wcb at h;split at h
 .rename_i off te id o hf;obtain⟨fields,fd,hu,iB,ho,bQ,hp⟩:=Wei hT hf;split at h
  .simp at h;subst h;obtain⟨⟨h1,b,hb,rfl⟩,_⟩:=hx;exact⟨_,WfT hu iB ho bQ hp,⟨h1,b,hb,by rw[Xba]⟩,rfl⟩
  grind
 .rename_i off te id i o hf;obtain⟨fields,fd,hu,iB,ho,bQ,hp⟩:=Wei hT hf;split at h
  .simp at h;subst h;obtain⟨⟨h1,h2,b,hb,rfl⟩,_⟩:=hx;exact⟨_,WfT hu iB ho bQ hp,⟨h1,h2,b,hb,by rw[Xba,Xba]⟩,rfl⟩
  grind
 .rename_i off te t' d o hf;obtain⟨fields,fd,hu,iB,ho,bQ,hp⟩:=Wei hT hf;simp at h;subst h;obtain⟨⟨b,o',cs,rfl,h1,h2⟩,_⟩:=hx;exact⟨_,WfT hu iB ho bQ hp,⟨b,o',cs,by rw[Xba],h1,h2⟩,rfl⟩
 grind
theorem Wls(hT:Wai P T){t:TypeId}{f:Nat}{x:AVal}{u:Value}{r:AVal}(hx:AValRel G ν st.nx x u)(h:Wos T t x f=some (true,r)):
  Gives P G ν st w (Instr.field t u f) r:=by
 unfold Wos at h;split at h
 .rename_i off te cs hf;obtain⟨fields,fd,hu,iB,ho,bQ,hp⟩:=Wei hT hf;obtain⟨us,rfl,bN⟩:=hx;cases hs:sub te.agg cs off te.ty.size with
  |none=>simp_all
  |some y=>
   simp[hs]at h;subst h;unfold sub at hs;simp only[Gives,Instr.field,Sem.run_bind,Wl hu,Result.andThen_ok,iB,asAgg,Sem.run_pure,part,bQ.isAgg];cases ha:te.agg with
   |true=>
    simp only[ha,W8]at hs⊢;split at hs
    .rename_i bd;injection hs with hs;subst hs;refine⟨.agg ((us.drop off).take te.ty.size).toArray,?_,_,rfl,(bN.drop off).take _⟩;simp[bQ.sizeOf,WY hp,ho]
    grind
   |false=>
    simp only[ha]at hs⊢;cases hc:cs[off]? with
    |none=>simp_all
    |some c=>
     simp[hc]at hs;subst hs;have ac:off<us.length:=by rw[bN.1];grind
     refine⟨us[off],?_,bN.2 off c _ hc (Xq ac)⟩;simp_all
 grind
end
end Go.Sx
namespace Go.Sx
set_option linter.unusedVariables false
set_option linter.unusedSimpArgs false
section
variable{w0:World}{F:CS}{nt:Slots}{G0 G:GH}{ν:Nat->Nu}{st:St}{a:Act}{w:World}{P:Program}{T:Tab}
theorem WnC{α:Type}{R:α->List Value->Prop}{n:Nat}(h:∀x c,R x c->c.length=n)(l:List α)(cs:List Value)(i:Nat)(d:α)(he:Wef R l cs)(hi:i<l.length):
  R (l.getD i d) ((cs.drop (i*n)).take n):=Wk9 h l cs i _ he (by simp_all)
theorem Web{i:Int}{n:Nat}(h:inb i n=true):0<=i/\i<n:=by simpa [inb]using h
theorem Wd0{t et:TypeId}{te:TE}{k:IntKind}{n:Int}{b off len cap:Nat}(hu:P.underlying t=some (.slice et))(bQ:TEok P T et te)(hp:te.plain=true)(h0:0<=n)(h1:n<len):
  (Instr.indexAt t (.slice (some ⟨b,off,none⟩) len cap) (.int k n)).run P w= .ok (.pointer (some ⟨b,off+n.toNat*te.ty.size,none⟩)) w:=by
 simp[Instr.indexAt,asIntOf,Wl hu,h0,h1,bQ.sizeOf,WY hp,Wa5]
theorem Wti(hT:Wai P T)(hh:HRel w0 F G ν st.objs st.nx w){t et:TypeId}{te:TE}{k:IntKind}{n:Int}{id:Nat}{u:Value}{r:AVal}(hu:P.underlying t=some (.slice et))(bQ:TEok P T et te)(hp:te.plain=true)
  (hx:AValRel G ν st.nx (.s (.one (.own id))) u) (h:obI te n id (Wn st.objs id)=some (true,r)):Gives P G ν st w (Instr.indexAt t u (.int k n)) r:=by
 obtain⟨⟨bM,hv⟩,_⟩:=hx;subst hv;unfold obI at h;split at h
 .rename_i e xs aG;split at h
  .rename_i he;simp only[Option.some.injEq,Prod.mk.injEq]at h;obtain⟨hb,rfl⟩:=h;obtain⟨h0,h1⟩:=Web hb;obtain⟨S,ad,cu,ho⟩:=hh.obj aG;unfold Nu.hdr;cases bu:(ν id).blk with
   |none=>grind
   |some b=>
    refine⟨.pointer (some ⟨b,(ν id).off+n.toNat*te.ty.size,none⟩),Wd0 hu bQ hp h0 (by omega),⟨bM,by omega,b,bu,?_⟩,rfl⟩;rw[cu,he,WbC,Xbe]
  grind
 .rename_i e xs i p aG;split at h
  .rename_i he;simp only[Option.some.injEq,Prod.mk.injEq,Xi]at h;obtain⟨⟨hb,hi⟩,rfl⟩:=h;obtain⟨h0,h1⟩:=Web hb;have hi:=Xck hi;obtain⟨S,ll,ad,cu,ac,b,bu,fX,vJ,ho⟩:=hh.obj aG;unfold Nu.hdr;simp only[bu];refine⟨.pointer (some ⟨b,(ν id).off+n.toNat*te.ty.size,none⟩),Wd0 hu bQ hp h0 (by omega),⟨ll,b,fX,?_⟩,rfl⟩;rw[vJ,he,WbC,Xbe,hi]
  grind
 grind
theorem Wql(hT:Wai P T)(hh:HRel w0 F G ν st.objs st.nx w){t et:TypeId}{te:TE}{k:IntKind}{n:Int}{id lo hi:Nat}{u:Value}{r:AVal}(hu:P.underlying t=some (.slice et))(bQ:TEok P T et te)(hp:te.plain=true)
  (hx:AValRel G ν st.nx (.s (.one (.vw id lo hi))) u) (h:Ww1 te n id lo hi (Wn st.objs id)=some (true,r)):Gives P G ν st w (Instr.indexAt t u (.int k n)) r:=by
 obtain⟨⟨bM,g1,g2,g3,hv⟩,_⟩:=hx;subst hv;unfold Ww1 at h;split at h
 .rename_i e xs aG;split at h
  .rename_i he;simp only[Option.some.injEq,Prod.mk.injEq]at h;obtain⟨hb,rfl⟩:=h;obtain⟨h0,h1⟩:=Web hb;obtain⟨S,ad,cu,ho⟩:=hh.obj aG;unfold Nu.vhdr;cases bu:(ν id).blk with
   |none=>grind
   |some b=>
    simp only[bu]at ho;have bI:(ν id).cap≠lo:=by omega
    rw[Wc bI];refine⟨.pointer (some ⟨b,(ν id).off+lo*(ν id).esz+n.toNat*te.ty.size,none⟩),Wd0 hu bQ hp h0 h1,⟨bM,by omega,b,bu,?_⟩,rfl⟩;rw[cu,he,WbC,Xbe,Xcs,Xba]
  grind
 grind
theorem Wq1(hT:Wai P T)(hh:HRel w0 F G ν st.objs st.nx w){t et:TypeId}{te:TE}{k:IntKind}{n:Int}{m id:Nat}{u:Value}{r:AVal}(hu:P.underlying t=some (.array m et))(bQ:TEok P T et te)(hp:te.plain=true)
  (hx:AValRel G ν st.nx (.s (.one (.aptr id))) u) (h:Wwo te n m id (Wn st.objs id)=some (true,r)):Gives P G ν st w (Instr.indexAt t u (.int k n)) r:=by
 obtain⟨⟨bM,b,bu,hv⟩,_⟩:=hx;subst hv;unfold Wwo at h;split at h
 .rename_i e xs aG;split at h
  .rename_i he;simp only[Option.some.injEq,Prod.mk.injEq,Xi,Wi]at h;obtain⟨⟨hb,hm⟩,rfl⟩:=h;obtain⟨h0,h1⟩:=Web hb;obtain⟨S,ad,cu,ho⟩:=hh.obj aG;refine⟨.pointer (some ⟨b,(ν id).off+n.toNat*e.size,none⟩),?_,⟨bM,by omega,b,bu,by rw[cu,Xbe]⟩,rfl⟩;have:((0:Int)<=n/\n<(m:Int)):=⟨h0,h1⟩;simp only[Instr.indexAt,asIntOf,Sem.run_bind,Sem.run_pure,Result.andThen_ok,Wl hu,Instr.sureAddr,Wf this,bQ.sizeOf,WY hp,Wa5,he]
  grind
 grind
theorem Wha(hT:Wai P T)(hh:HRel w0 F G ν st.objs st.nx w){t:TypeId}{x i:AVal}{u v:Value}{r:AVal}(hx:AValRel G ν st.nx x u)(hi:AValRel G ν st.nx i v)
  (h:Wb8 T st t x i=some (true,r)):Gives P G ν st w (Instr.indexAt t u v) r:=by
 unfold Wb8 at h;split at h
 .rename_i ty ag et n hl hn;obtain⟨k,rfl⟩:=Wf1 _ _ _ hi hn;have hu:=(hT _ _ hl).und.2.1;split at h
  .rename_i te bd;split at h
   .rename_i hp;split at h
    .rename_i e l;split at h
     .rename_i he;simp only[Option.some.injEq,Prod.mk.injEq]at h;obtain⟨hb,rfl⟩:=h;obtain⟨h0,h1⟩:=Web hb;obtain⟨⟨z,hz,hr⟩,_⟩:=hx;simp at hz;subst hz;rcases hr with⟨rfl,dH⟩|⟨b,off,cap,cs,rfl,h2,h3,h4,h5⟩|⟨a,cap,rfl,dH⟩
      rotate_left 2
      .grind
      .grind
      .have ac:n.toNat<Xb l:=by omega
       refine⟨_,Wd0 hu (hT _ _ bd) hp h0 h1,⟨b,off+n.toNat*e.size,_,?_,WnC (λx c hc=>W5 e x c hc) l cs n.toNat e.dflt h4 ac,?_⟩,rfl⟩
       .grind
       .intro j v hj;rw[Xbo]at hj;split at hj
        .rw[Xbn]at hj;rw[Xba];exact h5 _ _ hj
        grind
     grind
    .simp at h
    .exact Wti hT hh hu (hT _ _ bd) hp hx h
    .exact Wql hT hh hu (hT _ _ bd) hp hx h
    grind
   grind
  grind
 .rename_i ty ag m et n hl hn;obtain⟨k,rfl⟩:=Wf1 _ _ _ hi hn;have hu:=(hT _ _ hl).und.2.1;split at h
  .rename_i te bd;split at h
   .rename_i hp;split at h
    .exact Wq1 hT hh hu (hT _ _ bd) hp hx h
    grind
   grind
  grind
 grind
theorem Wva(s:List UInt8)(n:Nat)(h:n<s.length):(ByteArray.mk s.toArray)[n]?=some (s.getD n 0):=by
 grind [ByteArray.getElem?_lt',ByteArray.size,ByteArray.getElem_eq_getElem_data]
theorem WkM{k:IntKind}:∀(cs:List Cell) (us:List Value) (l:List Int),WbK k cs=some l->CellsRel G ν st.nx cs us->l.length=cs.length/\∀j,j<us.length->us[j]?=some (.int k (Xc l j (0:Int)))
 | [],us,l,h,hc=>by
  simp only[WbK]at h;injection h with h;subst h;have:=hc.1;simp_all
 | .val (.int k') d::cs,us,l,h,hc=>by
  simp only[WbK]at h;split at h
  .rename_i hk;subst hk;cases hi:WbK k' cs with
   |none=>simp_all
   |some l'=>
    rw[hi]at h;simp only[Xbx]at h;injection h with h;subst h;cases us with
    |nil=>have:=hc.1;grind
    |cons u us=>
     have h0:=(hc.2 0 _ u rfl rfl).1;have hu:u= .int k' d:=by grind [CellRel,Enc]
     obtain⟨h1,h2⟩:=WkM cs us l' hi ⟨by have:=hc.1;simp_all,λj c v hj hv=>hc.2 (j+1) c v (by simp_all) (by simp_all)⟩
     grind
  .cases h
 | .val .bool d::cs,us,l,h,_=>by simp[WbK]at h
 | .val .str d::cs,us,l,h,_=>by simp[WbK]at h
 | .val (.slice _) d::cs,us,l,h,_=>by simp[WbK]at h
 | .val (.own _) d::cs,us,l,h,_=>by simp[WbK]at h
 | .val (.prod _ _) d::cs,us,l,h,_=>by simp[WbK]at h
 | .nils::cs,us,l,h,_=>by simp[WbK]at h
 | .own _::cs,us,l,h,_=>by simp[WbK]at h
 | .vw _ _ _::cs,us,l,h,_=>by simp[WbK]at h
 | .aptr _::cs,us,l,h,_=>by simp[WbK]at h
 | .ptr _ _::cs,us,l,h,_=>by simp[WbK]at h
 | .eptr _ _ _::cs,us,l,h,_=>by simp[WbK]at h
 | .rptr _ _ _::cs,us,l,h,_=>by simp[WbK]at h
 | .clos _ _::cs,us,l,h,_=>by simp[WbK]at h
 | .junk::cs,us,l,h,_=>by simp[WbK]at h
theorem Wlj(hT:Wai P T){t:TypeId}{x i:AVal}{u v:Value}{r:AVal}(hx:AValRel G ν st.nx x u)(hi:AValRel G ν st.nx i v)
  (h:Wor T t x i=some (true,r)):Gives P G ν st w (Instr.index t u v) r:=by
 unfold Wor at h;split at h
 .rename_i s n hl hn;obtain⟨k,rfl⟩:=Wf1 _ _ _ hi hn;have:=Wld hx;subst this;have hu:=(hT _ _ hl).und.2;simp only[Option.some.injEq,Prod.mk.injEq]at h;obtain⟨hb,rfl⟩:=h;obtain⟨h0,h1⟩:=Web hb;have ac:n.toNat<Xb s:=by omega
  refine⟨.int .u8 ((Xc s n.toNat 0).toNat:Int),?_,WN rfl⟩;simp only[Instr.index,asIntOf,Sem.run_bind,Sem.run_pure,Result.andThen_ok,Wl hu,Wf h0,Wva s n.toNat ac]
 .rename_i k ag m et cs n hl hn;split at h
  .rename_i k' bd;split at h
   .rename_i l nY;split at h
    .rename_i hc;obtain⟨rfl,hm⟩:=hc;obtain⟨kk,rfl⟩:=Wf1 _ _ _ hi hn;obtain⟨us,rfl,bN⟩:=hx;simp only[Option.some.injEq,Prod.mk.injEq]at h;obtain⟨hb,rfl⟩:=h;obtain⟨h0,h1⟩:=Web hb;obtain⟨ad,gB⟩:=WkM _ _ _ nY bN;have hu:=(hT _ _ hl).und.2.1;have tS:=hT _ _ bd;have ny:(Go.isAgg et).run P w= .ok false w:=tS.isAgg;have cj:(Go.sizeOf et).run P w= .ok 1 w:=tS.sizeOf;have ac:n.toNat<us.length:=by rw[bN.1];omega
     have jj:us[n.toNat]?=some (.int k' (Xc l n.toNat (0:Int))):=gB _ ac;refine⟨.int k' (Xc l n.toNat (0:Int)),?_,WN rfl⟩;simp only[Instr.index,asIntOf,Sem.run_bind,Sem.run_pure,Result.andThen_ok,Wl hu,h0,h1,and_self,W8,cj,part,ny,Nat.mul_one];simp[jj]
    grind
   grind
  grind
 grind
theorem Wim{k:IntKind}{n:Int}{y:Nat}{c:BoundsCode}(h0:0<=n)(h1:n<=y):(Instr.sliceBound (.int k n) y c).run P w= .ok n.toNat w:=by
 simp[Instr.sliceBound,asIntOf,h0,h1]
inductive BRel:Option Int->Option Value->Prop where
 |none:BRel .none .none
 |some (k:IntKind) (n:Int):BRel (.some n) (.some (.int k n))
theorem Wdg(h:Rel w0 F nt G0 G ν st a w)(o:Option Operand)(r:Option Int)(he:Wmy st o=some r):BRel r (o.map a.eval):=by
 cases o with
 |none=>simp[Wmy]at he;subst he;exact .none
 |some x=>
  simp only[Wmy]at he;cases hv:ev st x with
  |none=>simp_all
  |some av=>
   simp only[hv,Option.bind_some]at he;cases hi:asI av with
   |none=>simp_all
   |some n=>
    simp[hi]at he;subst he;obtain⟨k,hk⟩:=Wf1 _ _ _ (WK h x av hv) hi;simp only[Xbx,hk];exact .some k n
theorem Wc2{isSlice:Bool}{n cap:Nat}{lo hi:Option Int}{vl vh:Option Value}(hl:BRel lo vl)(hh:BRel hi vh)(hc:n<=cap)(hb:(WcY n lo hi).1=true):
  (Instr.sliceBounds isSlice n cap vl vh none).run P w= .ok ((WcY n lo hi).2.1,(WcY n lo hi).2.2,cap) w/\(WcY n lo hi).2.1<=(WcY n lo hi).2.2/\(WcY n lo hi).2.2<=n:=by
 cases hl<;>cases hh<;>simp only[WcY,Xi,Wi]at hb⊢
 .simp[Instr.sliceBounds]
 .grind [Instr.sliceBounds,Sem.run_bind,Sem.run_pure,Result.andThen_ok,Wim]
 .grind [Instr.sliceBounds,Sem.run_bind,Sem.run_pure,Result.andThen_ok,Wim]
 .rename_i k l k' h;obtain⟨⟨⟨h1,h2⟩,h3⟩,h4⟩:=hb;refine⟨?_,by omega,by omega⟩;simp only[Instr.sliceBounds,Sem.run_bind,Sem.run_pure,Result.andThen_ok]
  grind [Wim,Result.andThen_ok]
theorem WlG{α:Type}(l:List α)(lo hi:Option Int):Wu0 l lo hi=(l.take (WcY l.length lo hi).2.2).drop (WcY l.length lo hi).2.1:=by
 cases lo<;>cases hi<;>simp[Wu0,WcY]
theorem Wwa(s:List UInt8)(l h:Nat):(ByteArray.mk s.toArray).extract l h=⟨((s.take h).drop l).toArray⟩:=by
 apply ByteArray.ext;simp[ByteArray.data_extract,List.extract_eq_take_drop,List.drop_take]
theorem Wsl{t:TypeId}{lo hi:Option Int}{vl vh:Option Value}(hu:P.underlying t=some .string)(s:List UInt8)(hl:BRel lo vl)(hh:BRel hi vh)(hb:(WcY s.length lo hi).1=true):
  (Instr.sliceAt t (.string ⟨s.toArray⟩) vl vh none).run P w= .ok (.string ⟨(Wu0 s lo hi).toArray⟩) w:=by
 have cj:(ByteArray.mk (List.toArray s)).size=Xb s:=by simp[ByteArray.size]
 obtain⟨hr,h3,h4⟩:=Wc2 (P:=P) (w:=w) (isSlice:=false) (cap:=Xb s) hl hh (Xm _) hb;simp only[Instr.sliceAt,Instr.slice,Sem.run_bind,Wl hu,Result.andThen_ok,Option.isSome_none,Bool.false_eq_true,Wat,Sem.run_pure,cj,hr,Wwa,WlG]
theorem WtJ{t et:TypeId}{te:TE}{lo hi:Option Int}{vl vh:Option Value}{α:Type}{R:α->List Value->Prop}{n:Nat}(hR:∀x c,R x c->c.length=n)(hu:P.underlying t=some (.slice et))(bQ:TEok P T et te)(hp:te.plain=true)(hn:te.ty.size=n)
  (xs:List α) {v:Value} (hx:WjN G R xs v) (hl:BRel lo vl) (hh:BRel hi vh) (hb:(WcY xs.length lo hi).1=true):
  ∃v',(Instr.sliceAt t v vl vh none).run P w= .ok v' w/\WjN G R (Wu0 xs lo hi) v':=by
 rcases hx with⟨rfl,bJ⟩|⟨b,off,cap,cs,rfl,h3,h4,h5,h6⟩|⟨a,cap,rfl,bJ⟩
 rotate_left 2
 .subst bJ;obtain⟨hr,h3,h4⟩:=Wc2 (P:=P) (w:=w) (isSlice:=true) (cap:=cap) hl hh (Xci _) hb;have e1:(WcY 0 lo hi).2.2=0:=by omega
  have e2:(WcY 0 lo hi).2.1=0:=by omega
  rw[e1,e2]at hr;refine⟨.slice (some a) 0 cap,?_,.inr (.inr ⟨a,cap,rfl,?_⟩)⟩
  .simp only[Instr.sliceAt,Instr.slice,Sem.run_bind,Wl hu,Result.andThen_ok,hr,bQ.sizeOf,Sem.run_pure,Xbx];simp[Addr.add]
  .rw[WlG];simp
 .subst bJ;obtain⟨hr,h3,h4⟩:=Wc2 (P:=P) (w:=w) (isSlice:=true) (cap:=0) hl hh (Xm _) hb;refine⟨.slice none 0 0,?_,.inl ⟨rfl,?_⟩⟩
  .have e1:(WcY 0 lo hi).2.2=0:=by omega
   have e2:(WcY 0 lo hi).2.1=0:=by omega
   rw[e1,e2]at hr;simp[Instr.sliceAt,Instr.slice,Wl hu,hr,bQ.sizeOf]
  .rw[WlG];simp
 .obtain⟨hr,h7,h8⟩:=Wc2 (P:=P) (w:=w) (isSlice:=true) (cap:=cap) hl hh h3 hb;have vK:=WlG xs lo hi;generalize (WcY xs.length lo hi).2.1=p at*;generalize (WcY xs.length lo hi).2.2=q at*;have cj:te.size=n:=by rw[WY hp,hn]
  have ad:(Wu0 xs lo hi).length=q-p:=by simp_all
  refine⟨.slice (some (if cap=p then⟨b,off,none⟩else⟨b,off+p*n,none⟩)) (q-p) (cap-p),?_,.inr (.inl ?_)⟩
  .simp only[Instr.sliceAt,Instr.slice,Sem.run_bind,Wl hu,Result.andThen_ok,hr,bQ.sizeOf,Sem.run_pure,cj,Xbx,Wa5];split<;>rfl
  .by_cases hc:cap=p
   .have h0:Wu0 xs lo hi= []:=Xx (by omega);refine⟨b,off,cap-p,[],?_,by omega,by omega,?_,λj v hj=>by simp at hj⟩
    .rw[Wf hc];rw[ad]
    .rw[h0];rfl
   .refine⟨b,off+p*n,cap-p,(cs.take (q*n)).drop (p*n),?_,by omega,by omega,?_,?_⟩
    .rw[Wc hc,ad]
    .grind [WeH,WeQ]
    .intro j v hj;rw[Xbn,Xbo]at hj;split at hj
     .rw[Xba];exact h6 _ _ hj
     grind
theorem WlX(hT:Wai P T){t:TypeId}{x:AVal}{u:Value}{vl vh:Option Value}{lo hi:Option Operand}{r:AVal}(hx:AValRel G ν st.nx x u)
  (hl:∀l,Wmy st lo=some l->BRel l vl) (hh:∀l,Wmy st hi=some l->BRel l vh)
  (h:Wmq T st t x lo hi=some (true,r)):Gives P G ν st w (Instr.sliceAt t u vl vh none) r:=by
 unfold Wmq at h;split at h
 .rename_i s l h' pX h1 h2;have:=Wld hx;subst this;simp only[Option.some.injEq,Prod.mk.injEq]at h;obtain⟨hb,rfl⟩:=h;exact⟨_,Wsl (hT _ _ pX).und.2 s (hl _ h1) (hh _ h2) hb,WN rfl⟩
 .rename_i ty ag et e xs l h' pX h1 h2;have hu:=(hT _ _ pX).und.2.1;split at h
  .rename_i te bd;split at h
   .rename_i vL;obtain⟨he,hp⟩:=vL;simp only[Option.some.injEq,Prod.mk.injEq]at h;obtain⟨hb,rfl⟩:=h;obtain⟨⟨z,hz,hr⟩,_⟩:=hx;simp at hz;subst hz;obtain⟨v',h3,h4⟩:=WtJ (P:=P) (T:=T) (w:=w) (λx c hc=>W5 e x c hc) hu (hT _ _ bd) hp (by rw[he]) xs hr (hl _ h1) (hh _ h2) hb;exact⟨v',h3,WN ⟨v',rfl,h4⟩⟩
   grind
  grind
 grind
end
end Go.Sx
namespace Go.Sx
set_option linter.unusedVariables false
set_option linter.unusedSimpArgs false
section
variable{w0:World}{F:CS}{nt:Slots}{G0 G:GH}{ν:Nat->Nu}{st:St}{a:Act}{w:World}{P:Program}{T:Tab}
theorem WiV{k:IntKind}:∀(l:List Int) (cs:List Value),Wef (Enc G (.int k)) l cs->cs=l.map (Value.int k)
 | [],cs,h=>h
 |x::l,cs,⟨c1,c2,he,h1,h2⟩=>by
  have:=WiV l c2 h2
  grind [Enc]
theorem WmP{t e:TypeId}{dst:TypeId}(hs:P.underlying t=some (.slice e))(he:P.underlying e=some (.int .u8))(hd:P.underlying dst=some .string){b off cap:Nat}(l:List Int)
  (hm:∀j v,(l.map (Value.int .u8))[j]?=some v->w.cell? ⟨b,off+j,none⟩=some v):
  (convert t dst (.slice (some ⟨b,off,none⟩) l.length cap)).run P w= .ok (.string ⟨(Wtr l).toArray⟩) w:=by
 rw[run_convert_bytes_string w t dst e _ _ _ hs he hd];have h1:=run_loadCells_list (P:=P) w ⟨b,off,none⟩ (l.map (Value.int .u8)) (λj v hj=>by grind [Wa5]);rw[Xu]at h1;rw[run_bytesToString w _ _ _ l h1,foldl_push_bytes];simp[ByteArray.ext,Wtr]
theorem WiI{t e:TypeId}{dst:TypeId}(hs:P.underlying t=some (.slice e))(he:P.underlying e=some (.int .u8))(hd:P.underlying dst=some .string)(l c:Nat):
  (convert t dst (.slice none l c)).run P w= .ok (.string ⟨#[]⟩) w:=by
 rw[run_convert_bytes_string w t dst e _ _ _ hs he hd];rfl
theorem Wqj{t e:TypeId}{dst:TypeId}(hs:P.underlying t=some (.slice e))(he:P.underlying e=some (.int .u8))(hd:P.underlying dst=some .string)(a:Addr)(c:Nat):
  (convert t dst (.slice (some a) 0 c)).run P w= .ok (.string ⟨#[]⟩) w:=by
 rw[run_convert_bytes_string w t dst e _ _ _ hs he hd];have h1:=run_loadCells_list (P:=P) w a ([].map (Value.int .u8)) (λj v hj=>by simp at hj);simp only[Xcg,List.length_nil]at h1;rw[run_bytesToString w _ _ _ [] (by simp_all),foldl_push_bytes];rfl
theorem Wnu(hT:Wai P T)(hh:HRel w0 F G ν st.objs st.nx w){src dst:TypeId}{x:AVal}{u:Value}{r:AVal}(hx:AValRel G ν st.nx x u)
  (h:Wku T st src dst x=some (true,r)):Gives P G ν st w (convert src dst u) r:=by
 unfold Wku WwO at h;split at h
 .rename_i k0 k k1 n h1 h2;have:=WgW hx;subst this;have hs:=(hT _ _ h1).und.2;have hd:=(hT _ _ h2).und.2;simp at h;subst h;exact⟨.int k (k.wrap n),by simp_all [convert,Wl,Conv.intToInt],WN rfl⟩
 .rename_i s h1 h2;have:=Wld hx;subst this;have hs:=(hT _ _ h1).und.2;have hd:=(hT _ _ h2).und.2;simp at h;subst h;exact⟨_,by simp[convert,Wl hs,Wl hd]<;>rfl,WN rfl⟩
 .rename_i ty ag et c h1 h2;have hs:=(hT _ _ h1).und.2.1;have hd:=(hT _ _ h2).und.2;split at h
  .rename_i h3;have he:=(hT _ _ h3).und.2;split at h
   .rename_i l;simp at h;subst h;obtain⟨⟨z,hz,hr⟩,_⟩:=hx;simp at hz;subst hz;rcases hr with⟨rfl,bJ⟩|⟨b,off,cap,cs,rfl,h4,h5,h6,h7⟩|⟨a,cap,rfl,bJ⟩
    rotate_left 2
    .refine⟨_,Wqj hs he hd a _,WN ?_⟩;rw[bJ];rfl
    .refine⟨_,WiI hs he hd _ _,WN ?_⟩;rw[bJ];rfl
    .have bN:=WiV _ _ h6;exact⟨_,WmP hs he hd l (λj v hj=>hh.g (h7 j v (by simp_all))),WN rfl⟩
   .simp at h;subst h;obtain⟨hv,_⟩:=hx;simp only[CellRel]at hv;subst hv;exact⟨_,WiI hs he hd _ _,WN rfl⟩
   .rename_i id;split at h
    .rename_i xs aG;simp at h;subst h;obtain⟨⟨bM,hv⟩,_⟩:=hx;subst hv;obtain⟨S,ho⟩:=hh.obj aG;unfold Nu.hdr;cases bu:(ν id).blk with
     |none=>
      have hn:=Wcr ho bu;refine⟨_,WiI hs he hd _ _,WN ?_⟩;rw[hn];rfl
     |some b=>
      obtain⟨ad,h4,h5,h6,cs,h7,h8,h9⟩:=WdP (e:=.int .u8) rfl ho bu;have bN:=WiV _ _ h7;simp only[←ad];exact⟨_,WmP hs he hd xs (λj v hj=>h8 j v (by simp_all)),WN rfl⟩
    grind
   grind
  grind
 grind
theorem Wv8{x:Operand}{o:Oper}(ho:o.op= .nilCheck x){ρ:Operand->Value}{p:Addr}(h:ρ x= .pointer (some p)):(execOp ρ o).run P w= .ok (.value (.pointer (some p))) w:=by
 simp[execOp,ho,h]
theorem Wtk{x r:AVal}{u:Value}(hx:AValRel G ν st.nx x u)(h:Wrn st x=some (true,r)):r=x/\∃p,u= .pointer (some p):=by
 unfold Wrn at h;split at h
 .simp at h;subst h;obtain⟨⟨b,o,cs,rfl,_⟩,_⟩:=hx;simp_all
 .split at h
  .simp at h;subst h;obtain⟨⟨_,b,_,rfl⟩,_⟩:=hx;simp_all
  grind
 .split at h
  .simp at h;subst h;obtain⟨⟨_,_,b,_,rfl⟩,_⟩:=hx;simp_all
  grind
 .split at h
  .simp at h;subst h;obtain⟨⟨_,b,_,rfl⟩,_⟩:=hx;simp_all
  grind
 grind
theorem WkS(hr:Rel w0 F nt G0 G ν st a w):∀(l:List Operand) (ids:List Nat),WgG st l=some ids->
  ids.length=l.length/\∀(j id:Nat) (u:Value),ids[j]?=some id->(l.map a.eval)[j]?=some u->id<st.nx/\u.oneCell'=true/\∃b,(ν id).blk=some b/\u= .pointer (some ⟨b,(ν id).off+0,none⟩)
 | [],ids,h=>by simp[WgG]at h;simp_all
 |o::l,ids,h=>by
  simp only[WgG]at h;split at h
  .rename_i id r h1 h2;injection h with h;subst h;obtain⟨h3,h4⟩:=WkS hr l r h2;refine⟨by simp[h3],λj i u hj hu=>?_⟩;cases j with
   |zero=>
    simp at hj hu;subst hj hu;obtain⟨⟨g1,g2⟩,g3⟩:=WK hr o _ h1;simp_all
   |succ j=>grind
  grind
theorem WhK(hT:Wai P T)(hh:HRel w0 F G ν st.objs st.nx w){t:TypeId}{x:AVal}{u:Value}{r:AVal}(hx:AValRel G ν st.nx x u)(h:WhN T st t x=some r):
  Gives P G ν st w (Instr.loadAt t u) r:=by
 unfold WhN at h;split at h
 .rename_i te hl;split at h
  .rename_i hp;split at h
   .rename_i id off;split at h
    .rename_i cs aG;obtain⟨⟨_,b,hb,rfl⟩,_⟩:=hx;obtain⟨S,b',vs,cA,bf,aM,bN,_⟩:=hh.obj aG;rw[hb]at cA;injection cA with cA;subst cA;obtain⟨v,h3,h4⟩:=Whn (hT _ _ hl) hp bN (o:=(ν id).off) aM h;exact⟨v,by grind [Instr.loadAt,Instr.sureAddr],h4⟩
    grind
   .rename_i id i off;split at h
    .rename_i e xs aG;obtain⟨⟨_,ac,b,hb,rfl⟩,_⟩:=hx;obtain⟨S,ho⟩:=hh.obj aG;have cu:=ho.2.1;obtain⟨c,p,h1,h2⟩:=Wsb ho hb (by rw[ho.1];exact ac);obtain⟨v,h9,cJ⟩:=Whn (hT _ _ hl) hp (Wib (ν:=ν) (nx:=st.nx) e _ _ _ h1) (w:=w) (b:=b) (o:=(ν id).off+i*e.size) h2 h;exact⟨v,by grind [Instr.loadAt,Instr.sureAddr,Xba],cJ⟩
    grind
   .rename_i t' d off;obtain⟨⟨b,o,cs,rfl,h1,h2⟩,_⟩:=hx;obtain⟨v,h9,cJ⟩:=Whn (hT _ _ hl) hp (WaM (G:=G) (ν:=ν) (nx:=st.nx) t' d _ h1) (w:=w) (b:=b) (o:=o) (λj v hj=>hh.g (h2 j v hj)) h;exact⟨v,by grind [Instr.loadAt,Instr.sureAddr],cJ⟩
   grind
  grind
 grind
theorem WpI{G:GH}{k:IntKind}:∀(xs:List Int) (cs:List Value),Wef (Enc G (.int k)) xs cs->cs=xs.map λx=>Value.int k x
 | [],cs,h=>h
 |x::xs,cs,⟨c1,c2,h1,h2,h3⟩=>by
  have:c1= [.int k x]:=h2;rw[h1,this,WpI xs c2 h3];rfl
theorem Wqd{k:IntKind}{xs:List Int}:∀(n i j:Nat),(WuO k xs i n)[j]?=if j<n then some (.val (.int k) (xs.getD (i+j) (0:Int)))else none
 |0,i,j=>by simp[WuO]
 |n+1,i,j=>by
  cases j with
  |zero=>simp[WuO]
  |succ j=>
   rw[WuO,List.getElem?_cons_succ,Wqd n (i+1) j,show i+1+j=i+(j+1) by omega];simp_all
theorem WpD{k:IntKind}{xs:List Int}:∀(n i:Nat),(WuO k xs i n).length=n
 |0,i=>rfl
 |n+1,i=>by rw[WuO,Xr,WpD n (i+1)]
theorem WlR(hT:Wai P T)(hh:HRel w0 F G ν st.objs st.nx w){t:TypeId}{x:AVal}{u:Value}{r:AVal}(hx:AValRel G ν st.nx x u)(h:Wf8 T st t x=some (true,r)):
  Gives P G ν st w (Instr.loadAt t u) r:=by
 unfold Wf8 at h;split at h
 .rename_i k n et hl;split at h
  .rename_i id;split at h
   .rename_i k' xs aG;change List Int at xs;split at h
    .rename_i hk;subst hk;simp only[Option.some.injEq,Prod.mk.injEq,Wi]at h;obtain⟨hn,rfl⟩:=h;obtain⟨⟨_,b,hb,rfl⟩,_⟩:=hx;obtain⟨S,ho⟩:=hh.obj aG;obtain⟨ad,h4,h5,h6,cs,h7,h8,h9⟩:=WdP (e:=.int k') rfl ho hb;have bN:=WpI _ _ h7;have bQ:=hT _ _ hl;have ny:(Go.isAgg t).run P w= .ok true w:=bQ.isAgg;have cj:(Go.sizeOf t).run P w= .ok n w:=by have:=bQ.sizeOf (w:=w);grind [TE.size,Ty.size]
     have cP:cs.length=n:=by rw[bN,Xu];exact hn
     have hr:=run_loadCells_list (P:=P) w ⟨b,(ν id).off,none⟩ cs (λj v hj=>by rw[Wa5];exact h8 j v hj);rw[cP]at hr;refine⟨.agg cs.toArray,?_,cs,rfl,?_,λj c v hj hv=>?_⟩
     .simp_all [Instr.loadAt,Instr.sureAddr,Sem.run_bind,Sem.run_pure,Result.andThen_ok,loadVar,W8]
     .rw[WpD,cP]
     .rw[Wqd]at hj;split at hj
      .rename_i qU;injection hj with hj;subst hj;rw[bN,Xaj]at hv;have tU:j<Xb xs:=Nat.lt_of_lt_of_eq qU hn.symm;rw[Xq tU]at hv;simp only[Xbx]at hv;injection hv with hv;subst hv;refine⟨?_,rfl⟩;simp[CellRel,Enc,tU]
      .cases hj
    grind
   grind
  grind
 grind
end
section
variable{w0:World}{F:CS}{nt:Slots}{G0 G:GH}{ν:Nat->Nu}{st:St}{a:Act}{w:World}{P:Program}{T:Tab}
theorem Wb7{o:Oper}{s:Sem Value}{r:AVal}(he:execOp a.eval o=(do pure (.value (←s))))(h:Gives P G ν st w s r):
  ∃v,(execOp a.eval o).run P w= .ok (.value v) w/\AValRel G ν st.nx r v:=by
 obtain⟨v,h1,h2⟩:=h;simp_all
theorem Wcp{α β:Type}{x:Option α}{f:α->Option (Bool×β)}{r:β}(h:x.bind f=some (true,r)):∃y,x=some y/\f y=some (true,r):=by
 cases x with
 |none=>simp at h
 |some y=>simp_all
theorem WoD(hT:Wai P T)(hh:HRel w0 F G ν st.objs st.nx w){op:BinOp}{t:TypeId}{x y:AVal}{u v:Value}{r:AVal}(ox oy:Operand)(hx:AValRel G ν st.nx x u)(hy:AValRel G ν st.nx y v)
  (h:WqN T st op t x y=some (true,r)):Gives P G ν st w (do eqGuard op t ox oy u v;Go.binOp op t u v) r:=by
 unfold WqN at h;split at h
 .rename_i id;split at h
  .rename_i te e hl;have hu:=(hT _ _ hl).und.2.1;obtain⟨⟨_,hv⟩,_⟩:=hx;subst hv;obtain⟨hn,_⟩:=hy;simp only[CellRel]at hn;subst hn;split at h
   .rename_i e' xs ho;have key:∀n:Nat,Xgh 0 xs.length=true->(Op.equalIn (n+1) t (ν id).hdr (.slice none 0 0)).run P w= .ok false w:=λn hb=>by
     have bI:xs≠ []:=by rintro rfl;simp at hb
     obtain⟨S,aG⟩:=hh.obj ho;have hd:∃g,(ν id).hdr= .slice (some g) (ν id).len (ν id).cap:=by
      unfold Nu.hdr;obtain⟨ad,_,aG⟩:=aG;cases hb:(ν id).blk with
      |none=>simp_all
      |some g=>simp_all
     obtain⟨g,hd⟩:=hd;simp_all [Op.equalIn,Wl]
    have hg:∀op,(eqGuard op t ox oy (ν id).hdr (.slice none 0 0)).run P w= .ok () w:=λop=>Wb1 (λcs=>by unfold Nu.hdr;split<;>exactλh=>nomatch h) (by unfold Nu.hdr;split<;>exactλh=>nomatch h);split at h
    .simp only[Option.some.injEq,Prod.mk.injEq]at h;obtain⟨h1,rfl⟩:=h;exact⟨.bool false,by simp[hg,Go.binOp,Op.equal,Op.maxDepth,show(Op.equalIn 10000 t (ν id).hdr (.slice none 0 0)).run P w= .ok false w from key 9999 h1],WN rfl⟩
    .simp only[Option.some.injEq,Prod.mk.injEq]at h;obtain⟨h1,rfl⟩:=h;exact⟨.bool true,by simp[hg,Go.binOp,Op.equal,Op.maxDepth,show(Op.equalIn 10000 t (ν id).hdr (.slice none 0 0)).run P w= .ok false w from key 9999 h1],WN rfl⟩
    grind
   grind
  grind
 grind
theorem WqI(hT:Wai P T)(hr:Rel w0 F nt G0 G ν st a w){o:Oper}{r:AVal}(h:Waf T st o.op=some (true,r)):
  ∃v,(execOp a.eval o).run P w= .ok (.value v) w/\AValRel G ν st.nx r v:=by
 obtain⟨dst,op,type,pos,after,guard⟩:=o;simp only at h;unfold Waf at h;split at h
 .rename_i x;cases hx:ev st x with
  |none=>simp_all
  |some v=>simp[hx]at h;subst h;exact⟨_,rfl,WK hr x _ hx⟩
 .rename_i x;cases hx:ev st x with
  |none=>simp_all
  |some v=>simp[hx]at h;subst h;exact⟨_,rfl,WK hr x _ hx⟩
 .rename_i c x y;split at h
  .rename_i p h1;cases hc:ev st c with
   |none=>simp_all
   |some cv=>
    simp[hc]at h1;have e1:=WoG _ _ _ (WK hr c _ hc) h1;split at h
    .rename_i m n h2 h3;simp at h;subst h;have e2:=WlU (WK hr x _ h2);have e3:=WlU (WK hr y _ h3);refine⟨.bool (bif p then m else n),?_,WN rfl⟩;simp only[execOp,e1,e2,e3,asBool];cases p<;>rfl
    .cases p with
     |true=>
      cases hx:ev st x with
      |none=>simp_all
      |some v=>simp[hx]at h;subst h;exact⟨a.eval x,by simp_all [execOp,asBool],WK hr x _ hx⟩
     |false=>
      cases hx:ev st y with
      |none=>simp_all
      |some v=>simp[hx]at h;subst h;exact⟨a.eval y,by simp_all [execOp,asBool],WK hr y _ hx⟩
  grind
 .rename_i t x;obtain⟨y,hy,h⟩:=Wcp h;cases ha:Wf8 T st t y with
  |some z=>rw[ha]at h;simp only[]at h;injection h with h;subst h;exact Wb7 rfl (WlR hT hr.h (WK hr x _ hy) ha)
  |none=>
   rw[ha]at h;cases hl:WhN T st t y with
   |none=>simp_all
   |some z=>simp[hl]at h;subst h;exact Wb7 rfl (WhK hT hr.h (WK hr x _ hy) hl)
 .rename_i x;obtain⟨y,hy,h⟩:=Wcp h;obtain⟨rfl,p,hp⟩:=Wtk (WK hr x _ hy) h;exact⟨_,Wv8 rfl hp,by grind [WK]⟩
 .rename_i op t x y _;split at h
  .rename_i u v h1 h2;split at h
   .rename_i z hz;injection h with h;subst h;exact Wb7 rfl (WoD hT hr.h x y (WK hr x _ h1) (WK hr y _ h2) hz)
   .exact Wb7 rfl (Wo1 hT x y (WK hr x _ h1) (WK hr y _ h2) h)
  grind
 .rename_i op t x;obtain⟨y,hy,h⟩:=Wcp h;exact Wb7 rfl (Wqi (WK hr x _ hy) h)
 .rename_i src dst x;obtain⟨y,hy,h⟩:=Wcp h;exact Wb7 rfl (Wnu hT hr.h (WK hr x _ hy) h)
 .rename_i t x lo hi;obtain⟨y,hy,h⟩:=Wcp h;exact Wb7 rfl (WlX hT (WK hr x _ hy) (λl hl=>Wdg hr lo l hl) (λl hl=>Wdg hr hi l hl) h)
 .rename_i s x f;obtain⟨y,hy,h⟩:=Wcp h;exact Wb7 rfl (Wg3 hT hr.h (WK hr x _ hy) h)
 .rename_i s x f;obtain⟨y,hy,h⟩:=Wcp h;exact Wb7 rfl (Wls hT (WK hr x _ hy) h)
 .rename_i t x i;split at h
  .rename_i u v h1 h2;exact Wb7 rfl (Wha hT hr.h (WK hr x _ h1) (WK hr i _ h2) h)
  grind
 .rename_i t x i;split at h
  .rename_i u v h1 h2;exact Wb7 rfl (Wlj hT (WK hr x _ h1) (WK hr i _ h2) h)
  grind
 .rename_i t ix;split at h
  .rename_i xs h1;cases hx:xs[ix]? with
   |none=>simp_all
   |some y=>
    simp[hx]at h;subst h;obtain⟨vs,hv,hl,fO⟩:=WK hr t _ h1;have ac:ix<vs.length:=by grind
    exact Wb7 rfl ⟨vs[ix],by simp[hv,Instr.extract,ac],fO ix y _ hx (Xq ac)⟩
  grind
 .rename_i f first captured
  split at h
  .rename_i hf;cases hc:WgG st captured.toList with
   |none=>simp_all
   |some ids=>
    simp[hc]at h;subst h;obtain⟨h1,h2⟩:=WkS hr _ _ hc;have nZ:first= #[]:=by simp_all
    subst nZ;refine Wb7 rfl ⟨.func (.func f) #[] (captured.map a.eval),by simp[Instr.makeFunc],⟨captured.toList.map a.eval,?_,?_,h2⟩,rfl⟩
    .apply Wm
     grind
    grind
  grind
 .rename_i c;obtain⟨callee,args,argTypes⟩:=c;obtain⟨args⟩:=args;obtain⟨argTypes⟩:=argTypes;simp only at h;split at h
  .rename_i x t;obtain⟨y,hy,h⟩:=Wcp h;obtain⟨v,h1,h2⟩:=WoO (ty:=type) hT hr.h (WK hr x _ hy) h;refine⟨v,?_,h2⟩;simp only[execOp,resolve,invoke,builtin,Sem.run_bind,Sem.run_pure,Result.andThen_ok,Xdv,Xaf,Xcg,h1]
  .rename_i x y _ _;split at h
   .rename_i k m k' n h1 h2;split at h
    .rename_i hk;subst hk;simp at h;subst h;have e1:=WgW (WK hr x _ h1);have e2:=WgW (WK hr y _ h2);refine⟨.int k (WxD m n),?_,WN rfl⟩;simp only[execOp,resolve,invoke,builtin,Sem.run_bind,Sem.run_pure,Result.andThen_ok,Xdv,Xaf,Xcg,e1,e2,Builtin.min_];rfl
    grind
   grind
  .rename_i x y _ _;split at h
   .rename_i k m k' n h1 h2;split at h
    .rename_i hk;subst hk;simp at h;subst h;have e1:=WgW (WK hr x _ h1);have e2:=WgW (WK hr y _ h2);refine⟨.int k (Wsi m n),?_,WN rfl⟩;simp only[execOp,resolve,invoke,builtin,Sem.run_bind,Sem.run_pure,Result.andThen_ok,Xdv,Xaf,Xcg,e1,e2,Builtin.max_];rfl
    grind
   grind
  grind
 grind
end
end Go.Sx
namespace Go.Sx
set_option linter.unusedVariables false
set_option linter.unusedSimpArgs false
section
variable{w0:World}{F:CS}{nt:Slots}{G0 G G':GH}{ν ν':Nat->Nu}{φ φ':Nat->CS}{objs objs':Wab}{nx am:Nat}{w w':World}{P:Program}{T:Tab}
theorem Live.of{id:Nat}{ob:Ob}(h:Wn objs id=some ob)(hd:ob≠ .dead):Live objs id:=⟨ob,h,hd⟩
theorem WG{α:Type}(k:Nat)(v:α)(l:List (Nat×α))(i:Nat):Wn ((k,v)::l) i=if k=i then some v else Wn l i:=by
 simp only[Wn];by_cases h:k=i
 .subst h;simp
 .have:Xav k i=false:=by
   grind [Xav,absurd,Xck]
  rw[this,Wc h]
theorem WbI{α:Type}:∀(l m:List (Nat×α)) (i:Nat),Wn (l++m) i=match Wn l i with
  |some x=>some x
  |none=>Wn m i
 | [],m,i=>rfl
 |(k,v)::l,m,i=>by
  rw[List.cons_append,WG,WG];split
  .rfl
  .exact WbI l m i
theorem HR.blk_lt_g(h:HR w0 F G ν φ objs nx w){b o:Nat}{v:Value}(hg:G b o=some v):b<w.heap.size:=block_lt_of_cell (h.g b o v hg)
theorem WLe.refl(S:CS)(w:World):WLe S w w:=⟨Xm _,λ_ vs _ h=>⟨vs,h,rfl⟩,λ_ _ _ _=>rfl,λ_ _ _=>rfl,rfl,rfl,rfl⟩
theorem WLe.mono{S S':CS}(h:WLe S w w')(hl:CS.le S S'):WLe S' w w':=
 ⟨h.size,h.row,λb o hb hn=>h.cell b o hb (λhs=>hn (hl b o hs)),λb hb hn=>h.whole b hb (λo hs=>hn o (hl b o hs)),h.os,h.output,h.tape⟩
theorem WLe.same{S S':CS}(h:WLe S w w')(hd:CS.disj S S')(hb:∀b o,S' b o->b<w.heap.size):Same S' w w':=
 ⟨λb n ⟨vs,T,h1,h2⟩=>by obtain⟨au,h3,h4⟩:=h.row b vs T h1;exact⟨au,T,h3,by omega⟩,λb o hs=>h.cell b o (hb b o hs) (λc9=>hd b o c9 hs)⟩
theorem WLe.rows{S:CS}(h:WLe S w w'):Same (λ_ _=>False) w w':=
 ⟨λb n ⟨vs,T,h1,h2⟩=>by obtain⟨au,h3,h4⟩:=h.row b vs T h1;exact⟨au,T,h3,by omega⟩,λ_ _ hs=>hs.elim⟩
theorem WLe.trans{S S':CS}{w1 w2 w3:World}(h:WLe S w1 w2)(h':WLe S' w2 w3)(hs:∀b o,S' b o->w1.heap.size<=b\/S b o):WLe S w1 w3 where
 size:=Xak h.size h'.size
 row b vs T hb:=by
  obtain⟨au,h1,h2⟩:=h.row b vs T hb;obtain⟨vM,h3,h4⟩:=h'.row b au T h1;simp_all
 cell b o hb hn:=by
  rw[h'.cell b o (Xbh hb h.size) (λc9=>by grind)];exact h.cell b o hb hn
 whole b hb hn:=by
  rw[h'.whole b (Xbh hb h.size) (λo c9=>by grind)];exact h.whole b hb hn
 os:=h'.os.trans h.os
 output:=h'.output.trans h.output
 tape:=h'.tape.trans h.tape
theorem WLe.alloc(S:CS)(wd:World)(o:Obj)(hh:wd.heap=w.heap)(nz:wd.os=w.os)(iU:wd.output=w.output)(fP:wd.tape=w.tape):WLe S w (wd.alloc o) where
 size:=by simp[hh]
 row b vs T hb:=by
  have ac:b<w.heap.size:=(Array.getElem?_eq_some_iff.1 hb).1;exact⟨vs,by grind [heap_alloc_old],rfl⟩
 cell b o' hb _:=World.cell?_of_block (by show(wd.alloc o).heap[b]?=w.heap[b]?;rw[heap_alloc_old wd o (by simp_all),hh])
 whole b hb _:=by rw[heap_alloc_old wd o (by simp_all),hh]
 os:=nz
 output:=iU
 tape:=fP
theorem WLe.setRow{S:CS}{b:Nat}{vs us:Array Value}{T:TypeId}(h:w.heap[b]?=some (Obj.cells vs T (0,0)))(cj:us.size=vs.size)(hc:∀o,¬S b o->us[o]?=vs[o]?):WLe S w (w.setRow b us) where
 size:=by simp
 row k au T' hk:=by
  by_cases e:k=b
  .grind [setRow_heap]
  .exact⟨au,by grind [setRow_other],rfl⟩
 cell k o hk hn:=by
  by_cases e:k=b
  .subst e;rw[cell_of_row _ k o us T (0,0) (setRow_heap w k vs us T (0,0) h),cell_of_row w k o vs T (0,0) h]
   grind
  grind [World.cell?_of_block,setRow_other]
 whole k hk hn:=by
  by_cases e:k=b
  .subst e;have:us=vs:=Array.ext_getElem? λo=>hc o (hn o);rw[setRow_heap w k vs us T (0,0) h,h,this]
  grind [setRow_other]
 os:=rfl
 output:=rfl
 tape:=rfl
def Wvr(φ:Nat->CS)(objs:Wab):CS:=λb o=>∃id,Live objs id/\φ id b o
theorem HR.step(h:HR w0 F G ν φ objs nx w)(hw:WLe (Wvr φ objs) w w')
  (aG:∀id ob,Wn objs' id=some ob->ob≠ .dead->WcM G ν' am w' id (φ' id) ob)
  (ac:∀id,Live objs' id->id<am)
  (dA:∀id b o,Live objs' id->φ' id b o->Wvr φ objs b o\/w.heap.size<=b)
  (gD:∀id b o,Live objs' id->φ' id b o->b<w'.heap.size)
  (qV:∀id cb b o,Live objs' id->Live objs' cb->φ' id b o->φ' cb b o->id=cb):
  HR w0 F G ν' φ' objs' am w' where
 g b o v hg:=by
  rw[hw.cell b o (h.blk_lt_g hg) (λ⟨id,hl,hp⟩=>by rw[h.gf id b o hl hp]at hg;cases hg)];exact h.g b o v hg
 ob id ob ho:=by
  by_cases hd:ob= .dead
  .subst hd;trivial
  simp_all
 gf id b o hl hp:=by
  rcases dA id b o hl hp with⟨qW,nA,qX⟩|dq
  .exact h.gf qW b o nA qX
  .cases hg:G b o with
   |none=>rfl
   |some v=>have:=h.blk_lt_g hg;omega
 inj:=qV
 own id b o hl hp:=by
  rcases dA id b o hl hp with⟨qW,nA,qX⟩|dq
  .exact h.own qW b o nA qX
  .exact .inl (Xak h.le.size dq)
 lt:=ac
 bl:=gD
 le:=h.le.trans hw (λb o ⟨id,hl,hp⟩=>h.own id b o hl hp)
def WwH(φ:Nat->CS)(i:Nat)(S:CS):Nat->CS:=λj=>if j=i then S else φ j
theorem WiW(φ:Nat->CS)(i:Nat)(S:CS):WwH φ i S i=S:=by simp[WwH]
theorem WfY(φ:Nat->CS){i j:Nat}(S:CS)(h:j≠i):WwH φ i S j=φ j:=by simp[WwH,h]
theorem WeB:∀(l:List Nat) (id:Nat) (ob:Ob),Wn (kill objs l) id=some ob->ob≠ .dead->Wn objs id=some ob/\id∉l
 | [],id,ob,h,_=>⟨h,by simp⟩
 |i::l,id,ob,h,hd=>by
  simp only[kill]at h;rw[WG]at h;split at h
  .simp_all
  .rename_i bI;obtain⟨h1,h2⟩:=WeB l id ob h hd
   grind
theorem WdS{l:List Nat}{id:Nat}(h:Live (kill objs l) id):Live objs id/\id∉l:=by
 obtain⟨ob,h1,h2⟩:=h;obtain⟨h3,h4⟩:=WeB l id ob h1 h2;exact⟨⟨ob,h3,h2⟩,h4⟩
def Ww8(φ:Nat->CS)(objs:Wab)(t:Nat)(m:List Nat):CS:=λb o=>∃i,(i=t\/i∈m)/\Live objs i/\φ i b o
theorem HR.put(h:HR w0 F G ν φ objs nx w){t:Nat}{m:List Nat}{ob:Ob}{S:CS}(hn:WsD nx ν ν')(hx:nx<=am)(ht:t<am)
  (hw:WLe (Ww8 φ objs t m) w w') (hS:∀b o,S b o->Ww8 φ objs t m b o\/(w.heap.size<=b/\b<w'.heap.size))
  (cX:ob≠ .dead->WcM G ν' am w' t S ob):HR w0 F G ν' (WwH φ t S) ((t,ob)::kill objs m) am w':=by
 have hl:∀id cY,Wn ((t,ob)::kill objs m) id=some cY->cY≠ .dead->(id=t/\cY=ob)\/(id≠t/\id∉m/\Wn objs id=some cY):=λid cY ho hd=>by
  grind [WG,WeB]
 have lm:∀id,Live ((t,ob)::kill objs m) id->(id=t)\/(id≠t/\id∉m/\Live objs id):=λid ⟨cY,ho,hd⟩=>by
  rcases hl id cY ho hd with⟨h1,h2⟩|⟨h1,h2,h3⟩
  .omega
  .exact .inr ⟨h1,h2,cY,h3,hd⟩
 refine h.step (hw.mono λb o ⟨i,_,h1,h2⟩=>⟨i,h1,h2⟩) (λid cY ho hd=>?_) (λid aQ=>?_) (λid b o aQ hp=>?_) (λid b o aQ hp=>?_) (λid cb b o aQ jY hp eV=>?_)
 .rcases hl id cY ho hd with⟨h1,h2⟩|⟨h1,h2,h3⟩
  .grind [WiW]
  .rw[WfY φ S h1];have aQ:Live objs id:=⟨cY,h3,hd⟩;refine WdN (λ_ _ _ hh=>hh) (hw.same (λb o ⟨i,hi,qY,qZ⟩ hp=>?_) (λb o hp=>h.bl id b o aQ hp)) (λ_ _ hh=>hh) hn hx (h.lt id aQ) cY (h.ob id cY h3);have:=h.inj i id b o qY aQ qZ hp;simp_all
 .rcases lm id aQ with h1|⟨_,_,h3⟩
  .omega
  .exact Xbh (h.lt id h3) hx
 .rcases lm id aQ with h1|⟨h1,_,h3⟩
  .subst h1;rw[WiW]at hp;rcases hS b o hp with⟨i,_,h4,h5⟩|h4
   .exact .inl ⟨i,h4,h5⟩
   omega
  .rw[WfY φ S h1]at hp;exact .inl ⟨id,h3,hp⟩
 .rcases lm id aQ with h1|⟨h1,_,h3⟩
  .subst h1;rw[WiW]at hp;rcases hS b o hp with⟨i,_,h4,h5⟩|h4
   .exact Xbh (h.bl i b o h4 h5) hw.size
   omega
  .rw[WfY φ S h1]at hp;exact Xbh (h.bl id b o h3 hp) hw.size
 .have key:∀cb,cb≠t->cb∉m->Live objs cb->φ cb b o->S b o->False:=λcb h1 h2 h3 h4 h5=>by
   rcases hS b o h5 with⟨i,hi,h6,h7⟩|h6
   .have:=h.inj i cb b o h6 h3 h7 h4;simp_all
   .have:=h.bl cb b o h3 h4;omega
  rcases lm id aQ with h1|⟨h1,h2,h3⟩<;>rcases lm cb jY with jk|⟨jk,jl,q0⟩
  .rw[h1,jk]
  .simp_all [WiW,WfY]
  .simp_all [WiW,WfY]
  .rw[WfY φ S h1]at hp;rw[WfY φ S jk]at eV;exact h.inj id cb b o h3 q0 hp eV
theorem HR.drew(h:HR w0 F G ν φ objs nx w):HR w0 F G ν φ objs nx w.drew:=by
 have hw:WLe (Wvr φ objs) w w.drew:=⟨Xm _,λ_ vs _ h=>⟨vs,h,rfl⟩,λ_ _ _ _=>rfl,λ_ _ _=>rfl,rfl,rfl,rfl⟩;exact h.step hw (λid ob ho _=>WdN (w:=w) (w':=w.drew) (S:=φ id) (λ_ _ _ hh=>hh) ⟨λ_ _ hh=>hh,λ_ _ _=>rfl⟩ (λ_ _ hh=>hh) (λ_ _=>rfl) (Xm _) (h.lt id ⟨ob,ho,by assumption⟩) ob (h.ob id ob ho))
  h.lt (λid b o hl hp=>.inl ⟨id,hl,hp⟩) (λid b o hl hp=>h.bl id b o hl hp) h.inj
theorem HRel.drew(h:HRel w0 F G ν objs nx w):HRel w0 F G ν objs nx w.drew:=by
 obtain⟨φ,h⟩:=h;exact⟨φ,h.drew⟩
end
section
variable{w0:World}{F:CS}{nt:Slots}{G0 G G':GH}{ν ν':Nat->Nu}{st:St}{a:Act}{w w':World}{P:Program}{T:Tab}
theorem Rel.put(h:Rel w0 F nt G0 G ν st a w){dst:Option Tmp}(hd:∀d,dst=some d->nt.Ok d){x:AVal}{v:Value}(hx:AValRel G ν st.nx x v):Rel w0 F nt G0 G ν (st.put dst x) (a.put dst v) w:=by
 cases dst with
 |none=>exact h
 |some d=>
  have ac:d<a.tmps.size:=by rw[h.ntm];exact(hd d rfl).1
  refine⟨h.defers,by simpa [Act.put]using h.ntm,λp hp=>?_,λi y hy=>?_,h.h,h.gx,h.ex⟩
  .simp only[Act.put];rw[Xem (λe=>(hd d rfl).2 p hp e.symm)];exact h.par p hp
  simp only[St.put]at hy;rw[WG]at hy;split at hy
  .rename_i e;subst e;injection hy with hy;subst hy;exact⟨v,by simp[Act.put,ac],hx⟩
  .rename_i bI;obtain⟨u,hu,hr⟩:=h.env i y hy;exact⟨u,by grind [Act.put,Xem],hr⟩
theorem Rel.on(h:Rel w0 F nt G0 G ν st a w){objs':Wab}{am:Nat}(hg:GLe G G')(hn:WsD st.nx ν ν')(hx:st.nx<=am)
  (hh:HRel w0 F G' ν' objs' am w') (gx:GExt w0.heap.size F G0 G'):Rel w0 F nt G0 G' ν' {env:=st.env,objs:=objs',nx:=am} a w':=
 ⟨h.defers,h.ntm,h.par,λi y hy=>by
  obtain⟨u,hu,hr⟩:=h.env i y hy
  grind [AValRel.mono],hh,gx,λx v hv=>AValRel.mono hg hn hx x v (h.ex x v hv)⟩
def upd(ν:Nat->Nu)(i:Nat)(n:Nu):Nat->Nu:=λj=>if j=i then n else ν j
theorem WfL(ν:Nat->Nu)(i:Nat)(n:Nu):WsD i ν (upd ν i n):=λj hj=>by simp[upd];omega
theorem Wbt(ν:Nat->Nu)(i:Nat)(n:Nu):upd ν i n i=n:=by simp[upd]
theorem Rel.lay(h:Rel w0 F nt G0 G ν st a w){dst:Option Tmp}(hd:∀d,dst=some d->nt.Ok d){objs':Wab}{am:Nat}(hn:WsD st.nx ν ν')(hx:st.nx<=am)
  (hh:HRel w0 F G ν' objs' am w') {x:AVal} {v:Value} (hv:AValRel G ν' am x v):Rel w0 F nt G0 G ν' (({env:=st.env,objs:=objs',nx:=am}:St).put dst x) (a.put dst v) w':=
 (h.on (λ_ _ _ hh=>hh) hn hx hh h.gx).put hd hv
theorem Rel.fresh(h:Rel w0 F nt G0 G ν st a w){dst:Option Tmp}(hd:∀d,dst=some d->nt.Ok d)(m:List Nat)(ob:Ob)(nu:Nu)(S:(Nat->CS)->CS)(x:AVal)(v:Value)
  (hw:∀φ,HR w0 F G ν φ st.objs st.nx w->WLe (Ww8 φ st.objs st.nx m) w w') (hS:∀φ,HR w0 F G ν φ st.objs st.nx w->∀b o,S φ b o->Ww8 φ st.objs st.nx m b o\/(w.heap.size<=b/\b<w'.heap.size))
  (cX:∀φ,HR w0 F G ν φ st.objs st.nx w->WcM G (upd ν st.nx nu) (st.nx+1) w' st.nx (S φ) ob)
  (hv:AValRel G (upd ν st.nx nu) (st.nx+1) x v):
  Rel w0 F nt G0 G (upd ν st.nx nu) (({env:=st.env,objs:=(st.nx,ob)::kill st.objs m,nx:=st.nx+1}:St).put dst x) (a.put dst v) w':=by
 obtain⟨φ,hφ⟩:=h.h;exact h.lay hd (WfL ν st.nx nu) (Xdc _) ⟨_,hφ.put (WfL ν st.nx nu) (Xdc _) (Xbt _) (hw φ hφ) (hS φ hφ) (λ_=>cX φ hφ)⟩ hv
theorem Rel.new(h:Rel w0 F nt G0 G ν st a w){dst:Option Tmp}(hd:∀d,dst=some d->nt.Ok d)(ob:Ob)(nu:Nu)(x:AVal)(v:Value)
  (hw:WLe (λ_ _=>False) w w')
  (cX:WcM G (upd ν st.nx nu) (st.nx+1) w' st.nx (λb _=>w.heap.size<=b/\b<w'.heap.size) ob)
  (hv:AValRel G (upd ν st.nx nu) (st.nx+1) x v):
  Rel w0 F nt G0 G (upd ν st.nx nu) (st.new dst ob x) (a.put dst v) w':=
 h.fresh hd [] ob nu (λ_ b _=>w.heap.size<=b/\b<w'.heap.size) x v (λφ _=>hw.mono λ_ _ hh=>hh.elim) (λφ _ b o hs=>.inr hs) (λφ _=>cX) hv
end
end Go.Sx
namespace Go.Sx
set_option linter.unusedVariables false
set_option linter.unusedSimpArgs false
theorem Wtj{v:Value}(h:v.oneCell'=true):v.cells= #[v]:=by
 cases v<;>first|rfl|simp[Value.oneCell']at h
section
variable{w0:World}{F:CS}{nt:Slots}{G0 G:GH}{ν:Nat->Nu}{objs:Wab}{nx:Nat}{st:St}{a:Act}{w w':World}{P:Program}{T:Tab}
theorem Wxr:∀(t:Ty),t.data=true->Enc G t t.dflt (WbD t)
 | .int _,_=>rfl
 | .bool,_=>rfl
 | .str,_=>rfl
 | .slice e,_=>⟨_,rfl,.inl ⟨rfl,rfl⟩⟩
 | .own _,h=>by simp[Ty.data]at h
 | .prod a b,h=>by
  simp only[Ty.data,Xi]at h;exact⟨_,_,rfl,Wxr a h.1,Wxr b h.2⟩
theorem Wxa:∀(t:Ty),CellsRel G ν nx (Wey t) (WbD t)
 | .int _=>CellsRel.one rfl rfl
 | .bool=>CellsRel.one rfl rfl
 | .str=>CellsRel.one rfl rfl
 | .slice e=>CellsRel.one rfl rfl
 | .own _=>CellsRel.one trivial rfl
 | .prod a b=>(Wxa a).append (Wxa b)
theorem Wbq:∀(t:Ty),(WbD t).length=t.size
 | .int _| .bool| .str| .slice _| .own _=>rfl
 | .prod a b=>by simp[WbD,Wbq a,Wbq b,Ty.size]
theorem Wl2{α:Type}(l:List α):∀n,(rep l n).length=n*l.length
 |0=>by simp[rep]
 |n+1=>by rw[rep,Xaa,Wl2 l n,Xbr,Xcw]
theorem Wg5{e:Ty}(h:e.data=true):∀n,Wef (Enc G e) (Xp n e.dflt) (rep (WbD e) n)
 |0=>rfl
 |n+1=>⟨_,_,rfl,Wxr e h,Wg5 h n⟩
theorem Wfa{t:TypeId}{te:TE}(bQ:TEok P T t te):∃z,(zeroValue t).run P w= .ok z w/\z.cells.toList=te.cells:=by
 obtain⟨i,z,hi,_,hz,hc,_⟩:=bQ.info;simp_all [zeroValue,WhF]
theorem WbF{te:TE}(h:te.plain=true):te.cells=WbD te.ty:=by
 unfold TE.plain at h;unfold TE.cells;split at h<;>simp_all
theorem Wmh(w:World)(o:Obj):(w.alloc o).heap[w.heap.size]?=some o:=heap_alloc_new w o
theorem zty:∀(t:Ty),∃ps,Wy G w t t.dflt (WbD t.ro) ps/\∀p∈ps,p.fp= λ_ _=>False
 | .int _=>⟨[],⟨rfl,rfl⟩,by simp⟩
 | .bool=>⟨[],⟨rfl,rfl⟩,by simp⟩
 | .str=>⟨[],⟨rfl,rfl⟩,by simp⟩
 | .slice e=>⟨[],⟨rfl,_,rfl,.inl ⟨rfl,rfl⟩⟩,by simp⟩
 | .own e=>⟨[⟨⟨none,0,0,0,e.size⟩,λ_ _=>False⟩],⟨_,rfl,rfl,rfl,rfl,rfl⟩,by simp⟩
 | .prod a b=>by
  obtain⟨p1,h1,h2⟩:=zty a;obtain⟨p2,h3,h4⟩:=zty b;refine⟨p1++p2,⟨_,_,p1,p2,rfl,rfl,h1,h3⟩,λp hp=>?_⟩
  grind
theorem WuV(e:Ty):∀n,∃ps,Wfh (Wy G w e) (Xp n e.dflt) (rep (WbD e.ro) n) ps/\∀p∈ps,p.fp= λ_ _=>False
 |0=>⟨[],⟨rfl,rfl⟩,by simp⟩
 |n+1=>by
  obtain⟨p1,h1,h2⟩:=zty (G:=G) (w:=w) e;obtain⟨p2,h3,h4⟩:=WuV e n;refine⟨p1++p2,⟨_,_,p1,p2,rfl,rfl,h1,h3⟩,λp hp=>?_⟩
  grind
theorem WnR:∀(ps:List Pc),(∀p∈ps,p.fp= λ_ _=>False)->Sep (ps.map Pc.fp)
 | [],_=>List.Pairwise.nil
 |p::ps,h=>Xy.2 ⟨λs _ b o hb _=>by simp_all,WnR ps λq hq=>h q (Xf _ hq)⟩
theorem Ws3(h:Rel w0 F nt G0 G ν st a w){dst:Option Tmp}(hd:∀d,dst=some d->nt.Ok d){cs:List Cell}{vs:Array Value}{t:TypeId}(hc:CellsRel G ν st.nx cs vs.toList):
  ∃ν',Rel w0 F nt G0 G ν' (st.new dst (.box cs) (.s (.one (.ptr st.nx 0)))) (a.put dst (.pointer (some ⟨w.heap.size,0,none⟩))) (w.alloc (.cells vs t)):=by
 refine⟨upd ν st.nx ⟨some w.heap.size,0,0,0,0⟩,h.new hd (.box cs) _ _ _ (WLe.alloc _ w _ rfl rfl rfl rfl) ?_ ?_⟩
 .have hl:vs.size=cs.length:=by have:=hc.1;omega
  refine⟨w.heap.size,vs.toList,by rw[Wbt],⟨vs,t,Wmh w _,by grind [Wbt]⟩,?_,hc.mono (λ_ _ _ hh=>hh) (WfL _ _ _) (Xdc _),λb o ⟨hb,_⟩=>by simp_all⟩;rw[Wbt];exact WrI (Wmh w _) (λj v hj=>by simp_all)
 .exact⟨⟨Xbt _,w.heap.size,by rw[Wbt],by rw[Wbt]⟩,rfl⟩
def FromL(φ:Nat->CS)(objs:Wab)(m:List Nat):CS:=λb o=>∃i∈m,Live objs i/\φ i b o
theorem Wia(h:Rel w0 F nt G0 G ν st a w){dst:Option Tmp}(hd:∀d,dst=some d->nt.Ok d)(m:List Nat){e:Ty}{xs:List e.den}{cap:Nat}{vs:Array Value}{t:TypeId}{cs:List Value}(hx:xs.length<=cap)(hI:cap<=maxLen)
  (cj:vs.size=cap*e.size) (hc:∀φ,HR w0 F G ν φ st.objs st.nx w->∃ps,Wfh (Wy G w e) xs cs ps/\Sep (ps.map Pc.fp)/\∀p∈ps,CS.le p.fp (FromL φ st.objs m)) (hp:cs<+:vs.toList)
  (wd:World) (pY:wd.heap=w.heap) (nz:wd.os=w.os) (iU:wd.output=w.output) (fP:wd.tape=w.tape):
  (∃ν',Rel w0 F nt G0 G ν' (({env:=st.env,objs:=(st.nx,.arr e xs)::kill st.objs m,nx:=st.nx+1}:St).put dst (.s (.one (.own st.nx)))) (a.put dst (.slice (some ⟨w.heap.size,0,none⟩) xs.length cap)) (wd.alloc (.cells vs t)))/\
  (∃ν',Rel w0 F nt G0 G ν' (({env:=st.env,objs:=(st.nx,.arr e xs)::kill st.objs m,nx:=st.nx+1}:St).put dst (.s (.one (.aptr st.nx)))) (a.put dst (.pointer (some ⟨w.heap.size,0,none⟩))) (wd.alloc (.cells vs t))):=by
 have lP:(wd.alloc (.cells vs t)).heap[w.heap.size]?=some (Obj.cells vs t (0,0)):=by grind [Wmh]
 have key:∀(x:AVal) (v:Value),AValRel G (upd ν st.nx ⟨some w.heap.size,0,xs.length,cap,e.size⟩) (st.nx+1) x v->
   ∃ν',Rel w0 F nt G0 G ν' (({env:=st.env,objs:=(st.nx,.arr e xs)::kill st.objs m,nx:=st.nx+1}:St).put dst x) (a.put dst v) (wd.alloc (.cells vs t)):=λx v hv=>by
  refine⟨upd ν st.nx ⟨some w.heap.size,0,xs.length,cap,e.size⟩,h.fresh hd m (.arr e xs) _ (λφ b o=>FromL φ st.objs m b o\/b=w.heap.size) x v (λφ _=>WLe.alloc _ wd _ pY nz iU fP) (λφ hφ b o hs=>?_) (λφ hφ=>?_) hv⟩
  .rcases hs with⟨i,hi,h1,h2⟩|hs
   .exact .inl ⟨i,.inr hi,h1,h2⟩
   simp_all
  .obtain⟨ps,h1,h2,h3⟩:=hc φ hφ;have gD:∀p∈ps,∀b o,p.fp b o->b<w.heap.size:=λp eV b o hh=>by
    obtain⟨i,_,g1,g2⟩:=h3 p eV b o hh;exact hφ.bl i b o g1 g2
   show WbN (wd.alloc (.cells vs t)) (Wy G _ e) e.size (upd ν st.nx ⟨some w.heap.size,0,xs.length,cap,e.size⟩ st.nx) xs _;rw[Wbt];refine⟨rfl,rfl,hx,hI,⟨vs,t,lP,by simp_all⟩,cs,ps,?_,?_,Xy.2 ⟨λs hs b o ⟨hb,_⟩ iW=>?_,h2⟩,λs hs b o iW=>?_⟩
   .refine WbQ (Q:=λp=>∀b o,p.fp b o->b<w.heap.size) (λx c p eV hh=>?_) _ _ _ gD h1;exact WaE (λ_ _ _ hh=>hh) e x c p (λq hq=>(WLe.alloc (λ_ _=>False) wd _ pY nz iU fP).same (λ_ _ hh _=>hh) (eV q hq)) hh
   .obtain⟨tl,pX⟩:=hp;exact WrI lP (λj v hj=>by grind)
   .obtain⟨p,eV,rfl⟩:=Xw.1 hs
    grind
   .rcases Xs.1 hs with rfl|hs
    .exact .inr iW.1
    .obtain⟨p,eV,rfl⟩:=Xw.1 hs;exact .inl (h3 p eV b o iW)
 refine⟨key _ _ ⟨⟨Xbt _,?_⟩,rfl⟩,key _ _ ⟨⟨Xbt _,w.heap.size,by rw[Wbt],by rw[Wbt]⟩,rfl⟩⟩;rw[Wbt];rfl
theorem Woe(h:Rel w0 F nt G0 G ν st a w){dst:Option Tmp}(hd:∀d,dst=some d->nt.Ok d){e:Ty}(he:e.data=true){xs:List e.den}{cap:Nat}{vs:Array Value}{t:TypeId}{cs:List Value}(hx:xs.length<=cap)(hI:cap<=maxLen)
  (cj:vs.size=cap*e.size) (hc:Wef (Enc G e) xs cs) (hp:cs<+:vs.toList) (wd:World) (pY:wd.heap=w.heap) (nz:wd.os=w.os) (iU:wd.output=w.output) (fP:wd.tape=w.tape):
  (∃ν',Rel w0 F nt G0 G ν' (st.new dst (.arr e xs) (.s (.one (.own st.nx)))) (a.put dst (.slice (some ⟨w.heap.size,0,none⟩) xs.length cap)) (wd.alloc (.cells vs t)))/\
  (∃ν',Rel w0 F nt G0 G ν' (st.new dst (.arr e xs) (.s (.one (.aptr st.nx)))) (a.put dst (.pointer (some ⟨w.heap.size,0,none⟩))) (wd.alloc (.cells vs t))):=
 Wia h hd [] hx hI cj (λφ _=>⟨[],(WcC he xs cs []).2 ⟨hc,rfl⟩,List.Pairwise.nil,by simp⟩) hp wd pY nz iU fP
theorem WdQ{x:AVal}{v:Value}{cs:List Cell}(hx:AValRel G ν nx x v)(hb:Wg1 x=some cs):CellsRel G ν nx cs v.cells.toList/\∀u∈v.cells.toList,u.oneCell'=true:=by
 cases x with
 |tup xs=>simp[Wg1]at hb
 |s y=>
  cases y with
  |one c=>
   simp[Wg1]at hb;subst hb;obtain⟨h1,h2⟩:=hx
   grind [Wtj,CellsRel.one]
  |agg ds=>
   simp[Wg1]at hb;subst hb;obtain⟨vs,rfl,h1⟩:=hx;refine⟨by grind [Value.cells],λu hu=>?_⟩;simp[Value.cells]at hu;obtain⟨j,hj⟩:=List.getElem?_of_mem hu;have ac:j<ds.length:=by rw[←h1.1];grind
   exact(h1.2 j _ u (Xq ac) hj).2
theorem WcZ(t:TypeId)(vs:Array Value):(newRow t vs).run P w= .ok ⟨w.heap.size,0,none⟩ (w.alloc (.cells vs t)):=rfl
theorem We9{cs ds:List Cell}{off:Nat}(h:off+ds.length<=cs.length):(Wes cs off ds).length=cs.length:=by
 simp[Wes];omega
theorem Wfi{cs ds:List Cell}{vs us:List Value}{off:Nat}(hc:CellsRel G ν nx cs vs)(hd:CellsRel G ν nx ds us):
  CellsRel G ν nx (Wes cs off ds) (vs.take off++us++vs.drop (off+us.length)):=by
 rw[hd.1];exact((hc.take off).append hd).append (hc.drop _)
theorem Wja(us:List Value):∀(off k:Nat) (cs:Array Value),off+k+us.length<=cs.size->
  ((us.zipIdx k).foldl (λcs (c,j)=>cs.setIfInBounds (off+j) c) cs).toList=cs.toList.take (off+k)++us++cs.toList.drop (off+k+us.length):=by
 induction us with
 |nil=>simp_all
 |cons u us ih=>
  intro off k cs h;simp only[List.zipIdx_cons,List.foldl_cons,Xr]at h⊢;rw[ih off (k+1) _ (by simp;omega)];have ac:off+k<cs.toList.length:=by simp;omega
  simp only[Array.toList_setIfInBounds];generalize cs.toList=l at*;have e1:(l.set (off+k) u).take (off+(k+1))=l.take (off+k)++ [u]:=by
   rw[←Xba,List.take_succ_eq_append_getElem (by simp_all),List.take_set_of_le (Xm _)];simp
  grind [List.drop_set_of_lt]
end
end Go.Sx
namespace Go.Sx
set_option linter.unusedVariables false
set_option linter.unusedSimpArgs false
section
variable{w0:World}{F:CS}{nt:Slots}{G0 G:GH}{ν:Nat->Nu}{objs:Wab}{nx:Nat}{st af:St}{a:Act}{w w':World}{P:Program}{T:Tab}
def Done(P:Program)(w0:World)(F:CS)(nt:Slots)(G0:GH)(o:Oper)(a:Act)(w:World)(af:St):Prop:=
 ∃n v w' G' ν',(execOp a.eval o).run P w= .ok n w'/\(n= .value v\/(n= .skip/\v=undef))/\Rel w0 F nt G0 G' ν' af (a.put o.dst v) w'
theorem Wgd(hr:Rel w0 F nt G0 G ν st a w):∀(l:List (Nat×Operand)) (ps:List (Nat×AVal)),WcI st l=some ps->
  ps.length=l.length/\∀(j:Nat) (p:Nat×AVal) (q:Nat×Operand),ps[j]?=some p->l[j]?=some q->p.1=q.1/\AValRel G ν st.nx p.2 (a.eval q.2)
 | [],ps,h=>by simp[WcI]at h;simp_all
 |(i,x)::l,ps,h=>by
  simp only[WcI]at h;split at h
  .rename_i y ys h1 h2;injection h with h;subst h;obtain⟨h3,h4⟩:=Wgd hr l ys h2;refine⟨by simp[h3],λj p q hp hq=>?_⟩;cases j with
   |zero=>simp at hp hq;subst hp hq;exact⟨rfl,WK hr x _ h1⟩
   |succ j=>grind
  grind
theorem Wkt(hT:Wai P T){fs:List (Nat×TypeId)}{place:Nat->Option (Nat×Nat)}
  (eU:∀(i off:Nat) (ft:TypeId) (te:TE),fs[i]?=some (off,ft)->Wn T ft=some te->place i=some (off,te.size)) (hJ:∀(i off:Nat) (ft:TypeId) (te:TE),fs[i]?=some (off,ft)->Wn T ft=some te->te.plain=true):
  ∀(l:List (Nat×AVal)) (ps:List (Nat×Value)) (cs cI:List Cell) (vs:Array Value),CellsRel G ν nx cs vs.toList->ps.length=l.length->
   (∀(j:Nat) (p:Nat×AVal) (q:Nat×Value),l[j]?=some p->ps[j]?=some q->p.1=q.1/\AValRel G ν nx p.2 q.2)->WnP T fs l cs=some cI->
   ∃au,Instr.fill place vs ps=some au/\CellsRel G ν nx cI au.toList
 | [],[],cs,cI,vs,hc,_,_,h=>by simp[WnP]at h;subst h;exact⟨vs,rfl,hc⟩
 |(i,x)::l,[],_,_,_,_,hl,_,_=>by simp at hl
 | [],_::_,_,_,_,_,hl,_,_=>by simp at hl
 |(i,x)::l,(i',v)::ps,cs,cI,vs,hc,hl,hp,h=>by
  obtain⟨he,hx⟩:=hp 0 _ _ rfl rfl;simp only at he hx;subst he;simp only[WnP]at h;split at h
  .rename_i off ft hf;split at h
   .rename_i te ds bQ gR;split at h
    .rename_i bE;simp only[Xi,Wi]at bE;obtain⟨h1,h2⟩:=bE;obtain⟨h3,_⟩:=WdQ hx gR;have cj:v.cells.size=ds.length:=by have:=h3.1;omega
     have fO:vs.size=cs.length:=by have:=hc.1;omega
     have vN:=hJ _ _ _ _ hf bQ;have ey:=Wja v.cells.toList off 0 vs (by simp;omega);simp only[Xbe,Xaq]at ey;have fY:CellsRel G ν nx (Wes cs off ds) (v.cells.toList.zipIdx.foldl (λcs (c,j)=>cs.setIfInBounds (off+j) c) vs).toList:=by
      rw[ey];have:=Wfi (off:=off) hc h3;omega
     obtain⟨au,h4,h5⟩:=Wkt hT eU hJ l ps _ cI _ fY (by simp_all) (λj p q hj hq=>hp (j+1) p q (by simp_all) (by simp_all)) h;refine⟨au,?_,h5⟩;simp only[Instr.fill,eU _ _ _ _ hf bQ];rw[Wc (by grind [WY])];rw[←h4];congr 1;rw[←Array.foldl_toList];simp
    grind
   grind
  grind
theorem Wgh{α β:Type}(f:α->Sem β)(g:α->β):∀(l:List α),(∀x∈l,(f x).run P w= .ok (g x) w)->(l.mapM f).run P w= .ok (l.map g) w
 | [],_=>by simp
 |x::l,h=>by
  simp only[Xey,Sem.run_bind,h x (Xj ..),Result.andThen_ok,Wgh f g l (λy hy=>h y (Xf _ hy)),Sem.run_pure,Xaf]
theorem WmJ{α β:Type}(f:α->Sem β)(g:α->β)(l:Array α)(h:∀x∈l,(f x).run P w= .ok (g x) w):(l.mapM f).run P w= .ok (l.map g) w:=by
 rw[Array.mapM_eq_mapM_toList];simp only[Sem.run_map,Wgh f g l.toList (λx hx=>h x (by simp_all)),Result.andThen_ok];congr 1
 grind
theorem Wrf(hT:Wai P T)(hr:Rel w0 F nt G0 G ν st a w){o:Oper}(hd:∀d,o.dst=some d->nt.Ok d){t:TypeId}{parts:Array (Nat×Operand)}(ho:o.op= .build t parts)
  {ty:Ty} {fs:List (Nat×TypeId)} {ps:List (Nat×AVal)} {cs:List Cell} (hl:Wn T t=some ⟨ty,true,.struct fs⟩) (co:WcI st parts.toList=some ps) (hf:WnP T fs ps (Wey ty)=some cs)
  (eU:∀f∈fs,∃te,Wn T f.2=some te/\te.plain=true):
  Done P w0 F nt G0 o a w (st.put o.dst (.s (.agg cs))):=by
 have bQ:=hT _ _ hl;obtain⟨_,fields,hu,eY,_⟩:=bQ.und;obtain⟨z,hz,dY⟩:=Wfa (w:=w) bQ;obtain⟨h1,h2⟩:=Wgd hr _ _ co;have cj:∀f∈fields,∃te,Wn T f.type=some te/\te.plain=true:=λf hf=>eU (f.offset,f.type) (by grind)
 let sz:Field->Nat:=λf=>match Wn T f.type with|some te=>te.size|none=>0
 have bh:(fields.mapM λf=>(do pure (f.offset,←sizeOf f.type):Sem (Nat×Nat))).run P w= .ok (fields.map λf=>(f.offset,sz f)) w:=by
  refine WmJ _ (λf=>(f.offset,sz f)) fields (λf hf=>?_);obtain⟨te,dH,_⟩:=cj f hf;simp[sz,(hT _ _ dH).sizeOf,dH]
 have mq:∀(i off:Nat) (ft:TypeId) (te:TE),fs[i]?=some (off,ft)->Wn T ft=some te->(fields.map λf=>(f.offset,sz f))[i]?=some (off,te.size):=λi off ft te hi dH=>by
  grind
 have n7:CellsRel G ν st.nx (Wey ty) z.cells.toList:=by
  rw[dY];exact Wxa ty
 obtain⟨au,h3,h4⟩:=Wkt hT mq (λi off ft te hi dH=>by
   obtain⟨dW,h5,h6⟩:=eU _ (List.mem_of_getElem? hi);simp_all) ps (parts.toList.map λp=>(p.1,a.eval p.2)) _ cs z.cells n7 (by simp[h1]) (λj p q hp hq=>by
   grind) hf
 refine⟨.value (.agg au),.agg au,w,G,ν,?_,.inl rfl,hr.put hd ⟨au.toList,by simp,h4⟩⟩;simp only[execOp,ho,Instr.build,Sem.run_bind,hz,Result.andThen_ok,Wl hu,bh];have:(parts.map λx=>match x with|(i,x)=>(i,a.eval x)).toList=parts.toList.map λp=>(p.1,a.eval p.2):=by simp
 rw[this,h3];rfl
theorem Wqv(hT:Wai P T)(hr:Rel w0 F nt G0 G ν st a w){o:Oper}(hd:∀d,o.dst=some d->nt.Ok d){t:TypeId}(ho:o.op= .alloc t){te:TE}(hl:Wn T t=some te)(hp:te.plain=true):
  Done P w0 F nt G0 o a w (st.new o.dst (.box (Wey te.ty)) (.s (.one (.ptr st.nx 0)))):=by
 obtain⟨z,hz,dY⟩:=Wfa (w:=w) (hT _ _ hl);obtain⟨ν',h⟩:=Ws3 (t:=t) (vs:=z.cells) hr hd (cs:=Wey te.ty) (by grind [WbF,Wxa]);refine⟨_,_,_,G,ν',?_,.inl rfl,h⟩;simp_all [execOp,Instr.alloc,Sem.run_bind,Result.andThen_ok,newVar,WcZ,Sem.run_pure]
theorem Wl8(hT:Wai P T)(hr:Rel w0 F nt G0 G ν st a w){o:Oper}(hd:∀d,o.dst=some d->nt.Ok d){t:TypeId}(ho:o.op= .alloc t){e:Ty}{n:Nat}{et:TypeId}(hl:Wn T t=some ⟨e,true,.arr n et⟩)(bn:e.data=true)(ax:Wz n=true):
  Done P w0 F nt G0 o a w (st.new o.dst (.arr e (Xp n e.dflt)) (.s (.one (.aptr st.nx)))):=by
 obtain⟨z,hz,dY⟩:=Wfa (w:=w) (hT _ _ hl);have hn:n<=maxLen:=by grind [Wz,maxLen]
 have ad:z.cells.size=n*e.size:=by
  grind [Xaq,TE.cells,Wl2,Wbq]
 obtain⟨_,ν',h⟩:=Woe (t:=t) (vs:=z.cells) hr hd (e:=e) bn (xs:=Xp n e.dflt) (cap:=n) (cs:=rep (WbD e) n) (by simp) hn ad (Wg5 bn n) (by rw[dY];exact List.prefix_refl _) w rfl rfl rfl rfl;refine⟨_,_,_,G,ν',?_,.inl rfl,h⟩;simp_all [execOp,Instr.alloc,Sem.run_bind,Result.andThen_ok,newVar,WcZ,Sem.run_pure]
theorem Wtt(hr:Rel w0 F nt G0 G ν st a w){o:Oper}(hd:∀d,o.dst=some d->nt.Ok d){t:TypeId}{x:Operand}(ho:o.op= .box t x){v:AVal}{cs:List Cell}(hv:ev st x=some v)(hb:Wg1 v=some cs):
  Done P w0 F nt G0 o a w (st.new o.dst (.box cs) (.s (.one (.ptr st.nx 0)))):=by
 obtain⟨h1,_⟩:=WdQ (WK hr x _ hv) hb;obtain⟨ν',h⟩:=Ws3 (t:=t) hr hd h1;refine⟨_,_,_,G,ν',?_,.inl rfl,h⟩;simp only[execOp,ho,Instr.box,Sem.run_bind,Result.andThen_ok,newVar,WcZ,Sem.run_pure]
theorem Wst(hT:Wai P T)(hr:Rel w0 F nt G0 G ν st a w){o:Oper}(hd:∀d,o.dst=some d->nt.Ok d){r:AVal}(h:Waf T st o.op=some (true,r)):Done P w0 F nt G0 o a w (st.put o.dst r):=by
 obtain⟨v,h1,h2⟩:=WqI hT hr h;exact⟨_,v,w,G,ν,h1,.inl rfl,hr.put hd h2⟩
end
end Go.Sx
namespace Go.Sx
set_option linter.unusedVariables false
set_option linter.unusedSimpArgs false
theorem WfR{t t':Ty}{d:t.den}{d':t'.den}(h:Wn5 t t' d=some d'):∃e:t=t',e▸d=d':=by
 grind [Wn5]
theorem Waw{e e':Ty}{d:List e.den}{d':List e'.den}(h:WgO e e' d=some d'):∃he:e=e',he▸d=d':=by
 grind [WgO]
theorem WrG{A A':Type}(hA:A=A')(h:List A=List A')(l:List A)(i:Nat):cast h (l.take i)=(cast h l).take i:=by
 grind
theorem WrZ{A A':Type}(hA:A=A')(h:List A=List A')(l:List A)(i:Nat):cast h (l.drop i)=(cast h l).drop i:=by
 grind
theorem Wq2(e:Ty)(l:List e.den)(i:Nat):WcL e (l.take i)=(WcL e l).take i:=WrG (Weu e).symm _ l i
theorem WqB(e:Ty)(l:List e.den)(i:Nat):WcL e (l.drop i)=(WcL e l).drop i:=WrZ (Weu e).symm _ l i
section
variable{w0:World}{F:CS}{G G':GH}{ν:Nat->Nu}{φ:Nat->CS}{objs:Wab}{nx:Nat}{w:World}
def Lent(G':GH)(w:World)(φ:Nat->CS)(objs:Wab)(l:List Nat):Prop:=∀id∈l,Live objs id->Froz G' w (φ id)
theorem Lent.mono{l m:List Nat}(h:Lent G' w φ objs m)(hs:∀i∈l,i∈m):Lent G' w φ objs l:=λid bM=>h id (hs id bM)
theorem CellsRel.single{c:Cell}{vs:List Value}(h:CellsRel G ν nx [c] vs):∃v,vs= [v]/\CellRel G ν nx c v/\v.oneCell'=true:=by
 obtain⟨h1,h2⟩:=h
 match vs,h1 with
 | [v],_=>exact⟨v,rfl,h2 0 c v rfl rfl⟩
theorem WgD{t:Ty}{c:Cell}{d:t.den}{v:Value}(hg:GLe G G')(h:CellRel G ν nx c v)(hf:Wj5 t c=some d):Enc G' t d [v]:=by
 unfold Wj5 at hf;split at hf
 .obtain⟨e,hd⟩:=WfR hf;subst e;simp only at hd;subst hd;exact Wba hg _ _ _ h
 grind
theorem FromL.mono{m m':List Nat}(h:∀i∈m,i∈m'):CS.le (FromL φ objs m) (FromL φ objs m'):=λb o ⟨i,hi,h1⟩=>⟨i,h i hi,h1⟩
theorem FromL.one{i:Nat}{m:List Nat}(hi:i∈m)(hl:Live objs i):CS.le (φ i) (FromL φ objs m):=λb o h=>⟨i,hi,hl,h⟩
theorem FromL.disj(h:HR w0 F G ν φ objs nx w){m m':List Nat}(hd:∀i∈m,i∉m'):CS.disj (FromL φ objs m) (FromL φ objs m'):=λb o ⟨i,hi,h1,h2⟩ ⟨j,hj,h3,h4⟩=>by
 have:=h.inj i j b o h1 h3 h2 h4;simp_all
theorem CS.disj.mono{A B A' B':CS}(h:CS.disj A B)(h1:CS.le A' A)(h2:CS.le B' B):CS.disj A' B':=λb o ha hb=>h b o (h1 b o ha) (h2 b o hb)
theorem CS.disj.symm{A B:CS}(h:CS.disj A B):CS.disj B A:=λb o ha hb=>h b o hb ha
theorem Woh{l m:List CS}{A B:CS}(h1:Sep l)(h2:Sep m)(ha:∀s∈l,CS.le s A)(hb:∀s∈m,CS.le s B)(hd:CS.disj A B):Sep (l++m):=
 Xah.2 ⟨h1,h2,λs hs t ht=>hd.mono (ha s hs) (hb t ht)⟩
theorem WmT{l1 l2 l3:List CS}(tV:Sep (l1++l3))(h2:Sep l2)(hd:∀s∈l2,∀t∈l1++l3,CS.disj s t):Sep (l1++(l2++l3)):=by
 obtain⟨h1,h3,h4⟩:=Xah.1 tV;refine Xah.2 ⟨h1,Xah.2 ⟨h2,h3,λs hs t ht=>hd s hs t (Xg _ ht)⟩,λs hs t ht=>?_⟩;rcases Xo.1 ht with ht|ht
 .exact(hd t ht s (Xn _ hs)).symm
 simp_all
theorem Wgr{b off i n cap:Nat}(hi:i<cap){S:CS}(h1:CS.le (rng b off (i*n)) S)(h2:CS.le (rng b (off+i*n) n) S)(h3:CS.le (rng b (off+(i+1)*n) ((cap-(i+1))*n)) S):CS.le (rng b off (cap*n)) S:=λb' o ⟨e,g1,g2⟩=>by
 have e1:(i+1)*n=i*n+n:=Xbr i n;have e2:(cap-(i+1))*n+(i+1)*n=cap*n:=by rw[←Xcs];grind
 by_cases c1:o<off+i*n
 .exact h1 b' o ⟨e,g1,c1⟩
 .by_cases c2:o<off+i*n+n
  .exact h2 b' o ⟨e,by omega,c2⟩
  .exact h3 b' o ⟨e,by omega,by omega⟩
theorem Wut{b a n c m:Nat}(h:a+n<=c):CS.disj (rng b a n) (rng b c m):=λb' o ⟨_,h1,h2⟩ ⟨_,h3,h4⟩=>by omega
theorem WpP{e:Ty}{nu np:Nu}{xs:List e.den}{i:Nat}{S S1 S2:CS}(h:Wh4 w (Wy G w e) e.size nu np xs i S){d:e.den}{vs:List Value}{ns:List Pc}(hd:Wy G w e d vs ns)
  {b:Nat} (hb:np.blk=some b) (hm:Mem w b np.off vs) (hr:CS.le (rng b np.off e.size) S1) (hs:Sep (ns.map Pc.fp)) (eE:∀p∈ns,CS.le p.fp S2) (d1:CS.disj S S1) (d2:CS.disj S S2) (d3:CS.disj S1 S2)
  {S':CS} (l1:CS.le S S') (l2:CS.le S1 S') (l3:CS.le S2 S'):WbN w (Wy G w e) e.size nu (xs.set i d) S':=by
 obtain⟨h1,h2,h3,b',h4,h5,h6,h7,h8,h9,c1,c2,p1,p2,g1,g2,g3,g4,g5,g6⟩:=h;rw[hb]at h5;injection h5 with h5;subst h5;have bK:=Wa4 (λx c q hx=>WH e x c q hx) _ _ _ g1;rw[Xbj,Xcd (by omega)]at bK;have aQ:=WH _ _ _ _ hd;have e1:(i+1)*e.size=i*e.size+e.size:=Xbr i e.size;refine⟨by simp_all,h2,?_⟩;simp only[h4];have gA:=g6 _ (Xj ..);have gC:=g6 _ (Xf _ (Xj ..));have gp:∀s∈(p1++p2).map Pc.fp,CS.le s S:=λs hs=>g6 s (Xf _ (Xf _ hs));obtain⟨q1,q2⟩:=Xy.1 g5;obtain⟨q3,q4⟩:=Xy.1 q2;rw[h6]at hm hr;refine⟨by simp_all,h8,h9,c1++(vs++c2),p1++(ns++p2),Wp6 h3 g1 hd g2,?_,Xy.2 ⟨λs c9=>?_,?_⟩,λs c9=>?_⟩
 .refine g3.app (n:=i*e.size) ?_ bK;refine hm.app (n:=e.size) ?_ aQ
  grind
 .
  simp only[Xz,Xo]at c9;have key:∀s,(CS.disj s (rng b nu.off (i*e.size)))->CS.disj s (rng b (nu.off+i*e.size) e.size)->CS.disj s (rng b (nu.off+(i+1)*e.size) ((nu.cap-(i+1))*e.size))->CS.disj (rng b nu.off (nu.cap*e.size)) s:=λs k1 k2 k3 b' o jm iW=>
   (Wgr (show i<nu.cap by omega) (S:=λb o=>¬s b o) (λb o hh hs=>k1 b o hs hh) (λb o hh hs=>k2 b o hs hh) (λb o hh hs=>k3 b o hs hh) b' o jm) iW
  have vQ:∀s∈(p1++p2).map Pc.fp,CS.disj (rng b nu.off (nu.cap*e.size)) s:=λs hs=>key s (q1 s (Xf _ hs)).symm (d1.mono (gp s hs) hr) (q3 s hs).symm;rcases c9 with c9|c9|c9
  .simp_all
  .obtain⟨p,hp,rfl⟩:=Xw.1 c9;exact key _ (d2.mono gA (eE p hp)).symm (d3.mono hr (eE p hp)).symm (d2.mono gC (eE p hp)).symm
  simp_all
 .rw[Xz,Xz];rw[Xz]at q4 gp;refine WmT q4 hs (λs c9 t ht=>?_);obtain⟨p,hp,rfl⟩:=Xw.1 c9;exact(d2.mono (gp t ht) (eE p hp)).symm
 .rcases Xs.1 c9 with rfl|c9
  .exact Wgr (show i<nu.cap by omega) (λb o hh=>l1 b o (gA b o hh)) (λb o hh=>l2 b o (hr b o hh)) (λb o hh=>l1 b o (gC b o hh))
  .simp only[Xz,Xo]at c9;rcases c9 with c9|c9|c9
   .exactλb o hh=>l1 b o (gp s (by simp_all) b o hh)
   .obtain⟨p,hp,rfl⟩:=Xw.1 c9
    exactλb o hh=>l3 b o (eE p hp b o hh)
   .exactλb o hh=>l1 b o (gp s (by simp_all) b o hh)
def Nu.part(n:Nu)(lo hi:Nat):Nu:=⟨n.blk,if n.cap=lo then n.off else n.off+lo*n.esz,hi-lo,n.cap-lo,n.esz⟩
theorem Wlu{n:Nu}{lo hi:Nat}:(n.part lo hi).hdr=n.vhdr lo hi:=by
 unfold Nu.hdr Nu.vhdr Nu.part;cases n.blk<;>rfl
theorem WpK{e:Ty}{nu:Nu}{xs:List e.den}{S:CS}{lo hi:Nat}(h:WbN w (Wy G w e) e.size nu xs S)(h1:lo<=hi)(h2:hi<=nu.len):WbN w (Wy G w e) e.size (nu.part lo hi) ((xs.take hi).drop lo) S:=by
 obtain⟨g1,g2,g3⟩:=h;refine⟨by simp[Nu.part];omega,g2,?_⟩;show match nu.blk with|none=>_|some b=>_
 cases hb:nu.blk with
 |none=>simp_all
 |some b=>
  simp only[hb]at g3;obtain⟨g4,g5,g6,cs,ps,g7,g8,g9,pZ⟩:=g3;obtain⟨c1,c2,p1,p2,k1,k2,k3,k4⟩:=WeO xs cs ps hi g7;obtain⟨d1,d2,q1,q2,k5,k6,k7,k8⟩:=WeO (xs.take hi) c1 p1 lo k3;have hl:=Wa4 (λx c q hx=>WH e x c q hx) _ _ _ k7;rw[Xbj,Xbj,Xcd (by omega)]at hl;have cP:(nu.cap-lo)*e.size+lo*e.size=nu.cap*e.size:=by rw[←Xcs];grind
  have ad:((xs.take hi).drop lo).length=hi-lo:=by simp;omega
  by_cases hc:nu.cap=lo
  .have h0:(xs.take hi).drop lo= []:=Xx (by omega);have e0:nu.cap-lo=0:=by omega
   simp only[Nu.part,Wf hc,e0,Nat.zero_mul,Xbe];rw[h0]at k8⊢;refine⟨Xci _,Xci _,?_,[],[],⟨rfl,rfl⟩,λj v hj=>by simp at hj,Xy.2 ⟨by simp,List.Pairwise.nil⟩,λs hs=>?_⟩
   .obtain⟨vs,T,r1,r2⟩:=g6;exact⟨vs,T,r1,by omega⟩
   .simp at hs;subst hs
    exactλb o ⟨_,r1,r2⟩=>WD r2 (by omega)
  .simp only[Nu.part,Wc hc,g2];have bd:CS.le (rng b (nu.off+lo*e.size) ((nu.cap-lo)*e.size)) (rng b nu.off (nu.cap*e.size)):=λb' o ⟨r0,r1,r2⟩=>⟨r0,by omega,by omega⟩;refine⟨by omega,by omega,?_,d2,q2,k8,?_,?_,λs hs=>?_⟩
   .grind
   .rw[k1,k5,List.append_assoc]at g8;exact(g8.right hl).left
   .obtain⟨r1,r2⟩:=Xy.1 g9;rw[k2,k6,Xz,Xz]at r1 r2;refine Xy.2 ⟨λs hs=>(r1 s (Xn _ (Xg _ hs))).mono bd (λ_ _ hh=>hh),?_⟩
    grind
   .rcases Xs.1 hs with rfl|hs
    .exactλb' o hh=>pZ _ (Xj ..) b' o (bd b' o hh)
    simp_all
theorem WnE{e:Ty}{nu:Nu}{xs:List e.den}{S:CS}{lo hi:Nat}(h:WbN w (Wy G w e) e.size nu xs S)(h1:lo<=hi)(h2:hi<=nu.len):WbN w (Wy G w e) e.size (nu.part lo hi) (List.drop lo (List.take hi xs)) S:=WpK h h1 h2
theorem Wrc(hg:GLe G G'){e:Ty}{nu np:Nu}{xs:List e.den}{i:Nat}{S S1:CS}(h:Wh4 w (Wy G w e) e.size nu np xs i S){d:e.ro.den}{vs:List Value}(hd:Enc G' e.ro d vs)
  {b:Nat} (hb:np.blk=some b) (hm:Mem w b np.off vs) (hr:CS.le (rng b np.off e.size) S1) (f1:Froz G' w S) (f2:Froz G' w S1):WjN G' (Enc G' e.ro) ((WcL e xs).set i d) nu.hdr:=by
 obtain⟨h1,h2,h3,b',h4,h5,h6,h7,h8,h9,c1,c2,p1,p2,g1,g2,g3,g4,g5,g6⟩:=h;rw[hb]at h5;injection h5 with h5;subst h5;have bK:=Wa4 (λx c q hx=>WH e x c q hx) _ _ _ g1;have lQ:=Wa4 (λx c q hx=>WH e x c q hx) _ _ _ g2;rw[Xbj,Xcd (by omega)]at bK;rw[Xdw]at lQ;have aQ:=W5 _ _ _ hd;rw[WbC]at aQ;have e1:(i+1)*e.size=i*e.size+e.size:=Xbr i e.size;rw[h6]at hm hr;have gA:=g6 _ (Xj ..);have gC:=g6 _ (Xf _ (Xj ..));have gp:∀p∈p1++p2,Froz G' w p.fp:=λp hp=>f1.mono (g6 _ (Xf _ (Xf _ (Xam hp))));have jX:(xs.length-(i+1))*e.size<=(nu.cap-(i+1))*e.size:=Xax _ (by omega);have E1:=WlF (λx c p hp hx=>WdZ hg e x c p hp hx) _ _ _ (λq hq=>gp q (Xn _ hq)) g1;have E2:=WlF (λx c p hp hx=>WdZ hg e x c p hp hx) _ _ _ (λq hq=>gp q (Xg _ hq)) g2;rw[Wq2]at E1;rw[WqB]at E2;have ad:(WcL e xs).length=xs.length:=WgE e xs;have eset:(WcL e xs).set i d=(WcL e xs).take i++(d::(WcL e xs).drop (i+1)):=by
  rw[Xeg,Wf (by omega)]
 unfold Nu.hdr;simp only[h4];refine .inr (.inl ⟨b,nu.off,nu.cap,c1++(vs++c2),by rw[List.length_set,ad,h1],by grind,h8,?_,λj v hj=>?_⟩)
 .rw[eset];exact Wel _ _ _ _ E1 ⟨vs,c2,rfl,hd,E2⟩
 .have s1:WfF G' b nu.off c1:=g3.stored (n:=i*e.size) (by omega) (f1.mono gA);have s2:WfF G' b (nu.off+i*e.size) vs:=hm.stored (n:=e.size) (by omega) (f2.mono hr);have s3:WfF G' b (nu.off+(i+1)*e.size) c2:=g4.stored (n:=(nu.cap-(i+1))*e.size) (by omega) (f1.mono gC);rw[Xar]at hj;split at hj
  .exact s1 j v hj
  .rename_i dq;rw[Xar]at hj;split at hj
   .have:=s2 _ v hj
    grind
   .have:=s3 _ v hj
    grind
theorem Wrj{α:Type}{R:α->List Value->Prop}{n:Nat}(hR:∀x c,R x c->c.length=n){nu:Nu}{xs:List α}(h:WjN G R xs nu.hdr)(ad:xs.length=nu.len)(hn:nu.esz=n){lo hi:Nat}(h1:lo<=hi)(h2:hi<=nu.len)(h3:nu.blk=none->hi=0)(hI:nu.blk≠none->nu.len<=nu.cap/\nu.cap<=maxLen):
  WjN G R ((xs.take hi).drop lo) (nu.vhdr lo hi):=by
 unfold Nu.hdr at h;unfold Nu.vhdr;cases hb:nu.blk with
 |none=>
  have:=h3 hb;refine .inl ⟨rfl,Xx (by simp;omega)⟩
 |some b=>
  obtain⟨qa,ln⟩:=hI (by grind);simp only[hb]at h;have bd:((xs.take hi).drop lo).length=hi-lo:=by simp;omega
  by_cases h0:hi-lo=0
  .refine .inr (.inr ⟨_,nu.cap-lo,by rw[h0],Xx (by omega)⟩)
  .rcases h with⟨e,_⟩|⟨b',off,cap,cs,e,g1,g2,g3,g4⟩|⟨a,cap,e,bJ⟩
   .cases e
   .injection e with e1 e2 e3;injection e1 with e1;injection e1 with e4 e5 e6;subst e4 e5 e3;rw[Wc (by omega)];refine .inr (.inl ⟨b,nu.off+lo*nu.esz,nu.cap-lo,(cs.take (hi*n)).drop (lo*n),by rw[bd],by omega,by omega,WeH hR _ _ lo (WeQ hR _ _ hi g3),λj v hj=>?_⟩);rw[Xbn,Xbo]at hj;split at hj
    .rw[Xba,hn];exact g4 _ _ hj
    grind
   simp_all
def Leaf(ν:Nat->Nu)(t:Ty)(cs:List Cell)(ns:List Pc):Prop:=∀(lf k r:Nat),WbB t lf=some k->cs[k]?=some (.own r)->∃pc,ns[lf]?=some pc/\pc.nu=ν r
theorem We8:∀(t:Ty) (lf k:Nat),WbB t lf=some k->lf<t.owns/\k<t.size
 | .own _,lf,k,h=>by
  cases lf with
  |zero=>simp[WbB]at h;subst h;exact⟨Nat.one_pos,Nat.one_pos⟩
  |succ n=>simp[WbB]at h
 | .prod a b,lf,k,h=>by
  simp only[WbB]at h;split at h
  .obtain⟨h1,h2⟩:=We8 a lf k h;exact⟨by show _<a.owns+b.owns;omega,by show _<a.size+b.size;omega⟩
  .obtain⟨j,hj,rfl⟩:=Xt.1 h;obtain⟨h1,h2⟩:=We8 b _ j hj;exact⟨by show _<a.owns+b.owns;omega,by show _<a.size+b.size;omega⟩
 | .int _,_,_,h=>by simp[WbB]at h
 | .bool,_,_,h=>by simp[WbB]at h
 | .str,_,_,h=>by simp[WbB]at h
 | .slice _,_,_,h=>by simp[WbB]at h
theorem Leaf.none{ν:Nat->Nu}{t:Ty}{cs:List Cell}{ns:List Pc}(h:t.owns=0):Leaf ν t cs ns:=λlf k r h1 h2=>by
 have:=(We8 t lf k h1).1;omega
theorem WwM{ν:Nat->Nu}{e:Ty}{c:Cell}{ns:List Pc}(hc:∀r,c≠ .own r):Leaf ν (.own e) [c] ns:=λlf k r k1 k2=>by
 grind
theorem Wae(h:HR w0 F G ν φ objs nx w)(hg:GLe G G'):∀(t:Ty) (cs:List Cell) (vs:List Value) (d:t.den) (m l:List Nat),CellsRel G ν nx cs vs->Lent G' w φ objs l->m.Nodup->
  Wax t cs objs=some (d,m,l)->∃ns,Wy G' w t d vs ns/\Sep (ns.map Pc.fp)/\(∀p∈ns,CS.le p.fp (FromL φ objs m))/\(∀i∈m,Live objs i)/\(∀i∈l,Live objs i)/\Leaf ν t cs ns
 | .prod a b,cs,vs,d,m,l,hc,hl,be,hf=>by
  simp only[Wax]at hf;split at hf
  .rename_i x m1 l1 y m2 l2 h1 h2;simp only[Option.some.injEq,Prod.mk.injEq]at hf;obtain⟨rfl,rfl,rfl⟩:=hf;obtain⟨n1,n2,n3⟩:=List.nodup_append.1 be;obtain⟨q1,h3,s1,h4,h5,h5',f1⟩:=Wae h hg a _ (vs.take a.size) x m1 l1 (hc.take _) (hl.mono (by simp_all)) n1 h1;obtain⟨q2,h6,s2,h7,h8,h8',f2⟩:=Wae h hg b _ (vs.drop a.size) y m2 l2 (hc.drop _) (hl.mono (by simp_all)) n2 h2;refine⟨q1++q2,⟨_,_,q1,q2,(List.take_append_drop a.size vs).symm,rfl,h3,h6⟩,?_,?_,?_,?_,?_⟩
   .rw[Xz];refine Woh s1 s2 (A:=FromL φ objs m1) (B:=FromL φ objs m2) (λs hs=>?_) (λs hs=>?_) (FromL.disj h (λi hi hj=>n3 i hi i hj rfl))
    .grind
    grind
   .intro p hp b o hh;rcases Xo.1 hp with hp|hp
    .exact FromL.mono (λi hi=>Xn _ hi) b o (h4 p hp b o hh)
    .exact FromL.mono (λi hi=>Xg _ hi) b o (h7 p hp b o hh)
   .grind
   .grind
   .intro lf k r k1 k2;have hq:=W4 _ _ _ _ h3;simp only[WbB]at k1;split at k1
    .rename_i ac;obtain⟨_,hk⟩:=We8 a lf k k1;obtain⟨pc,k3,k4⟩:=f1 lf k r k1 (by simp_all)
     grind
    .obtain⟨j,hj,rfl⟩:=Xt.1 k1;obtain⟨pc,k3,k4⟩:=f2 _ j r hj (by simp_all)
     grind
  grind
 | .own e,cs,vs,d,m,l,hc,hl,be,hf=>by
  simp only[Wax]at hf;split at hf
  .rename_i id;obtain⟨v,rfl,⟨_,hv⟩,_⟩:=hc.single;subst hv;have lR:∀{S:CS},Leaf ν (.own e) [.own id] [⟨ν id,S⟩]:=λ{S} lf k r k1 k2=>by
    cases lf with
    |zero=>
     simp[WbB]at k1;simp_all
    |succ n=>simp[WbB]at k1
   obtain⟨⟨ys,m'⟩,ho,hf⟩:=Xt.1 hf;simp only[Prod.mk.injEq]at hf;obtain⟨rfl,rfl,rfl⟩:=hf;unfold Wtl at ho;split at ho
   .rename_i e' xs br;obtain⟨zs,bF,ho⟩:=Xt.1 ho;have ho:=Prod.mk.inj ho;obtain⟨rfl,rfl⟩:=ho;obtain⟨he,hy⟩:=Waw bF;subst he;simp only at hy;subst hy;have aQ:Live objs id:=⟨_,br,by simp⟩;have aG:WbN w (Wy G w e') e'.size (ν id) xs (φ id):=h.ob _ _ br;refine⟨[⟨ν id,φ id⟩],⟨_,rfl,rfl,Wdd hg (Same.refl _ w) (λ_ _ hh=>hh) aG⟩,Xbm _ _,?_,?_,by simp,lR⟩
    .simp_all [FromL.one]
    simp_all
   .rename_i e' xs i p br;split at ho
    .rename_i zs cI bF fZ;split at ho
     .rename_i d' m'' nZ;simp only[Option.some.injEq,Prod.mk.injEq]at ho;obtain⟨rfl,rfl⟩:=ho;obtain⟨he,hy⟩:=Waw bF;subst he;simp only at hy;subst hy;obtain⟨n1,n2⟩:=Xac.1 be;obtain⟨n3,n4⟩:=Xac.1 n2;have aQ:Live objs id:=⟨_,br,by simp⟩;have eZ:Live objs p:=⟨_,fZ,by simp⟩;obtain⟨ll,hole⟩:p<nx/\Wh4 w (Wy G w e') e'.size (ν id) (ν p) xs i (φ id):=h.ob _ _ br;obtain⟨b,us,hb,bf,aM,bN,fG⟩:WcM G ν nx w p (φ p) (.box cI):=h.ob _ _ fZ;obtain⟨ns,t1,t2,t3,t4,_,_⟩:=Wae h hg e' cI us d' m'' [] bN (λi hi=>by simp at hi) n4 nZ;have dr:=WH _ _ _ _ t1;have oa:=Wkw hg (Same.refl _ w) (λ_ _ hh=>hh) hole;rw[←bN.1,dr]at fG;have bI:id≠p:=λe=>n1 (by simp_all);refine⟨[⟨ν id,FromL φ objs (id::p::m'')⟩],⟨_,rfl,rfl,WpP oa t1 hb aM fG t2 t3 ?_ ?_ ?_ ?_ ?_ ?_⟩,Xbm _ _,?_,?_,by simp,lR⟩
      .exactλb o h1 h2=>bI (h.inj id p b o aQ eZ h1 h2)
      .exactλb o h1 ⟨j,hj,h2,h3⟩=>by
        have:=h.inj id j b o aQ h2 h1 h3;simp_all
      .exactλb o h1 ⟨j,hj,h2,h3⟩=>by
        have:=h.inj p j b o eZ h2 h1 h3;simp_all
      .simp_all [FromL.one]
      .simp_all [FromL.one]
      .grind [FromL.mono,Xf]
      .intro p hp;simp at hp;subst hp;exactλ_ _ hh=>hh
      simp_all
     grind
    grind
   grind
  .rename_i id lo hi;obtain⟨v,rfl,⟨_,g1,g2,g3,hv⟩,_⟩:=hc.single;subst hv;split at hf
   .rename_i e' xs br;obtain⟨zs,bF,hf⟩:=Xt.1 hf;have hf:=And.intro (Prod.mk.inj hf).1 (Prod.mk.inj (Prod.mk.inj hf).2);obtain⟨rfl,rfl,rfl⟩:=hf;obtain⟨he,hy⟩:=Waw bF;subst he;simp only at hy;subst hy;have aQ:Live objs id:=⟨_,br,by simp⟩;have aG:WbN w (Wy G w e') e'.size (ν id) xs (φ id):=h.ob _ _ br;refine⟨[⟨(ν id).part lo hi,φ id⟩],⟨_,rfl,by rw[Wlu],WnE (Wdd hg (Same.refl _ w) (λ_ _ hh=>hh) aG) g1 g2⟩,Xbm _ _,?_,?_,by simp,WwM (by simp_all)⟩
    .simp_all [FromL.one]
    simp_all
   grind
  .simp only[Option.some.injEq,Prod.mk.injEq]at hf;obtain⟨rfl,rfl,rfl⟩:=hf;obtain⟨v,rfl,hv,_⟩:=hc.single;simp only[CellRel]at hv;subst hv;exact⟨[⟨⟨none,0,0,0,e.size⟩,λ_ _=>False⟩],⟨_,rfl,rfl,rfl,rfl,rfl⟩,Xbm _ _,λp hp b o hh=>by simp_all,by simp,by simp,WwM (by simp_all)⟩
  grind
 | .slice e,cs,vs,d,m,l,hc,hl,be,hf=>by
  simp only[Wax]at hf;split at hf
  .rename_i id;obtain⟨v,rfl,⟨_,hv⟩,_⟩:=hc.single;subst hv;obtain⟨⟨ys,l'⟩,ho,hf⟩:=Xt.1 hf;simp only[Prod.mk.injEq]at hf;obtain⟨rfl,rfl,rfl⟩:=hf;unfold Wu5 at ho;split at ho
   .rename_i e' xs br;obtain⟨zs,bF,ho⟩:=Xt.1 ho;have ho:=Prod.mk.inj ho;obtain⟨rfl,rfl⟩:=ho;obtain⟨he,hy⟩:=Waw bF;subst he;simp only at hy;subst hy;have aQ:Live objs id:=⟨_,br,by simp⟩;have aG:WbN w (Wy G w e') e'.size (ν id) xs (φ id):=h.ob _ _ br;refine⟨[],⟨rfl,_,rfl,Wi5 hg (hl id (by simp) aQ) aG⟩,List.Pairwise.nil,by simp,by simp,?_,Leaf.none rfl⟩;simp_all
   .rename_i e' xs i p br;split at ho
    .rename_i zs cI bF fZ;split at ho
     .rename_i d' l'' nZ;simp only[Option.some.injEq,Prod.mk.injEq]at ho;obtain⟨rfl,rfl⟩:=ho;obtain⟨he,hy⟩:=Waw bF;subst he;simp only at hy;subst hy;have aQ:Live objs id:=⟨_,br,by simp⟩;have eZ:Live objs p:=⟨_,fZ,by simp⟩;obtain⟨ll,hole⟩:p<nx/\Wh4 w (Wy G w e') e'.size (ν id) (ν p) xs i (φ id):=h.ob _ _ br;obtain⟨b,us,hb,bf,aM,bN,fG⟩:WcM G ν nx w p (φ p) (.box cI):=h.ob _ _ fZ;obtain⟨ns,t1,t2,t3,t4,t5,_⟩:=Wae h hg e'.ro cI us d' [] l'' bN (hl.mono (λi hi=>Xf _ (Xf _ hi))) Xdd nZ;obtain⟨t6,_⟩:=(Wa7 e'.ro d' us ns (Woq e')).1 t1;have dr:=W5 _ _ _ t6;rw[WbC]at dr;rw[←bN.1,dr]at fG;refine⟨[],⟨rfl,_,rfl,Wrc hg hole t6 hb aM fG (hl id (by simp) aQ) (hl p (by simp) eZ)⟩,List.Pairwise.nil,by simp,by simp,?_,Leaf.none rfl⟩;simp_all
     grind
    grind
   grind
  .rename_i id lo hi;obtain⟨v,rfl,⟨_,g1,g2,g3,hv⟩,_⟩:=hc.single;subst hv;split at hf
   .rename_i e' xs br;obtain⟨zs,bF,hf⟩:=Xt.1 hf;have hf:=And.intro (Prod.mk.inj hf).1 (Prod.mk.inj (Prod.mk.inj hf).2);obtain⟨rfl,rfl,rfl⟩:=hf;obtain⟨he,hy⟩:=Waw bF;subst he;simp only at hy;subst hy;have aQ:Live objs id:=⟨_,br,by simp⟩;have aG:WbN w (Wy G w e') e'.size (ν id) xs (φ id):=h.ob _ _ br;have hQ:=Wi5 hg (hl id (by simp) aQ) aG;refine⟨[],⟨rfl,_,rfl,?_⟩,List.Pairwise.nil,by simp,by simp,?_,Leaf.none rfl⟩
    .refine Wrj (n:=e'.size) (λx c hc=>by grind [WbC,W5]) hQ (by rw[WgE];exact aG.1) aG.2.1 g1 g2 g3 (λhb=>?_);cases oc:(ν id).blk with
     |none=>simp_all
     |some b=>
      have:=aG.2.2;simp only[oc]at this;exact⟨by rw[←aG.1];omega,this.2.1⟩
    simp_all
   grind
  .simp only[Option.some.injEq,Prod.mk.injEq]at hf;obtain⟨rfl,rfl,rfl⟩:=hf;obtain⟨v,rfl,hv,_⟩:=hc.single;simp only[CellRel]at hv;subst hv;exact⟨[],⟨rfl,_,rfl,.inl ⟨rfl,rfl⟩⟩,List.Pairwise.nil,by simp,by simp,by simp,Leaf.none rfl⟩
  .rename_i c _ _ _;cases eY:Wj5 (.slice e) c with
   |none=>simp_all
   |some x=>
    simp only[eY,Xbx,Option.some.injEq,Prod.mk.injEq]at hf;obtain⟨rfl,rfl,rfl⟩:=hf;obtain⟨v,rfl,hv,_⟩:=hc.single;exact⟨[],⟨rfl,WgD hg hv eY⟩,List.Pairwise.nil,by simp,by simp,by simp,Leaf.none rfl⟩
  grind
 | .int k,cs,vs,d,m,l,hc,hl,be,hf=>by
  simp only[Wax]at hf;split at hf
  .rename_i c;cases eY:Wj5 (.int k) c with
   |none=>simp_all
   |some x=>
    simp only[eY,Xbx,Option.some.injEq,Prod.mk.injEq]at hf;obtain⟨rfl,rfl,rfl⟩:=hf;obtain⟨v,rfl,hv,_⟩:=hc.single;exact⟨[],⟨rfl,WgD hg hv eY⟩,List.Pairwise.nil,by simp,by simp,by simp,Leaf.none rfl⟩
  grind
 | .bool,cs,vs,d,m,l,hc,hl,be,hf=>by
  simp only[Wax]at hf;split at hf
  .rename_i c;cases eY:Wj5 .bool c with
   |none=>simp_all
   |some x=>
    simp only[eY,Xbx,Option.some.injEq,Prod.mk.injEq]at hf;obtain⟨rfl,rfl,rfl⟩:=hf;obtain⟨v,rfl,hv,_⟩:=hc.single;exact⟨[],⟨rfl,WgD hg hv eY⟩,List.Pairwise.nil,by simp,by simp,by simp,Leaf.none rfl⟩
  grind
 | .str,cs,vs,d,m,l,hc,hl,be,hf=>by
  simp only[Wax]at hf;split at hf
  .rename_i c;cases eY:Wj5 .str c with
   |none=>simp_all
   |some x=>
    simp only[eY,Xbx,Option.some.injEq,Prod.mk.injEq]at hf;obtain⟨rfl,rfl,rfl⟩:=hf;obtain⟨v,rfl,hv,_⟩:=hc.single;exact⟨[],⟨rfl,WgD hg hv eY⟩,List.Pairwise.nil,by simp,by simp,by simp,Leaf.none rfl⟩
  grind
theorem WmQ(h:HRel w0 F G ν objs nx w){t:Ty}{cs:List Cell}{vs:List Value}{d:t.den}(hc:CellsRel G ν nx cs vs)(ht:t.data=true)(hf:Wax t cs objs=some (d,[],[])):Enc G t d vs:=by
 obtain⟨φ,h⟩:=h;obtain⟨ns,h1,_⟩:=Wae (G':=G) h (λ_ _ _ hh=>hh) t cs vs d [] [] hc (λid bM=>by simp at bM) Xdd hf
 grind [Wa7]
end
end Go.Sx
namespace Go.Sx
set_option linter.unusedVariables false
set_option linter.unusedSimpArgs false
section
variable{w0:World}{F:CS}{nt:Slots}{G0 G G':GH}{ν ν':Nat->Nu}{φ:Nat->CS}{objs objs':Wab}{nx am:Nat}{st af:St}{a:Act}{w w':World}{P:Program}{T:Tab}{Γ:Ctx}
theorem Wg9(i:Nat):∀(l:List Nat),WcB i l=true↔i∈l
 | []=>by simp[WcB]
 |j::l=>by
  simp only[WcB,Bool.or_eq_true,Wg9 i l,Xs];simp_all
open Classical in
noncomputable def Wrv(G:GH)(w:World)(S:CS):GH:=λb o=>if S b o then w.cell? ⟨b,o,none⟩else G b o
theorem Wsw{S:CS}{b o:Nat}(h:S b o):Wrv G w S b o=w.cell? ⟨b,o,none⟩:=by unfold Wrv;rw[Wf h]
theorem Wdv{S:CS}{b o:Nat}(h:¬S b o):Wrv G w S b o=G b o:=by unfold Wrv;rw[Wc h]
theorem Wjl(S:CS):Froz (Wrv G w S) w S:=λb o v hs hv=>by grind [Wsw]
theorem HR.addG_le(h:HR w0 F G ν φ objs nx w)(l:List Nat):GLe G (Wrv G w (FromL φ objs l)):=λb o v hv=>by
 by_cases hs:FromL φ objs l b o
 .obtain⟨i,_,h1,h2⟩:=hs;rw[h.gf i b o h1 h2]at hv;cases hv
 grind [Wdv]
theorem HR.addG_w(h:HR w0 F G ν φ objs nx w)(l:List Nat):∀b o v,Wrv G w (FromL φ objs l) b o=some v->w.cell? ⟨b,o,none⟩=some v:=λb o v hv=>by
 by_cases hs:FromL φ objs l b o
 .grind [Wsw]
 .rw[Wdv hs]at hv;exact h.g b o v hv
theorem HRel.freezeL(h:HRel w0 F G ν objs nx w)(gx:GExt w0.heap.size F G0 G)(l:List Nat):∃G1,GLe G G1/\HRel w0 F G1 ν (Sx.kill objs l) nx w/\GExt w0.heap.size F G0 G1/\
  ∀id∈l,∀(e:Ty) (xs:List e.den),Wn objs id=some (.arr e xs)->WjN G1 (Enc G1 e.ro) (WcL e xs) (ν id).hdr:=by
 obtain⟨φ,h⟩:=h;have gE:=h.addG_le l;refine⟨Wrv G w (FromL φ objs l),gE,⟨φ,?_⟩,⟨λb o v hv=>gE b o v (gx.le b o v hv),λb o v hv=>?_⟩,λid bM e xs ho=>?_⟩
 .exact{
   g:=h.addG_w l
   ob:=λj ob hj=>by
    by_cases hd:ob= .dead
    .subst hd;trivial
    .obtain⟨hj,hn⟩:=WeB l j ob hj hd;exact WdN gE (Same.refl _ w) (λ_ _ hh=>hh) (λ_ _=>rfl) (Xm _) (h.lt j ⟨ob,hj,hd⟩) ob (h.ob j ob hj)
   gf:=λj b o hj hp=>by
    obtain⟨hj,hn⟩:=WdS hj;rw[Wdv (λ⟨i,hi,h1,h2⟩=>hn (by rw[h.inj j i b o hj h1 hp h2];exact hi))];exact h.gf j b o hj hp
   inj:=λj j' b o hj eF=>h.inj j j' b o (WdS hj).1 (WdS eF).1
   own:=λj b o hj=>h.own j b o (WdS hj).1
   lt:=λj hj=>h.lt j (WdS hj).1
   bl:=λj b o hj=>h.bl j b o (WdS hj).1
   le:=h.le}
 .by_cases hs:FromL φ objs l b o
  .obtain⟨i,_,h1,h2⟩:=hs;exact .inr (h.own i b o h1 h2)
  .rw[Wdv hs]at hv;exact gx.new b o v hv
 .exact Wi5 gE ((Wjl _).mono (FromL.one bM ⟨_,ho,by simp⟩)) (h.ob _ _ ho)
structure Frz(w0:World)(F:CS)(nt:Slots)(G0 G:GH)(ν:Nat->Nu)(st:St)(l:List Nat)(a:Act)(w:World)(G1:GH):Prop where
 le:GLe G G1
 rel:Rel w0 F nt G0 G1 ν {env:=st.env,objs:=kill st.objs l,nx:=st.nx} a w
 sl:∀id∈l,∀(e:Ty) (xs:List e.den),Wn st.objs id=some (.arr e xs)->WjN G1 (Enc G1 e.ro) (WcL e xs) (ν id).hdr
theorem Rel.frz(h:Rel w0 F nt G0 G ν st a w)(l:List Nat):∃G1,Frz w0 F nt G0 G ν st l a w G1:=by
 obtain⟨G1,h1,h2,h3,h4⟩:=h.h.freezeL h.gx l;exact⟨G1,h1,h.on h1 (λ_ _=>rfl) (Xm _) h2 h3,h4⟩
theorem Frz.cell{l:List Nat}{G1:GH}(h:Frz w0 F nt G0 G ν st l a w G1):∀(c:Cell) (v:Value),CellRel G ν st.nx c v->CellRel G1 ν st.nx (Wli st.objs l c) v:=by
 have mono:=λc v (hc:CellRel G ν st.nx c v)=>CellRel.mono (G':=G1) (ν':=ν) (am:=st.nx) h.le (λ_ _=>rfl) (Xm _) c v hc;intro c v hc;cases c with
 |own id=>
  simp only[Wli];cases he:WcB id l with
  |false=>simp_all
  |true=>
   simp only[Wb];have hm:=(Wg9 id l).1 he;split
   .rename_i e xs ho;obtain⟨_,hv⟩:=hc;rw[hv];exact⟨_,rfl,h.sl id hm e xs ho⟩
   .trivial
 |vw id lo hi=>exact mono _ v hc
 |val t d=>exact mono _ v hc
 |nils=>exact mono _ v hc
 |aptr id=>exact mono _ v hc
 |ptr id off=>exact mono _ v hc
 |eptr id i off=>exact mono _ v hc
 |rptr t d off=>exact mono _ v hc
 |clos f caps=>exact mono _ v hc
 |junk=>trivial
theorem Frz.val{l:List Nat}{G1:GH}(h:Frz w0 F nt G0 G ν st l a w G1):∀(x:AVal) (v:Value),AValRel G ν st.nx x v->AValRel G1 ν st.nx (WhD st.objs l x) v
 | .s (.one c),v,hx=>⟨h.cell c v hx.1,hx.2⟩
 | .s (.agg cs),v,⟨vs,he,h1,h2⟩=>by
  refine⟨vs,he,by simp[h1],λj c u hc hu=>?_⟩;rw[Xaj]at hc;obtain⟨d,hd,rfl⟩:=Xt.1 hc;exact⟨h.cell d u (h2 j d u hd hu).1,(h2 j d u hd hu).2⟩
 | .tup xs,v,hx=>AValRel.mono h.le (λ_ _=>rfl) (Xm _) (.tup xs) v hx
end
end Go.Sx
