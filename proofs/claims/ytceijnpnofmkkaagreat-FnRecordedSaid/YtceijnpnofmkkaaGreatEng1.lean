/- The abstract machine, part 1: a reflective interpreter of the program's code over data, with its soundness over the model. -/
import Derived.WalkKit
import Derived.LoopN
import Derived.KernelRfl
import Derived.ProofKit
import Derived.OpenShut
import Derived.JoinedCond
open Nat renaming beq→Xbu,blt→Xgp,succ_mul→Xcf,add_comm→Xda,add_assoc→Xay,lt_of_lt_of_le→Xbk,mul_le_mul_right→Xbe,min_eq_left→Xcc,add_zero→Xaz,eq_of_beq_eq_true→Xcl,add_mul→Xcu,le_refl→Xm,zero_le→Xbp,le_trans→Xco,le_succ→Xdh,lt_succ_self→Xbv
open List renaming length→Xa,getD→Xd,append→Xf,replicate→Xu,length_append→Xs,length_cons→Xr,drop_drop→Xbs,take_length_add_append→Xfp,drop_left→Xcq,getElem?_append→Xaw,getElem?_take→Xbr,getElem?_drop→Xbq,mem_append_left→Xl,mem_append_right→Xh,set_eq_take_append_cons_drop→Xeu,getElem?_eq_some_iff→Xad,mem_cons_of_mem→Xe,mem_map_of_mem→Xaq,mem_cons_self→Xg,mem_singleton→Xac,length_take→Xan,length_drop→Xcy,pairwise_cons→Xv,getElem?_eq_getElem→Xp,mapM_cons→Xfl,map_cons→Xae,getElem?_map→Xas,eq_nil_of_length_eq_zero→Xaa,length_map→Xab,map_nil→Xbt,map_toArray→Xdz,mem_map→Xw,mem_cons→Xq,pairwise_append→Xam,mem_append→Xn,map_append→Xz,pairwise_singleton→Xbg,nodup_cons→Xai,nodup_nil→Xcx
open Bool renaming and_eq_true→Xi
open Option renaming map_some→Xbz,map_eq_some_iff→Xy
open Array renaming getElem?_setIfInBounds_ne→Xfc,length_toList→Xat
namespace Go.Sx
abbrev Wa:=@if_neg
abbrev Wb:=@if_pos
abbrev Wf:=@decide_eq_true
abbrev Wq:=@decide_eq_false
abbrev Wh:=@decide_eq_true_eq
abbrev Wy:=@decide_eq_false_iff_not
abbrev Wt:=@of_decide_eq_true
abbrev Wi:=@absurd
abbrev Wk:=@congrArg
abbrev Waq:=@if_true
abbrev Wau:=@if_false
theorem We{A:Type}(a b:A):cond true a b=a:=rfl
theorem Wc{A:Type}(a b:A):cond false a b=b:=rfl
inductive Ty where
 |int (k:IntKind)|bool|str|slice (e:Ty)|own (e:Ty)|prod (a b:Ty)
 deriving DecidableEq
def Ty.den:Ty->Type
 | .int _=>Int
 | .bool=>Bool
 | .str=>List UInt8
 | .slice e=>List e.den
 | .own e=>List e.den
 | .prod a b=>a.den×b.den
def Ty.size:Ty->Nat
 | .prod a b=>a.size+b.size
 |_=>1
def Ty.dflt:(t:Ty)->t.den
 | .int _=>(0:Int)
 | .bool=>false
 | .str=>([]:List UInt8)
 | .slice e=>([]:List e.den)
 | .own e=>([]:List e.den)
 | .prod a b=>(a.dflt,b.dflt)
def Ty.noRo:Ty->Bool
 | .slice _=>false
 | .own e=>e.noRo
 | .prod a b=>a.noRo&&b.noRo
 |_=>true
def Ty.ro:Ty->Ty
 | .own e=>.slice e.ro
 | .slice e=>.slice e
 | .prod a b=>.prod a.ro b.ro
 | .int k=>.int k
 | .bool=>.bool
 | .str=>.str
theorem Wem:∀t:Ty,t.ro.den=t.den
 | .own e=>Wk List (Wem e)
 | .slice _=>rfl
 | .prod a b=>by show(a.ro.den×b.ro.den)=(a.den×b.den);rw[Wem a,Wem b]
 | .int _| .bool| .str=>rfl
def WvQ(t:Ty)(d:t.den):t.ro.den:=cast (Wem t).symm d
def WcH(t:Ty)(l:List t.den):List t.ro.den:=cast (Wk List (Wem t).symm) l
def WnT(t t':Ty)(d:t.den):Option t'.den:=
 if h:t=t' then some (h▸d)else none
def Wgy(e e':Ty)(l:List e.den):Option (List e'.den):=
 if h:e=e' then some (h▸l)else none
inductive Cell where
 |val (t:Ty) (d:t.den)
 |nils
 |own (id:Nat)
 |vw (id lo hi:Nat)
 |aptr (id:Nat)
 |ptr (id off:Nat)
 |eptr (id i off:Nat)
 |rptr (t:Ty) (d:t.den) (off:Nat)
 |clos (f:FuncId) (caps:List Nat)
 |junk
inductive AV where
 |one (c:Cell)
 |agg (cs:List Cell)
inductive AVal where
 |s (x:AV)
 |tup (xs:List AV)
inductive Ob where
 |box (cs:List Cell)
 |arr (e:Ty) (xs:List e.den)
 |hole (e:Ty) (xs:List e.den) (i p:Nat)
 |dead
abbrev Wak:=List (Nat×Ob)
structure St where
 env:List (Nat×AVal)
 objs:Wak
 nx:Nat
universe u
def look{α:Type u}:List (Nat×α)->Nat->Option α
 | [],_=>none
 |(k,v)::l,i=>match Xbu k i with|true=>some v|false=>look l i
abbrev GH:=Nat->Nat->Option Value
abbrev CS:=Nat->Nat->Prop
def CS.disj(A B:CS):Prop:=∀b o,A b o->B b o->False
def CS.le(A B:CS):Prop:=∀b o,A b o->B b o
def rng(b lo n:Nat):CS:=λb' o=>b'=b/\lo<=o/\o<lo+n
def Sep(l:List CS):Prop:=l.Pairwise CS.disj
structure Nu where
 blk:Option Nat
 off:Nat
 len:Nat
 cap:Nat
 esz:Nat
def Nu.hdr(n:Nu):Value:=match n.blk with
 |none=>.slice none 0 0
 |some b=>.slice (some ⟨b,n.off,none⟩) n.len n.cap
def Nu.vhdr(n:Nu)(lo hi:Nat):Value:=match n.blk with
 |none=>.slice none 0 0
 |some b=>.slice (some ⟨b,if n.cap=lo then n.off else n.off+lo*n.esz,none⟩) (hi-lo) (n.cap-lo)
structure Pc where
 nu:Nu
 fp:CS
def WfD(G:GH)(b off:Nat)(cs:List Value):Prop:=∀(j:Nat) (v:Value),cs[j]?=some v->G b (off+j)=some v
def EncL{α:Type}(R:α->List Value->Prop):List α->List Value->Prop
 | [],cs=>cs= []
 |x::l,cs=>∃c1 c2,cs=c1++c2/\R x c1/\EncL R l c2
def WjH{α:Type}(G:GH)(R:α->List Value->Prop)(l:List α)(v:Value):Prop:=
 (v= .slice none 0 0/\l= [])\/
 (∃b off cap cs,v= .slice (some ⟨b,off,none⟩) l.length cap/\l.length<=cap/\cap<=maxLen/\EncL R l cs/\WfD G b off cs)\/
 ∃a cap,v= .slice (some a) 0 cap/\l= []
def Enc(G:GH):(t:Ty)->t.den->List Value->Prop
 | .int k,n,cs=>cs= [.int k n]
 | .bool,b,cs=>cs= [.bool b]
 | .str,s,cs=>cs= [.string ⟨List.toArray s⟩]
 | .slice e,l,cs=>∃v,cs= [v]/\WjH G (Enc G e) l v
 | .own _,_,_=>False
 | .prod a b,d,cs=>∃c1 c2,cs=c1++c2/\Enc G a d.1 c1/\Enc G b d.2 c2
def CellRel(G:GH)(ν:Nat->Nu)(nx:Nat):Cell->Value->Prop
 | .val t d,v=>Enc G t d [v]
 | .nils,v=>v= .slice none 0 0
 | .own id,v=>id<nx/\v=(ν id).hdr
 | .vw id lo hi,v=>id<nx/\lo<=hi/\hi<=(ν id).len/\((ν id).blk=none->hi=0)/\v=(ν id).vhdr lo hi
 | .aptr id,v=>id<nx/\∃b,(ν id).blk=some b/\v= .pointer (some ⟨b,(ν id).off,none⟩)
 | .ptr id off,v=>id<nx/\∃b,(ν id).blk=some b/\v= .pointer (some ⟨b,(ν id).off+off,none⟩)
 | .eptr id i off,v=>id<nx/\i<(ν id).len/\∃b,(ν id).blk=some b/\v= .pointer (some ⟨b,(ν id).off+(i*(ν id).esz+off),none⟩)
 | .rptr t d off,v=>∃b o cs,v= .pointer (some ⟨b,o+off,none⟩)/\Enc G t d cs/\WfD G b o cs
 | .clos f caps,v=>∃vs:List Value,v= .func (.func f) #[] vs.toArray/\vs.length=caps.length/\
   ∀(j id:Nat) (u:Value),caps[j]?=some id->vs[j]?=some u->id<nx/\u.oneCell'=true/\∃b,(ν id).blk=some b/\u= .pointer (some ⟨b,(ν id).off+0,none⟩)
 | .junk,_=>True
def CellsRel(G:GH)(ν:Nat->Nu)(nx:Nat)(cs:List Cell)(vs:List Value):Prop:=
 vs.length=cs.length/\∀(j:Nat) (c:Cell) (v:Value),cs[j]?=some c->vs[j]?=some v->CellRel G ν nx c v/\v.oneCell'=true
def AvRel(G:GH)(ν:Nat->Nu)(nx:Nat):AV->Value->Prop
 | .one c,v=>CellRel G ν nx c v/\v.oneCell'=true
 | .agg cs,v=>∃vs:List Value,v= .agg vs.toArray/\CellsRel G ν nx cs vs
def WsI(G:GH)(ν:Nat->Nu)(nx:Nat)(xs:List AV)(vs:List Value):Prop:=
 vs.length=xs.length/\∀(j:Nat) (x:AV) (v:Value),xs[j]?=some x->vs[j]?=some v->AvRel G ν nx x v
def AValRel(G:GH)(ν:Nat->Nu)(nx:Nat):AVal->Value->Prop
 | .s x,v=>AvRel G ν nx x v
 | .tup xs,v=>∃vs:List Value,v= .tuple vs.toArray/\WsI G ν nx xs vs
def Row(w:World)(b n:Nat):Prop:=∃vs T,w.heap[b]?=some (.cells vs T (0,0))/\n<=vs.size
def Mem(w:World)(b o:Nat)(vs:List Value):Prop:=∀(j:Nat) (v:Value),vs[j]?=some v->w.cell? ⟨b,o+j,none⟩=some v
def EncP{α:Type}(R:α->List Value->List Pc->Prop):List α->List Value->List Pc->Prop
 | [],cs,ps=>cs= []/\ps= []
 |x::l,cs,ps=>∃c1 c2 p1 p2,cs=c1++c2/\ps=p1++p2/\R x c1 p1/\EncP R l c2 p2
def OwnL{α:Type}(w:World)(R:α->List Value->List Pc->Prop)(n:Nat)(nu:Nu)(xs:List α)(S:CS):Prop:=
 xs.length=nu.len/\nu.esz=n/\match nu.blk with
  |none=>xs= []
  |some b=>xs.length<=nu.cap/\nu.cap<=maxLen/\Row w b (nu.off+nu.cap*n)/\∃cs ps,EncP R xs cs ps/\Mem w b nu.off cs/\
    Sep (rng b nu.off (nu.cap*n)::ps.map Pc.fp)/\∀s∈rng b nu.off (nu.cap*n)::ps.map Pc.fp,CS.le s S
def TyRel(G:GH)(w:World):(t:Ty)->t.den->List Value->List Pc->Prop
 | .own e,xs,vs,ns=>∃p:Pc,ns= [p]/\vs= [p.nu.hdr]/\OwnL w (TyRel G w e) e.size p.nu xs p.fp
 | .prod a b,d,vs,ns=>∃v1 v2 n1 n2,vs=v1++v2/\ns=n1++n2/\TyRel G w a d.1 v1 n1/\TyRel G w b d.2 v2 n2
 | .int k,d,vs,ns=>ns= []/\Enc G (.int k) d vs
 | .bool,d,vs,ns=>ns= []/\Enc G .bool d vs
 | .str,d,vs,ns=>ns= []/\Enc G .str d vs
 | .slice e,d,vs,ns=>ns= []/\Enc G (.slice e) d vs
def Wh0{α:Type}(w:World)(R:α->List Value->List Pc->Prop)(n:Nat)(nu np:Nu)(xs:List α)(i:Nat)(S:CS):Prop:=
 xs.length=nu.len/\nu.esz=n/\i<xs.length/\∃b,nu.blk=some b/\np.blk=some b/\np.off=nu.off+i*n/\xs.length<=nu.cap/\nu.cap<=maxLen/\Row w b (nu.off+nu.cap*n)/\
  ∃c1 c2 p1 p2,EncP R (xs.take i) c1 p1/\EncP R (xs.drop (i+1)) c2 p2/\Mem w b nu.off c1/\Mem w b (nu.off+(i+1)*n) c2/\
   Sep (rng b nu.off (i*n)::rng b (nu.off+(i+1)*n) ((nu.cap-(i+1))*n)::(p1++p2).map Pc.fp)/\
   ∀s∈rng b nu.off (i*n)::rng b (nu.off+(i+1)*n) ((nu.cap-(i+1))*n)::(p1++p2).map Pc.fp,CS.le s S
def WcG(G:GH)(ν:Nat->Nu)(nx:Nat)(w:World)(id:Nat)(S:CS):Ob->Prop
 | .box cs=>∃b vs,(ν id).blk=some b/\Row w b ((ν id).off+cs.length)/\Mem w b (ν id).off vs/\CellsRel G ν nx cs vs/\CS.le (rng b (ν id).off cs.length) S
 | .arr e xs=>OwnL w (TyRel G w e) e.size (ν id) xs S
 | .hole e xs i p=>p<nx/\Wh0 w (TyRel G w e) e.size (ν id) (ν p) xs i S
 | .dead=>True
def Live(objs:Wak)(id:Nat):Prop:=∃ob,look objs id=some ob/\ob≠ .dead
structure WLe(F:CS)(w w':World):Prop where
 size:w.heap.size<=w'.heap.size
 row:∀(b:Nat) (vs:Array Value) (T:TypeId),w.heap[b]?=some (Obj.cells vs T (0,0))->∃vs':Array Value,w'.heap[b]?=some (Obj.cells vs' T (0,0))/\vs'.size=vs.size
 cell:∀(b o:Nat),b<w.heap.size->¬F b o->w'.cell? ⟨b,o,none⟩=w.cell? ⟨b,o,none⟩
 whole:∀(b:Nat),b<w.heap.size->(∀o,¬F b o)->w'.heap[b]?=w.heap[b]?
 os:w'.os=w.os
 output:w'.output=w.output
 tape:w'.tape=w.tape
structure HR(w0:World)(F:CS)(G:GH)(ν:Nat->Nu)(φ:Nat->CS)(objs:Wak)(nx:Nat)(w:World):Prop where
 g:∀b o v,G b o=some v->w.cell? ⟨b,o,none⟩=some v
 ob:∀id ob,look objs id=some ob->WcG G ν nx w id (φ id) ob
 gf:∀id b o,Live objs id->φ id b o->G b o=none
 inj:∀id bJ b o,Live objs id->Live objs bJ->φ id b o->φ bJ b o->id=bJ
 own:∀id b o,Live objs id->φ id b o->w0.heap.size<=b\/F b o
 lt:∀id,Live objs id->id<nx
 bl:∀id b o,Live objs id->φ id b o->b<w.heap.size
 le:WLe F w0 w
def HRel(w0:World)(F:CS)(G:GH)(ν:Nat->Nu)(objs:Wak)(nx:Nat)(w:World):Prop:=∃φ,HR w0 F G ν φ objs nx w
structure GExt(B:Nat)(F:CS)(G G':GH):Prop where
 le:∀b o v,G b o=some v->G' b o=some v
 new:∀b o v,G' b o=some v->G b o=some v\/B<=b\/F b o
structure Slots where
 n:Nat
 kept:List (Nat×Value)
def Slots.Ok(s:Slots)(d:Nat):Prop:=d<s.n/\∀p∈s.kept,p.1≠d
structure Rel(w0:World)(F:CS)(nt:Slots)(G0:GH)(G:GH)(ν:Nat->Nu)(st:St)(a:Act)(w:World):Prop where
 defers:a.defers= []
 ntm:a.tmps.size=nt.n
 par:∀p∈nt.kept,a.tmps[p.1]?=some p.2
 env:∀i x,look st.env i=some x->∃v,a.tmps[i]?=some v/\AValRel G ν st.nx x v
 h:HRel w0 F G ν st.objs st.nx w
 gx:GExt w0.heap.size F G0 G
end Go.Sx
namespace Go.Sx
set_option linter.unusedVariables false
inductive Shape where
 |basic|slice (e:TypeId)|struct (fs:List (Nat×TypeId))|ptr (e:TypeId)|arr (n:Nat) (e:TypeId)
structure TE where
 ty:Ty
 agg:Bool
 shape:Shape
abbrev Tab:=List (TypeId×TE)
def TE.plain(te:TE):Bool:=match te.shape with
 | .arr _ _=>false
 |_=>true
def Wm(k:IntKind)(a b:Int):Int:=k.wrap (a+b)
def WZ(k:IntKind)(a b:Int):Int:=k.wrap (a-b)
def Wet(k:IntKind)(a b:Int):Int:=k.wrap (a*b)
def Wr1(k:IntKind)(a b:Int):Int:=k.wrap (a.tdiv b)
def WjJ(a b:Int):Int:=a.tmod b
def WhY(k:IntKind)(a b:Int):Int:=k.wrap (BitVec.ofInt k.bits a&&&BitVec.ofInt k.bits b).toNat
def ior(k:IntKind)(a b:Int):Int:=k.wrap (BitVec.ofInt k.bits a|||BitVec.ofInt k.bits b).toNat
def Wr4(k:IntKind)(a b:Int):Int:=k.wrap (BitVec.ofInt k.bits a^^^BitVec.ofInt k.bits b).toNat
def WyU(k:IntKind)(a b:Int):Int:=k.wrap (BitVec.ofInt k.bits a&&& ~~~BitVec.ofInt k.bits b).toNat
def Wqg(k:IntKind)(a b:Int):Int:=k.wrap (a*2^(min b.toNat k.bits))
def WjE(k:IntKind)(a b:Int):Int:=a.fdiv (2^(min b.toNat k.bits))
def Woa(a b:List UInt8):Bool:=!decide (((a.length+b.length:Nat):Int)>IntKind.i64.max)
def Wj{α:Type}(l:List α):Int:=(l.length:Int)
def inb(i:Int)(n:Nat):Bool:=decide (0<=i)&&decide (i<(n:Int))
def WM(n:Nat):Bool:=decide (n<=1073741824)
def Wio(l:List Int):List UInt8:=l.map λn=>UInt8.ofNat n.toNat
def ieq(a b:Int):Bool:=a==b
def beq(a b:Bool):Bool:=a==b
def seq(a b:List UInt8):Bool:=a==b
def inz(b:Int):Bool:=!decide (b=0)
def inn(b:Int):Bool:=!decide (b<0)
def one(t:Ty)(d:t.den):AVal:=.s (.one (.val t d))
def WyW(op:BinOp)(k:IntKind)(a b:Int):Option (Bool×AVal):=
 match op with
 | .add=>some (true,one (.int k) (Wm k a b))
 | .sub=>some (true,one (.int k) (WZ k a b))
 | .mul=>some (true,one (.int k) (Wet k a b))
 | .quo=>some (inz b,one (.int k) (Wr1 k a b))
 | .rem=>some (inz b,one (.int k) (WjJ a b))
 | .and=>some (true,one (.int k) (WhY k a b))
 | .or=>some (true,one (.int k) (ior k a b))
 | .xor=>some (true,one (.int k) (Wr4 k a b))
 | .andNot=>some (true,one (.int k) (WyU k a b))
 | .eql=>some (true,one .bool (a==b))
 | .neq=>some (true,one .bool (a !=b))
 | .lss=>some (true,one .bool (decide (a<b)))
 | .leq=>some (true,one .bool (decide (a<=b)))
 | .gtr=>some (true,one .bool (decide (a>b)))
 | .geq=>some (true,one .bool (decide (a>=b)))
 |_=>none
def WyV(op:BinOp)(a b:List UInt8):Option (Bool×AVal):=
 match op with
 | .add=>some (Woa a b,one .str (a++b))
 | .eql=>some (true,one .bool (seq a b))
 | .neq=>some (true,one .bool (!seq a b))
 |_=>none
def WkZ(te:TE)(c d:Cell):Option Bool:=
 match te,c,d with
 |⟨.int _,false,.basic⟩,.val (.int k) a,.val (.int k') b=>if k=k' then some (ieq a b)else none
 |⟨.bool,false,.basic⟩,.val .bool a,.val .bool b=>some (beq a b)
 |⟨.str,false,.basic⟩,.val .str a,.val .str b=>some (seq a b)
 |_,_,_=>none
def Wdb(T:Tab):List TypeId->List Cell->List Cell->Option Bool
 | [],[],[]=>some true
 |t::ts,c::cs,d::ds=>match look T t with
  |some te=>match WkZ te c d,Wdb T ts cs ds with
   |some x,some y=>some (x&&y)
   |_,_=>none
  |none=>none
 |_,_,_=>none
def binOp(T:Tab)(op:BinOp)(t:TypeId)(x y:AVal):Option (Bool×AVal):=
 match x,y with
 | .s (.one (.val (.int k) a)),.s (.one (.val (.int k') b))=>
  match op with
  | .shl=>some (inn b,one (.int k) (Wqg k a b))
  | .shr=>some (inn b,one (.int k) (WjE k a b))
  |_=>if k=k' then WyW op k a b else none
 | .s (.one (.val .str a)),.s (.one (.val .str b))=>WyV op a b
 | .s (.one (.val .bool a)),.s (.one (.val .bool b))=>
  match look T t with
  |some ⟨.bool,false,.basic⟩=>
   match op with
   | .eql=>some (true,one .bool (beq a b))
   | .neq=>some (true,one .bool (!beq a b))
   |_=>none
  |_=>none
 | .s (.agg cs),.s (.agg ds)=>
  match look T t with
  |some ⟨_,true,.struct fs⟩=>
   if decide (fs.map (·.1)=List.range fs.length)then
    match op,Wdb T (fs.map (·.2)) cs ds with
    | .eql,some b=>some (true,one .bool b)
    | .neq,some b=>some (true,one .bool (!b))
    |_,_=>none
   else none
  |_=>none
 |_,_=>none
def unOp(op:UnOp)(x:AVal):Option (Bool×AVal):=
 match op,x with
 | .not,.s (.one (.val .bool b))=>some (true,one .bool (!b))
 | .neg,.s (.one (.val (.int k) n))=>some (true,one (.int k) (WZ k 0 n))
 |_,_=>none
def split:(t:Ty)->t.den->List Cell
 | .prod a b,d=>split a d.1++split b d.2
 | .int k,d=>[.val (.int k) d]
 | .bool,d=>[.val .bool d]
 | .str,d=>[.val .str d]
 | .slice e,d=>[.val (.slice e) d]
 | .own e,d=>[.junk]
def War:Value->Option Cell
 | .int k n=>some (.val (.int k) n)
 | .bool b=>some (.val .bool b)
 | .string s=>some (.val .str s.data.toList)
 | .slice none 0 0=>some .nils
 | .pointer none=>some .junk
 | .nilFunc=>some .junk
 |_=>none
def Wtu:Value->Option AVal
 | .agg cs=>(cs.toList.mapM War).map λl=>.s (.agg l)
 |v=>(War v).map λc=>.s (.one c)
def ev(st:St):Operand->Option AVal
 | .tmp t=>look st.env t
 | .const v=>Wtu v
 | .func f=>some (.s (.one (.clos f [])))
 | .global _=>none
def St.put(st:St)(dst:Option Tmp)(x:AVal):St:=
 match dst with
 |some d=>{st with env:=(d,x)::st.env}
 |none=>st
def sub(agg:Bool)(cs:List Cell)(off n:Nat):Option AVal:=
 if agg then(if off+n<=cs.length then some (.s (.agg ((cs.drop off).take n)))else none)
 else(cs[off]?).map λc=>.s (.one c)
def WhN(T:Tab)(st:St)(t:TypeId)(x:AVal):Option AVal:=
 match look T t with
 |some te=>
  if te.plain then
   match x with
   | .s (.one (.ptr id off))=>match look st.objs id with
    |some (.box cs)=>sub te.agg cs off te.ty.size
    |_=>none
   | .s (.one (.eptr id i off))=>match look st.objs id with
    |some (.arr e xs)=>sub te.agg (split e (xs.getD i e.dflt)) off te.ty.size
    |_=>none
   | .s (.one (.rptr t' d off))=>sub te.agg (split t' d) off te.ty.size
   |_=>none
  else none
 |none=>none
def Wv1(k:IntKind)(xs:List Int):Nat->Nat->List Cell
 |_,0=>[]
 |i,n+1=>.val (.int k) (xs.getD i (0:Int))::Wv1 k xs (i+1) n
def Wf2(T:Tab)(st:St)(t:TypeId)(x:AVal):Option (Bool×AVal):=
 match look T t with
 |some ⟨.int k,true,.arr n _⟩=>match x with
  | .s (.one (.aptr id))=>match look st.objs id with
   |some (.arr (.int k') xs)=>if k'=k then some (decide (Xa xs=n),.s (.agg (Wv1 k xs 0 n)))else none
   |_=>none
  |_=>none
 |_=>none
def WbP(k:IntKind):List Cell->Option (List Int)
 | []=>some []
 | .val (.int k') d::cs=>if k'=k then(WbP k cs).map λl=>(d:Int)::l else none
 |_=>none
def asI:AVal->Option Int
 | .s (.one (.val (.int _) n))=>some n
 |_=>none
def asB:AVal->Option Bool
 | .s (.one (.val .bool b))=>some b
 |_=>none
def obL(o:Option Ob):Option (Bool×AVal):=match o with
 |some (.arr _ xs)=>some (true,one (.int .i64) (Wj xs))
 |some (.hole _ xs _ _)=>some (true,one (.int .i64) (Wj xs))
 |_=>none
def WjP(T:Tab)(st:St)(t:TypeId)(x:AVal):Option (Bool×AVal):=
 match look T t,x with
 |some ⟨_,false,.slice _⟩,.s (.one (.val (.slice _) l))=>some (true,one (.int .i64) (Wj l))
 |some ⟨_,false,.slice _⟩,.s (.one .nils)=>some (true,one (.int .i64) (0:Int))
 |some ⟨_,false,.slice _⟩,.s (.one (.own id))=>obL (look st.objs id)
 |some ⟨_,false,.slice _⟩,.s (.one (.vw _ lo hi))=>some (true,one (.int .i64) ((hi-lo:Nat):Int))
 |some ⟨.str,false,.basic⟩,.s (.one (.val .str s))=>some (true,one (.int .i64) (Wj (α:=UInt8) s))
 |_,_=>none
def Wgn(T:Tab)(t:TypeId)(f:Nat):Option (Nat×TE):=
 match look T t with
 |some ⟨_,_,.struct fs⟩=>match fs[f]? with
  |some (off,ft)=>match look T ft with
   |some te=>if te.plain then some (off,te)else none
   |none=>none
  |none=>none
 |_=>none
def Wcc(T:Tab)(st:St)(t:TypeId)(x:AVal)(f:Nat):Option (Bool×AVal):=
 match Wgn T t f,x with
 |some (off,_),.s (.one (.ptr id o))=>match look st.objs id with
  |some (.box _)=>some (true,.s (.one (.ptr id (o+off))))
  |_=>none
 |some (off,_),.s (.one (.eptr id i o))=>match look st.objs id with
  |some (.arr _ _)=>some (true,.s (.one (.eptr id i (o+off))))
  |_=>none
 |some (off,_),.s (.one (.rptr t' d o))=>some (true,.s (.one (.rptr t' d (o+off))))
 |_,_=>none
def Wo8(T:Tab)(t:TypeId)(x:AVal)(f:Nat):Option (Bool×AVal):=
 match Wgn T t f,x with
 |some (off,te),.s (.agg cs)=>(sub te.agg cs off te.ty.size).map λv=>(true,v)
 |_,_=>none
def obI(te:TE)(n:Int)(id:Nat)(o:Option Ob):Option (Bool×AVal):=match o with
 |some (.arr e xs)=>if te.ty=e.ro then some (inb n xs.length,.s (.one (.eptr id n.toNat 0)))else none
 |some (.hole e xs i p)=>if te.ty=e.ro then some (inb n xs.length&&Xbu n.toNat i,.s (.one (.ptr p 0)))else none
 |_=>none
def WxO(te:TE)(n:Int)(id lo hi:Nat)(o:Option Ob):Option (Bool×AVal):=match o with
 |some (.arr e xs)=>if te.ty=e.ro then some (inb n (hi-lo),.s (.one (.eptr id (lo+n.toNat) 0)))else none
 |_=>none
def WxD(te:TE)(n:Int)(k:Nat)(id:Nat)(o:Option Ob):Option (Bool×AVal):=match o with
 |some (.arr e xs)=>if te.ty=e then some (inb n k&&decide (xs.length=k),.s (.one (.eptr id n.toNat 0)))else none
 |_=>none
def Wca(T:Tab)(st:St)(t:TypeId)(x i:AVal):Option (Bool×AVal):=
 match look T t,asI i with
 |some ⟨_,_,.slice et⟩,some n=>match look T et with
  |some te=>
   if te.plain then match x with
    | .s (.one (.val (.slice e) l))=>if te.ty=e then some (inb n (Xa l),.s (.one (.rptr e (Xd l n.toNat e.dflt) 0)))else none
    | .s (.one .nils)=>some (false,.s (.one .junk))
    | .s (.one (.own id))=>obI te n id (look st.objs id)
    | .s (.one (.vw id lo hi))=>WxO te n id lo hi (look st.objs id)
    |_=>none
   else none
  |none=>none
 |some ⟨_,_,.arr k et⟩,some n=>match look T et with
  |some te=>
   if te.plain then match x with
    | .s (.one (.aptr id))=>WxD te n k id (look st.objs id)
    |_=>none
   else none
  |none=>none
 |_,_=>none
def Wod(T:Tab)(t:TypeId)(x i:AVal):Option (Bool×AVal):=
 match look T t,x,asI i with
 |some ⟨.str,_,.basic⟩,.s (.one (.val .str s)),some n=>some (inb n (Xa s),one (.int .u8) ((Xd s n.toNat 0).toNat:Int))
 |some ⟨.int k,_,.arr m et⟩,.s (.agg cs),some n=>match look T et with
  |some ⟨.int k',false,.basic⟩=>match WbP k cs with
   |some l=>if k'=k/\cs.length=m then some (inb n m,one (.int k) (Xd l n.toNat (0:Int)))else none
   |none=>none
  |_=>none
 |_,_,_=>none
def WcQ(n:Nat)(lo hi:Option Int):Bool×Nat×Nat:=
 match lo,hi with
 |none,none=>(true,0,n)
 |some l,none=>(decide (0<=l)&&decide (l<=(n:Int)),l.toNat,n)
 |none,some h=>(decide (0<=h)&&decide (h<=(n:Int)),0,h.toNat)
 |some l,some h=>(decide (0<=h)&&decide (h<=(n:Int))&&decide (0<=l)&&decide (l<=h),l.toNat,h.toNat)
def Wv7{α:Type}(l:List α)(lo hi:Option Int):List α:=
 match lo,hi with
 |none,none=>l
 |some a,none=>l.drop a.toNat
 |none,some b=>l.take b.toNat
 |some a,some b=>(l.take b.toNat).drop a.toNat
def Wmq(st:St):Option Operand->Option (Option Int)
 |none=>some none
 |some x=>((ev st x).bind asI).map some
def Wl6(T:Tab)(st:St)(t:TypeId)(x:AVal)(lo hi:Option Operand):Option (Bool×AVal):=
 match look T t,x,Wmq st lo,Wmq st hi with
 |some ⟨.str,_,.basic⟩,.s (.one (.val .str s)),some l,some h=>some ((WcQ (Xa s) l h).1,one .str (Wv7 s l h))
 |some ⟨_,_,.slice et⟩,.s (.one (.val (.slice e) xs)),some l,some h=>match look T et with
  |some te=>if te.ty=e/\te.plain then some ((WcQ (Xa xs) l h).1,one (.slice e) (Wv7 xs l h))else none
  |none=>none
 |_,_,_,_=>none
def WuB(st:St):AVal->Option Ob
 | .s (.one (.own id))=>look st.objs id
 |_=>none
def WxK(T:Tab)(o:Option Ob)(src dst:TypeId)(x:AVal):Option (Bool×AVal):=
 match look T src,look T dst,x with
 |some ⟨.int _,false,.basic⟩,some ⟨.int k,false,.basic⟩,.s (.one (.val (.int _) n))=>some (true,one (.int k) (k.wrap n))
 |some ⟨.str,false,.basic⟩,some ⟨.str,false,.basic⟩,.s (.one (.val .str s))=>some (true,one .str s)
 |some ⟨_,_,.slice et⟩,some ⟨.str,false,.basic⟩,.s (.one c)=>
  match look T et with
  |some ⟨.int .u8,false,.basic⟩=>match c with
   | .val (.slice (.int .u8)) l=>some (true,one .str (Wio l))
   | .nils=>some (true,one .str ([]:List UInt8))
   | .own _=>match o with
    |some (.arr (.int .u8) xs)=>some (true,one .str (Wio xs))
    |_=>none
   |_=>none
  |_=>none
 |_,_,_=>none
def WjY(T:Tab)(st:St)(src dst:TypeId)(x:AVal):Option (Bool×AVal):=WxK T (WuB st x) src dst x
def Wq7(st:St)(x:AVal):Option (Bool×AVal):=
 match x with
 | .s (.one (.rptr _ _ _))=>some (true,x)
 | .s (.one (.ptr id _))=>match look st.objs id with
  |some (.box _)=>some (true,x)
  |_=>none
 | .s (.one (.eptr id _ _))| .s (.one (.aptr id))=>match look st.objs id with
  |some (.arr _ _)=>some (true,x)
  |_=>none
 |_=>none
def WgW(st:St):List Operand->Option (List Nat)
 | []=>some []
 |o::l=>match ev st o,WgW st l with
  |some (.s (.one (.ptr id 0))),some r=>some (id::r)
  |_,_=>none
def WyY(a b:Int):Int:=if b<a then b else a
def Wxp(a b:Int):Int:=if a<b then b else a
def WqQ(T:Tab)(st:St)(op:BinOp)(t:TypeId)(a b:AVal):Option (Bool×AVal):=
 match a,b with
 | .s (.one (.own id)),.s (.one .nils)=>match look T t with
  |some ⟨_,false,.slice _⟩=>match look st.objs id with
   |some (.arr _ xs)=>match op with
    | .eql=>some (Xgp 0 xs.length,one .bool false)
    | .neq=>some (Xgp 0 xs.length,one .bool true)
    |_=>none
   |_=>none
  |_=>none
 |_,_=>none
def Wan(T:Tab)(st:St):Op->Option (Bool×AVal)
 | .move x| .assign x=>(ev st x).map λv=>(true,v)
 | .pick c a b=>match(ev st c).bind asB with
  |some p=>match ev st a,ev st b with
   |some (.s (.one (.val .bool x))),some (.s (.one (.val .bool y)))=>some (true,one .bool (bif p then x else y))
   |va,vb=>(bif p then va else vb).map λv=>(true,v)
  |none=>none
 | .load t a=>(ev st a).bind λv=>match Wf2 T st t v with
  |some r=>some r
  |none=>(WhN T st t v).map λr=>(true,r)
 | .nilCheck x=>(ev st x).bind (Wq7 st)
 | .binOp op t x y _=>match ev st x,ev st y with
  |some a,some b=>match WqQ T st op t a b with
   |some r=>some r
   |none=>binOp T op t a b
  |_,_=>none
 | .unOp op _ x=>(ev st x).bind (unOp op)
 | .convert src dst x=>(ev st x).bind (WjY T st src dst)
 | .slice t x lo hi none=>(ev st x).bind λv=>Wl6 T st t v lo hi
 | .fieldAddr s x f=>(ev st x).bind λv=>Wcc T st s v f
 | .field t x f=>(ev st x).bind λv=>Wo8 T t v f
 | .indexAddr t x i=>match ev st x,ev st i with
  |some a,some b=>Wca T st t a b
  |_,_=>none
 | .index t x i=>match ev st x,ev st i with
  |some a,some b=>Wod T t a b
  |_,_=>none
 | .extract t ix=>match ev st t with
  |some (.tup xs)=>(xs[ix]?).map λx=>(true,.s x)
  |_=>none
 | .makeFunc (.func f) first captured=>if first.isEmpty then(WgW st captured.toList).map λids=>(true,.s (.one (.clos f ids)))else none
 | .call c=>match c.callee,c.args.toList,c.argTypes.toList with
  | .builtin .len,[x],[t]=>(ev st x).bind (WjP T st t)
  | .builtin .min,[x,y],[_,_]=>match ev st x,ev st y with
   |some (.s (.one (.val (.int k) a))),some (.s (.one (.val (.int k') b)))=>if k=k' then some (true,one (.int k) (WyY a b))else none
   |_,_=>none
  | .builtin .max,[x,y],[_,_]=>match ev st x,ev st y with
   |some (.s (.one (.val (.int k) a))),some (.s (.one (.val (.int k') b)))=>if k=k' then some (true,one (.int k) (Wxp a b))else none
   |_,_=>none
  |_,_,_=>none
 |_=>none
def WeK:Ty->List Cell
 | .prod a b=>WeK a++WeK b
 | .int k=>[.val (.int k) (0:Int)]
 | .bool=>[.val .bool false]
 | .str=>[.val .str ([]:List UInt8)]
 | .slice _=>[.nils]
 | .own _=>[.junk]
def Ty.data:Ty->Bool
 | .own _=>false
 | .prod a b=>a.data&&b.data
 |_=>true
def unfold:(t:Ty)->t.den->Nat->List Cell×Wak×Nat
 | .prod a b,d,nx=>
  let x:=unfold a d.1 nx
  let y:=unfold b d.2 x.2.2
  (x.1++y.1,x.2.1++y.2.1,y.2.2)
 | .own e,d,nx=>([.own nx],[(nx,.arr e d)],nx+1)
 | .int k,d,nx=>([.val (.int k) d],[],nx)
 | .bool,d,nx=>([.val .bool d],[],nx)
 | .str,d,nx=>([.val .str d],[],nx)
 | .slice e,d,nx=>([.val (.slice e) d],[],nx)
def WjL(t:Ty)(c:Cell):Option t.den:=
 match c with
 | .val t' d=>WnT t' t d
 |_=>none
def WvO(e:Ty)(objs:Wak)(fc:List Cell->Option (e.den×List Nat×List Nat))(id:Nat):Option (List e.den×List Nat):=
 match look objs id with
 |some (.arr e' xs)=>(Wgy e' e xs).map λys=>(ys,[id])
 |some (.hole e' xs i p)=>match Wgy e' e xs,look objs p with
  |some ys,some (.box cs)=>match fc cs with
   |some (d,m,[])=>some (ys.set i d,id::p::m)
   |_=>none
  |_,_=>none
 |_=>none
def Wwf(e:Ty)(objs:Wak)(fc:List Cell->Option (e.den×List Nat×List Nat))(id:Nat):Option (List e.den×List Nat):=
 match look objs id with
 |some (.arr e' xs)=>(Wgy e'.ro e (WcH e' xs)).map λys=>(ys,[id])
 |some (.hole e' xs i p)=>match Wgy e'.ro e (WcH e' xs),look objs p with
  |some ys,some (.box cs)=>match fc cs with
   |some (d,[],l)=>some (ys.set i d,id::p::l)
   |_=>none
  |_,_=>none
 |_=>none
def Waz:(t:Ty)->List Cell->Wak->Option (t.den×List Nat×List Nat)
 | .prod a b,cs,objs=>match Waz a (cs.take a.size) objs,Waz b (cs.drop a.size) objs with
  |some (x,m,r),some (y,m',r')=>some ((x,y),m++m',r++r')
  |_,_=>none
 | .own e,cs,objs=>match cs with
  | [.own id]=>(WvO e objs (λcs=>Waz e cs objs) id).map λp=>(p.1,p.2,[])
  | [.vw id lo hi]=>match look objs id with
   |some (.arr e' xs)=>(Wgy e' e xs).map λys=>((ys.take hi).drop lo,[id],[])
   |_=>none
  | [.nils]=>some (([]:List e.den),[],[])
  |_=>none
 | .slice e,cs,objs=>match cs with
  | [.own id]=>(Wwf e objs (λcs=>Waz e cs objs) id).map λp=>(p.1,[],p.2)
  | [.vw id lo hi]=>match look objs id with
   |some (.arr e' xs)=>(Wgy e'.ro e (WcH e' xs)).map λys=>((ys.take hi).drop lo,[],[id])
   |_=>none
  | [.nils]=>some (([]:List e.den),[],[])
  | [c]=>(WjL (.slice e) c).map λd=>(d,[],[])
  |_=>none
 | .int k,cs,_=>match cs with
  | [c]=>(WjL (.int k) c).map λd=>(d,[],[])
  |_=>none
 | .bool,cs,_=>match cs with
  | [c]=>(WjL .bool c).map λd=>(d,[],[])
  |_=>none
 | .str,cs,_=>match cs with
  | [c]=>(WjL .str c).map λd=>(d,[],[])
  |_=>none
def Wcy(i:Nat):List Nat->Bool
 | []=>false
 |j::l=>Xbu i j||Wcy i l
def WbA:List Nat->Bool
 | []=>true
 |i::l=>!Wcy i l&&WbA l
def eqN:List Nat->List Nat->Bool
 | [],[]=>true
 |i::l,j::m=>Xbu i j&&eqN l m
 |_,_=>false
def Wg8(l m:List Nat):Bool:=l.all λi=>!Wcy i m
def kill(objs:Wak):List Nat->Wak
 | []=>objs
 |i::l=>(i,.dead)::kill objs l
def cellsOf(agg:Bool):AVal->Option (List Cell)
 | .s (.one c)=>if agg then none else some [c]
 | .s (.agg cs)=>if agg then some cs else none
 | .tup _=>none
inductive PTy where
 |v (t:Ty) (agg:Bool)
 |box (t:Ty)
 |mut (e:Ty)
 |clos (g:FuncId) (n:Nat)
 |kv (t:Ty) (agg:Bool)
 |rp (t:Ty)
 |boxal (t:Ty) (lf:Nat)
 |vj (t:Ty)
def Ty.owns:Ty->Nat
 | .own _=>1
 | .prod a b=>a.owns+b.owns
 |_=>0
def WfC:List PTy->Type
 | []=>Unit
 | .v t _::ps=>t.den×WfC ps
 | .box t::ps=>t.den×WfC ps
 | .mut e::ps=>List e.den×WfC ps
 | .clos _ _::ps=>WfC ps
 | .kv t _::ps=>t.den×WfC ps
 | .rp t::ps=>t.den×WfC ps
 | .vj _::ps=>WfC ps
 | .boxal t _::ps=>t.den×Nat×WfC ps
def Wgg:List PTy->Type
 | []=>Unit
 | .v _ _::ps=>Wgg ps
 | .box t::ps=>t.den×Wgg ps
 | .mut e::ps=>List e.den×Wgg ps
 | .clos _ _::ps=>Wgg ps
 | .kv t _::ps=>t.den×Wgg ps
 | .rp _::ps=>Wgg ps
 | .vj _::ps=>Wgg ps
 | .boxal t _::ps=>t.den×Wgg ps
def Whi:List PTy->Type
 | []=>Unit
 | .v t _::rs=>t.den×Whi rs
 | .box t::rs=>t.den×Whi rs
 | .mut _::rs=>Whi rs
 | .clos _ _::rs=>Whi rs
 | .kv _ _::rs=>Whi rs
 | .rp _::rs=>Whi rs
 | .vj t::rs=>t.den×Whi rs
 | .boxal _ _::rs=>Whi rs
structure Kp where
 id:Nat
 off:Nat
def kp0(l:List Nat):List Kp:=l.map λi=>⟨i,0⟩
structure Args(ps:List PTy) where
 d:WfC ps
 moved:List Nat
 lent:List Nat
 kept:List Kp
 all:List Nat
def WbG:Ty->Nat->Option Nat
 | .own _,n=>match n with
  |0=>some 0
  |_+1=>none
 | .prod a b,n=>if n<a.owns then WbG a n else(WbG b (n-a.owns)).map (a.size+ ·)
 | .int _,_=>none
 | .bool,_=>none
 | .str,_=>none
 | .slice _,_=>none
def WtW(objs:Wak):Cell->AVal->Option Nat
 | .own r,.s (.one (.ptr p off))=>match off,look objs r with
  |0,some (.hole _ _ i p')=>if Xbu p p' then some i else none
  |_,_=>none
 | .own r,.s (.one (.eptr r' i off))=>match off,look objs r with
  |0,some (.arr _ _)=>if Xbu r r' then some i else none
  |_,_=>none
 |_,_=>none
def Wty:Cell->Bool
 | .vw _ _ _=>false
 |_=>true
def Wwk:AVal->Bool
 | .s (.one c)=>Wty c
 | .s (.agg cs)=>cs.all Wty
 | .tup _=>true
def Wne(objs:Wak)(t:Ty)(m:List Nat)(x:AVal):Bool:=decide (m.length=t.owns)&&Wwk x&&m.all λid=>match look objs id with
 |some (.arr _ _)=>true
 |_=>false
def Wkt(l:List Nat):List AVal:=l.map λid=>.s (.one (.ptr id 0))
def Waj:(ps:List PTy)->List AVal->Wak->Option (Args ps)
 | [],xs,_=>match xs with
  | []=>some ⟨(),[],[],[],[]⟩
  |_=>none
 | .v t agg::ps,xs,objs=>match xs with
  |x::xs=>match(cellsOf agg x).bind λcs=>Waz t cs objs,Waj ps xs objs with
   |some (d,m,r),some A=>some ⟨(d,A.d),m++A.moved,r++A.lent,A.kept,m++A.all⟩
   |_,_=>none
  |_=>none
 | .box t::ps,xs,objs=>match xs with
  | .s (.one (.ptr id off))::xs=>match look objs id with
   |some (.box cs)=>match Waz t ((cs.drop off).take t.size) objs,Waj ps xs objs with
    |some (d,m,[]),some A=>some ⟨(d,A.d),m++A.moved,A.lent,⟨id,off⟩::A.kept,id::(m++A.all)⟩
    |_,_=>none
   |_=>none
  |_=>none
 | .mut e::ps,xs,objs=>match xs with
  | .s (.one (.own id))::xs=>match look objs id with
   |some (.arr e' ys)=>match Wgy e' e ys,Waj ps xs objs with
    |some d,some A=>some ⟨(d,A.d),A.moved,A.lent,⟨id,0⟩::A.kept,id::A.all⟩
    |_,_=>none
   |_=>none
  |_=>none
 | .clos g n::ps,xs,objs=>match xs with
  | .s (.one (.clos g' caps))::xs=>if g'=g/\caps.length=n then(Waj ps (Wkt caps++xs) objs).map λA=>⟨A.d,A.moved,A.lent,A.kept,A.all⟩else none
  |_=>none
 | .kv t agg::ps,xs,objs=>match xs with
  |x::xs=>match(cellsOf agg x).bind λcs=>Waz t cs objs,Waj ps xs objs with
   |some (d,m,r),some A=>if Wne objs t m x then some ⟨(d,A.d),A.moved,r++A.lent,kp0 m++A.kept,m++A.all⟩else none
   |_,_=>none
  |_=>none
 | .rp t::ps,xs,objs=>match xs with
  | .s (.one (.ptr id off))::xs=>match look objs id with
   |some (.box cs)=>match Waz t ((cs.drop off).take t.size) objs,Waj ps xs objs with
    |some (d,[],r),some A=>if t.data then some ⟨(d,A.d),A.moved,id::(r++A.lent),A.kept,A.all⟩else none
    |_,_=>none
   |_=>none
  | .s (.one (.rptr t' d off))::xs=>match Waz t (((split t' d).drop off).take t.size) objs,Waj ps xs objs with
   |some (d,[],[]),some A=>if t.data then some ⟨(d,A.d),A.moved,A.lent,A.kept,A.all⟩else none
   |_,_=>none
  |_=>none
 | .vj _::_,_,_=>none
 | .boxal t lf::ps,xs,objs=>match xs with
  | .s (.one (.ptr id off))::y::xs=>match look objs id with
   |some (.box cs)=>match Waz t ((cs.drop off).take t.size) objs,Waj ps xs objs,((WbG t lf).bind λk=>((cs.drop off).take t.size)[k]?).bind λc=>WtW objs c y with
    |some (d,m,[]),some A,some i=>some ⟨(d,i,A.d),m++A.moved,A.lent,⟨id,off⟩::A.kept,id::(m++A.all)⟩
    |_,_,_=>none
   |_=>none
  |_=>none
def WcC:(t:Ty)->t.den->List Nat->Wak
 | .own e,d,ids=>match ids with
  |id::_=>[(id,.arr e d)]
  | []=>[]
 | .prod a b,d,ids=>WcC a d.1 (ids.take a.owns)++WcC b d.2 (ids.drop a.owns)
 | .int _,_,_=>[]
 | .bool,_,_=>[]
 | .str,_,_=>[]
 | .slice _,_,_=>[]
def Wel(cs:List Cell)(off:Nat)(ds:List Cell):List Cell:=cs.take off++ds++cs.drop (off+ds.length)
def WhA(o:Option Ob)(off:Nat)(ds:List Cell):Ob:=match o with
 |some (.box cs)=>.box (Wel cs off ds)
 |_=>.dead
def Wao:(ps:List PTy)->Wgg ps->List Kp->Wak->Nat->Wak×Nat
 | [],_,_,objs,nx=>(objs,nx)
 | .v _ _::ps,o,ids,objs,nx=>Wao ps o ids objs nx
 | .box t::ps,o,ids,objs,nx=>match ids with
  |k::ids=>
   let x:=unfold t o.1 nx
   Wao ps o.2 ids ((k.id,WhA (look objs k.id) k.off x.1)::(x.2.1++objs)) x.2.2
  | []=>(objs,nx)
 | .mut e::ps,o,ids,objs,nx=>match ids with
  |k::ids=>Wao ps o.2 ids ((k.id,.arr e o.1)::objs) nx
  | []=>(objs,nx)
 | .clos _ _::ps,o,ids,objs,nx=>Wao ps o ids objs nx
 | .kv t _::ps,o,ids,objs,nx=>Wao ps o.2 (ids.drop t.owns) (WcC t o.1 ((ids.take t.owns).map Kp.id)++objs) nx
 | .rp _::ps,o,ids,objs,nx=>Wao ps o ids objs nx
 | .vj _::ps,o,ids,objs,nx=>Wao ps o ids objs nx
 | .boxal t _::ps,o,ids,objs,nx=>match ids with
  |k::ids=>
   let x:=unfold t o.1 nx
   Wao ps o.2 ids ((k.id,WhA (look objs k.id) k.off x.1)::(x.2.1++objs)) x.2.2
  | []=>(objs,nx)
def WxF(agg:Bool)(cs:List Cell):AV:=if agg then .agg cs else match cs with
 | [c]=>.one c
 |_=>.agg cs
def WbE:(rs:List PTy)->Whi rs->Wak->Nat->List AV×Wak×Nat
 | [],_,objs,nx=>([],objs,nx)
 | .v t agg::rs,d,objs,nx=>
  let x:=unfold t d.1 nx
  let y:=WbE rs d.2 (x.2.1++objs) x.2.2
  (WxF agg x.1::y.1,y.2)
 | .box t::rs,d,objs,nx=>
  let x:=unfold t d.1 (nx+1)
  let y:=WbE rs d.2 ((nx,.box x.1)::(x.2.1++objs)) x.2.2
  (.one (.ptr nx 0)::y.1,y.2)
 | .mut _::rs,d,objs,nx=>WbE rs d objs nx
 | .clos _ _::rs,d,objs,nx=>WbE rs d objs nx
 | .kv _ _::rs,d,objs,nx=>WbE rs d objs nx
 | .rp _::rs,d,objs,nx=>WbE rs d objs nx
 | .vj t::rs,d,objs,nx=>
  let x:=unfold t d.1 nx
  let y:=WbE rs d.2 (x.2.1++objs) x.2.2
  (.agg (x.1++ [.junk])::y.1,y.2)
 | .boxal _ _::rs,d,objs,nx=>WbE rs d objs nx
def WxV:List AV->AVal
 | [x]=>.s x
 |xs=>.tup xs
structure Sig where
 ps:List PTy
 rs:List PTy
 fn:(R:Type)->WfC ps->(Wgg ps×Whi rs->Option R)->Option R
 run:WfC ps->Option (Wgg ps×Whi rs)
 law:∀(R:Type) (d:WfC ps) (k:Wgg ps×Whi rs->Option R),fn R d k=(run d).bind k
noncomputable def Sig.of(ps:List PTy)(rs:List PTy)(run:WfC ps->Option (Wgg ps×Whi rs)):Sig:=⟨ps,rs,λ_ d k=>(run d).bind k,run,λ_ _ _=>rfl⟩
theorem Sig.law'(s:Sig){R:Type}(d:WfC s.ps)(k:Wgg s.ps×Whi s.rs->Option R)(r:R)(h:s.fn R d k=some r):∃o,s.run d=some o/\k o=some r:=by
 rw[s.law]at h;cases hr:s.run d with
 |none=>simp_all
 |some o=>simp_all
def PTy.fresh:PTy->Bool
 | .v _ _=>true
 | .box t=>t.noRo
 | .mut e=>e.noRo
 | .clos _ _=>true
 | .kv t _=>t.noRo
 | .rp _=>true
 | .vj _=>true
 | .boxal t _=>t.noRo
def PTy.freshR:PTy->Bool
 | .v t _=>t.noRo
 | .box t=>t.noRo
 | .mut _=>true
 | .clos _ _=>true
 | .kv _ _=>true
 | .rp _=>true
 | .vj t=>t.noRo
 | .boxal _ _=>true
def Sig.fresh(s:Sig):Bool:=s.rs.all PTy.freshR&&s.ps.all PTy.fresh
abbrev Ctx:=List (FuncId×Sig)
def evs(st:St):List Operand->Option (List AVal)
 | []=>some []
 |o::l=>match ev st o,evs st l with
  |some x,some xs=>some (x::xs)
  |_,_=>none
abbrev KV(R:Type):=AVal->Wak->Nat->Option R
def WfF{R:Type}(sg:Sig)(st:St)(xs:List AVal)(k:KV R):Option R:=
 match Waj sg.ps xs st.objs with
 |some A=>
  if WbA A.all&&Wg8 A.lent A.all&&(sg.fresh||A.lent.isEmpty)then
   sg.fn R A.d λo=>
    let p:=Wao sg.ps o.1 A.kept (kill st.objs A.moved) st.nx
    let q:=WbE sg.rs o.2 p.1 p.2
    k (WxV q.1) q.2.1 q.2.2
  else none
 |none=>none
def WkY(objs:Wak)(ids:List Nat):Cell->Cell
 | .own id=>bif Wcy id ids then(match look objs id with
  |some (.arr e xs)=>.val (.slice e.ro) (WcH e xs)
  |_=>.junk)else .own id
 | .vw id lo hi=>.vw id lo hi
 | .val t d=>.val t d
 | .nils=>.nils
 | .aptr id=>.aptr id
 | .ptr id off=>.ptr id off
 | .eptr id i off=>.eptr id i off
 | .rptr t d off=>.rptr t d off
 | .clos f caps=>.clos f caps
 | .junk=>.junk
def Whv(objs:Wak)(ids:List Nat):AVal->AVal
 | .s (.one c)=>.s (.one (WkY objs ids c))
 | .s (.agg cs)=>.s (.agg (cs.map (WkY objs ids)))
 | .tup xs=>.tup xs
def Wuc:Cell->List Nat
 | .own id=>[id]
 | .vw _ _ _=>[]
 | .val _ _=>[]
 | .nils=>[]
 | .aptr _=>[]
 | .ptr _ _=>[]
 | .eptr _ _ _=>[]
 | .rptr _ _ _=>[]
 | .clos _ _=>[]
 | .junk=>[]
def WsN:AVal->List Nat
 | .s (.one c)=>Wuc c
 | .s (.agg cs)=>cs.flatMap Wuc
 | .tup _=>[]
def WuF:Ty->List Cell->List Nat
 | .prod a b,cs=>WuF a (cs.take a.size)++WuF b (cs.drop a.size)
 | .slice _,cs=>match cs with
  |c::_=>Wuc c
  | []=>[]
 | .own _,_=>[]
 | .int _,_=>[]
 | .bool,_=>[]
 | .str,_=>[]
def Why(e:Ty):AVal->List Nat
 | .s (.one c)=>WuF e [c]
 | .s (.agg cs)=>WuF e cs
 | .tup _=>[]
def Wf9(objs:Wak)(p v:AVal):List Nat:=match p with
 | .s (.one (.eptr id _ _))=>match look objs id with
  |some (.arr e _)=>bif e.data then WsN v else Why e v
  |_=>[]
 |_=>[]
def WkO(ps:List (Nat×AVal)):List Nat:=ps.flatMap λp=>WsN p.2
def WdY(objs:Wak)(l:List Nat):Wak:=kill objs l
def Wlp(objs:Wak)(ps:List (Nat×AVal)):List (Nat×AVal):=ps.map λp=>(p.1,Whv objs (WkO ps) p.2)
def WmK{R:Type}(sg:Sig)(st:St)(xs:List AVal)(k:KV R):Option R:=
 bif sg.fresh then WfF sg st xs k else match Waj sg.ps xs st.objs with
  |some A=>match A.lent with
   | []=>WfF sg st xs k
   |_=>WfF sg {env:=st.env,objs:=kill st.objs A.lent,nx:=st.nx} (xs.map (Whv st.objs A.lent)) k
  |none=>none
def St.new(st:St)(dst:Option Tmp)(ob:Ob)(x:AVal):St:=
 {env:=st.env,objs:=(st.nx,ob)::st.objs,nx:=st.nx+1:St}.put dst x
def St.turn(st:St)(id:Nat)(ob:Ob):St:={st with objs:=(id,ob)::st.objs}
def Wg9:AVal->Option (List Cell)
 | .s (.one c)=>some [c]
 | .s (.agg cs)=>some cs
 | .tup _=>none
def Wc2(T:Tab)(st:St)(t:TypeId)(x v:AVal):Option St:=
 match look T t,x,Wg9 v with
 |some te,.s (.one (.ptr id off)),some ds=>match look st.objs id with
  |some (.box cs)=>if decide (te.ty.size=ds.length)&&te.plain&&decide (off+ds.length<=cs.length)then some (st.turn id (.box (Wel cs off ds)))else none
  |_=>none
 |some te,.s (.one (.eptr id i off)),some ds=>match look st.objs id with
  |some (.arr e xs)=>
   if decide (te.ty.size=ds.length)&&te.plain&&decide (off+ds.length<=e.size)&&e.data then
    match Waz e (Wel (split e (xs.getD i e.dflt)) off ds) st.objs with
    |some (d,[],[])=>some (st.turn id (.arr e (xs.set i d)))
    |_=>none
   else if decide (te.ty.size=ds.length)&&te.plain&&decide (off=0)&&decide (ds.length=e.size)then
    match Waz e ds st.objs with
    |some (d,m,[])=>if WbA (id::m)then some {env:=st.env,objs:=(id,.arr e (xs.set i d))::kill st.objs m,nx:=st.nx}else none
    |_=>none
   else none
  |_=>none
 |_,_,_=>none
def Wwq(st:St)(e:Ty):AVal->Option (List e.den)
 | .s (.one (.val (.slice e') d))=>Wgy e' e d
 | .s (.one .nils)=>some []
 | .s (.one (.own id))=>match look st.objs id with
  |some (.arr e' xs)=>Wgy e' e xs
  |_=>none
 | .s (.one (.vw id lo hi))=>match look st.objs id with
  |some (.arr e' xs)=>(Wgy e' e xs).map λys=>(ys.take hi).drop lo
  |_=>none
 |_=>none
def Wvg(st:St)(e:Ty):AVal->Option (List e.den×List Nat)
 | .s (.one .nils)=>some ([],[])
 | .s (.one (.own id))=>match look st.objs id with
  |some (.arr e' xs)=>(Wgy e' e xs).map λys=>(ys,[id])
  |_=>none
 |_=>none
def Wy7(st:St):AVal->Option Ty
 | .s (.one (.own id))=>match look st.objs id with
  |some (.arr e _)=>some e
  |_=>none
 |_=>none
def WeJ{R:Type}(st:St)(te:Ty)(s x:AVal)(k:KV R):Option R:=
 match s with
 | .s (.one .nils)=>match Wy7 st x with
  |some e=>if e.ro=te then match Wvg st e x with
    |some (l,m)=>bif WM l.length then k (.s (.one (.own st.nx))) ((st.nx,.arr e l)::kill st.objs m) (st.nx+1)else none
    |none=>none
   else none
  |none=>none
 | .s (.one (.own id))=>match look st.objs id with
  |some (.arr e xs)=>if e.ro=te then match Wvg st e x with
    |some (l,m)=>if WbA (id::m)then(bif WM (xs.length+l.length)then k (.s (.one (.own st.nx))) ((st.nx,.arr e (Xf xs l))::kill st.objs (id::m)) (st.nx+1)else none)else none
    |none=>none
   else none
  |_=>none
 |_=>none
def WvE(st:St):AVal->AVal->Bool
 | .s (.one (.own id)),_=>match look st.objs id with
  |some (.arr e _)=>e.data
  |_=>true
 | .s (.one .nils),.s (.one (.own id))=>match look st.objs id with
  |some (.arr e _)=>e.data
  |_=>true
 |_,_=>true
def Wee{R:Type}(T:Tab)(st:St)(t t2:TypeId)(s x:AVal)(k:KV R):Option R:=
 match look T t,look T t2 with
 |some ⟨_,false,.slice et⟩,some _=>match look T et with
  |some te=>
   if t=t2/\te.plain/\te.ty.data then
    bif !WvE st s x then WeJ st te.ty s x k else
    match s,Wwq st te.ty x with
    | .s (.one .nils),some l=>bif WM l.length then k (.s (.one (.own st.nx))) ((st.nx,.arr te.ty l)::st.objs) (st.nx+1)else none
    | .s (.one (.own id)),some l=>match look st.objs id with
     |some (.arr e xs)=>match WnT (.own e) (.own te.ty) xs with
      |some ys=>bif WM (Xa ys+l.length)then k (.s (.one (.own st.nx))) ((st.nx,.arr te.ty (Xf ys l))::(id,.dead)::st.objs) (st.nx+1)else none
      |none=>none
     |_=>none
    | .s (.one (.vw id 0 hi)),some l=>match look st.objs id with
     |some (.arr e xs)=>match WnT (.own e) (.own te.ty) xs with
      |some ys=>bif WM (hi+l.length)then k (.s (.one (.own st.nx))) ((st.nx,.arr te.ty (Xf (ys.take hi) l))::(id,.dead)::st.objs) (st.nx+1)else none
      |none=>none
     |_=>none
    |_,_=>none
   else none
  |none=>none
 |_,_=>none
def Wm8(T:Tab)(fs:List (Nat×TypeId)):List (Nat×AVal)->List Cell->Option (List Cell)
 | [],cs=>some cs
 |(i,x)::ps,cs=>match fs[i]? with
  |some (off,ft)=>match look T ft,Wg9 x with
   |some te,some ds=>if decide (te.ty.size=ds.length)&&decide (off+ds.length<=cs.length)then Wm8 T fs ps (Wel cs off ds)else none
   |_,_=>none
  |none=>none
def WrT(e:Ty)(objs:Wak):List (Nat×AVal)->List e.den->Option (List e.den)
 | [],xs=>some xs
 |(i,x)::ps,xs=>match Wg9 x with
  |some ds=>match Waz e ds objs with
   |some (d,[],[])=>if i<xs.length then WrT e objs ps (xs.set i d)else none
   |_=>none
  |none=>none
def WcF(st:St):List (Nat×Operand)->Option (List (Nat×AVal))
 | []=>some []
 |(i,o)::l=>match ev st o,WcF st l with
  |some x,some xs=>some ((i,x)::xs)
  |_,_=>none
inductive An where
 |nest (e:Ty)
 |view
 |opn
def Wyk(A:List (Nat×An))(o:Oper):Option An:=match o.dst with
 |some d=>look A d
 |none=>none
def Wdv{R:Type}(st:St)(e:Ty)(ps:List (Nat×AVal))(k:KV R):Option R:=
 match ps with
 | [p]=>if p.1=0 then match Wg9 (Whv st.objs (Why e p.2) p.2)with
  |some ds=>match Waz e ds (WdY st.objs (Why e p.2))with
   |some (d,m,[])=>if WbA m then k (.s (.one (.own st.nx))) ((st.nx,.arr e [d])::kill (WdY st.objs (Why e p.2)) m) (st.nx+1)else none
   |_=>none
  |none=>none
  else none
 |_=>none
def WfE{R:Type}(st:St)(te:Ty)(id:Nat)(l h:Option Int)(k:KV R):Option R:=
 match look st.objs id with
 |some (.arr e xs)=>if te=e.ro then bif (WcQ (Xa xs) l h).1 then k (.s (.one (.vw id (WcQ (Xa xs) l h).2.1 (WcQ (Xa xs) l h).2.2))) st.objs st.nx else none else none
 |_=>none
def WtI(o:Option Ob)(n:Nat):Bool:=match o with
 |some (.box cs)=>Xbu cs.length n
 |_=>false
def rxe{R:Type}(T:Tab)(Γ:Ctx)(A:List (Nat×An))(o:Oper)(st:St)(k:KV R):Option R:=
 match o.op with
 | .alloc t=>match look T t with
  |some ⟨e,true,.arr n _⟩=>if e.data&&WM n then k (.s (.one (.aptr st.nx))) ((st.nx,.arr e (Xu n e.dflt))::st.objs) (st.nx+1)else none
  |some te=>if te.plain then k (.s (.one (.ptr st.nx 0))) ((st.nx,.box (WeK te.ty))::st.objs) (st.nx+1)else none
  |none=>none
 | .box t x=>match look T t,(ev st x).bind Wg9 with
  |some _,some cs=>k (.s (.one (.ptr st.nx 0))) ((st.nx,.box cs)::st.objs) (st.nx+1)
  |_,_=>none
 | .build t parts=>match look T t,WcF st parts.toList with
  |some ⟨ty,true,.struct fs⟩,some ps=>
   if fs.all (λf=>match look T f.2 with|some te=>te.plain|none=>false)then
    match Wm8 T fs ps (WeK ty)with
    |some cs=>k (.s (.agg cs)) st.objs st.nx
    |none=>none
   else none
  |_,_=>none
 | .buildSlice t n parts=>match look T t,WcF st parts.toList with
  |some ⟨_,false,.slice et⟩,some ps=>match look T et with
   |some te=>match Wyk A o with
    |some (.nest e)=>if decide (n=1)&&decide (e.ro=te.ty)&&te.plain&&decide (te.ty.size<=16777216)then Wdv st e ps k else none
    |_=>match WrT te.ty (WdY st.objs (WkO ps)) (Wlp st.objs ps) (Xu n te.ty.dflt)with
    |some xs=>if decide (n*te.ty.size<=16777216)&&te.ty.data&&te.plain then k (.s (.one (.own st.nx))) ((st.nx,.arr te.ty xs)::WdY st.objs (WkO ps)) (st.nx+1)else none
    |none=>none
   |none=>none
  |_,_=>none
 | .makeSlice t n c=>match look T t,(ev st n).bind asI,(ev st c).bind asI with
  |some ⟨_,false,.slice et⟩,some n',some c'=>match look T et with
   |some te=>match Wyk A o with
    |some (.nest e)=>if decide (e.ro=te.ty)&&te.plain then(bif decide (0<=n')&&decide (n'<=c')&&WM c'.toNat then k (.s (.one (.own st.nx))) ((st.nx,.arr e (Xu n'.toNat e.dflt))::st.objs) (st.nx+1)else none)else none
    |_=>if te.ty.data&&te.plain then(bif decide (0<=n')&&decide (n'<=c')&&WM c'.toNat then k (.s (.one (.own st.nx))) ((st.nx,.arr te.ty (Xu n'.toNat te.ty.dflt))::st.objs) (st.nx+1)else none)else none
   |none=>none
  |_,_,_=>none
 | .store t a x=>match ev st a,ev st x with
  |some p,some v=>match Wc2 T {env:=st.env,objs:=WdY st.objs (Wf9 st.objs p v),nx:=st.nx} t p (Whv st.objs (Wf9 st.objs p v) v)with
   |some ae=>match o.dst with
    |none=>k (.tup []) ae.objs ae.nx
    |some _=>none
   |none=>none
  |_,_=>none
 | .slice t x lo hi none=>match ev st x with
  |some (.s (.one (.own id)))=>match look T t,Wmq st lo,Wmq st hi with
   |some ⟨_,false,.slice et⟩,some l,some h=>match look T et with
    |some te=>match Wyk A o with
     |some .view=>if te.plain then WfE st te.ty id l h k else none
     |_=>match l,h,look st.objs id with
      |none,some h,some (.arr e xs)=>if te.ty=e.ro/\te.plain then(bif decide (0<=h)&&decide (h<=(xs.length:Int))then k (.s (.one (.own st.nx))) ((st.nx,.arr e (xs.take h.toNat))::(id,.dead)::st.objs) (st.nx+1)else none)else none
      |none,some h,some (.hole e xs i p)=>if te.ty=e.ro/\te.plain/\WtI (look st.objs p) e.size then(bif decide (0<=h)&&decide (h<=(xs.length:Int))&&decide (h<=(i:Int))then k (.s (.one (.own st.nx))) ((st.nx,.arr e (xs.take h.toNat))::(id,.dead)::(p,.dead)::st.objs) (st.nx+1)else none)else none
      |_,_,_=>none
    |none=>none
   |_,_,_=>none
  |_=>match Wan T st o.op with
   |some (c,v)=>bif c then k v st.objs st.nx else none
   |none=>none
 | .call c=>match c.callee,c.args.toList,c.argTypes.toList with
  | .builtin .append,[s,x],[t,t2]=>match ev st s,ev st x with
   |some sv,some xv=>Wee T st t t2 sv xv k
   |_,_=>none
  | .builtin .clear,[x],[t]=>match ev st x with
   |some (.s (.one (.vw id lo hi)))=>match look T t,look st.objs id with
    |some ⟨_,false,.slice et⟩,some (.arr e xs)=>match look T et with
     |some te=>if te.ty=e/\te.plain/\e.data then k (.tup []) ((id,.arr e (xs.take lo++Xu (hi-lo) e.dflt++xs.drop hi))::st.objs) st.nx else none
     |none=>none
    |_,_=>none
   |_=>none
  | .builtin _,_,_=>match Wan T st o.op with
   |some (c,v)=>bif c then k v st.objs st.nx else none
   |none=>none
  | .value f,args,_=>match ev st f,evs st args with
   |some (.s (.one (.clos g caps))),some xs=>match look Γ g with
    |some sg=>WmK sg st (xs++Wkt caps) k
    |none=>none
   |_,_=>none
  |_,_,_=>none
 |op=>match Wan T st op with
  |some (c,v)=>bif c then k v st.objs st.nx else none
  |none=>none
def rx1{R:Type}(T:Tab)(Γ:Ctx)(A:List (Nat×An))(o:Oper)(st:St)(k:St->Option R):Option R:=
 rxe T Γ A o st λx objs nx=>k (({env:=st.env,objs:=objs,nx:=nx}:St).put o.dst x)
def rxg{R:Type}(T:Tab)(Γ:Ctx)(A:List (Nat×An))(ops:Array Oper)(o:Oper)(st:St)(k:St->Option R):Option R:=
 match o.guard with
 |none=>rx1 T Γ A o st k
 |some (j,want)=>match(ops[j]?).bind (·.dst)with
  |some t=>match look st.env t with
   |some (.tup [])=>k (st.put o.dst (.tup []))
   |some x=>match asB x with
    |some b=>bif b
     then(if want then rx1 T Γ A o (st.put (some t) (one .bool true)) k else k ((st.put (some t) (one .bool true)).put o.dst (.tup [])))
     else(if want then k ((st.put (some t) (one .bool false)).put o.dst (.tup []))else rx1 T Γ A o (st.put (some t) (one .bool false)) k)
    |none=>none
   |none=>none
  |none=>none
inductive Ex where
 |normal|exit (id:Nat)|ret
def Wps{R:Type}(f:St->(Ex->St->Option R)->Option R):Nat->St->(Ex->St->Option R)->Option R
 |0,_,_=>none
 |n+1,st,k=>f st λe ae=>match e with
  | .normal=>Wps f n ae k
  | .exit id=>k (.exit id) ae
  | .ret=>k .ret ae
inductive Ghost where
 |canon (slots:List Nat)
 |adopt (slot:Nat) (e:Ty)
 |freeze (slot:Nat)
 |adoptC (slot off:Nat) (e:Ty)
 |freezeC (slot off:Nat)
 |nest (dst:Nat) (e:Ty)
 |view (dst:Nat)
 |opn (dst:Nat)
 |unfE (slot:Nat)
 |unfS (slot:Nat) (ix:Option Nat)
 |unfC (slot off:Nat) (ix:Option Nat)
 |empt (slot:Nat) (e:Ty)
 |refold (slot:Nat)
 |solo (slot:Nat)
 |soloC (slot off:Nat)
def WmQ:List Ghost->List (Nat×An)
 | []=>[]
 | .nest d e::l=>(d,.nest e)::WmQ l
 | .view d::l=>(d,.view)::WmQ l
 | .opn d::l=>(d,.opn)::WmQ l
 | .canon _::l=>WmQ l
 | .adopt _ _::l=>WmQ l
 | .freeze _::l=>WmQ l
 | .adoptC _ _ _::l=>WmQ l
 | .freezeC _ _::l=>WmQ l
 | .unfE _::l=>WmQ l
 | .unfS _ _::l=>WmQ l
 | .unfC _ _ _::l=>WmQ l
 | .refold _::l=>WmQ l
 | .empt _ _::l=>WmQ l
 | .solo _::l=>WmQ l
 | .soloC _ _::l=>WmQ l
def Wbp:Cell->List Nat
 | .own id| .aptr id| .ptr id _| .eptr id _ _| .vw id _ _=>[id]
 | .clos _ caps=>caps
 |_=>[]
def Wfv:AV->List Nat
 | .one c=>Wbp c
 | .agg cs=>cs.flatMap Wbp
def Wbd:AVal->List Nat
 | .s x=>Wfv x
 | .tup xs=>xs.flatMap Wfv
def Wk6:Nat->List Nat->List Nat->Wak->List Nat
 |0,_,acc,_=>acc
 |n+1,todo,acc,objs=>match todo with
  | []=>acc
  |i::l=>if Wcy i acc then Wk6 n l acc objs else
   match look objs i with
   |some (.box cs)=>Wk6 n (l++cs.flatMap Wbp) (acc++ [i]) objs
   |some (.arr _ _)=>Wk6 n l (acc++ [i]) objs
   |some (.hole _ _ _ p)=>Wk6 n (l++ [p]) (acc++ [i]) objs
   |_=>Wk6 n l acc objs
def Wum(i:Nat):List Nat->Option Nat
 | []=>none
 |j::l=>if Xbu i j then some 0 else(Wum i l).map (· +1)
def WmL(m:List Nat):List Nat->Option (List Nat)
 | []=>some []
 |i::l=>match Wum i m,WmL m l with
  |some j,some r=>some (j::r)
  |_,_=>none
def Wc6(m:List Nat):Cell->Cell
 | .own id=>match Wum id m with|some j=>.own j|none=>.junk
 | .vw id lo hi=>match Wum id m with|some j=>.vw j lo hi|none=>.junk
 | .aptr id=>match Wum id m with|some j=>.aptr j|none=>.junk
 | .ptr id off=>match Wum id m with|some j=>.ptr j off|none=>.junk
 | .eptr id i off=>match Wum id m with|some j=>.eptr j i off|none=>.junk
 | .clos f caps=>match WmL m caps with|some js=>.clos f js|none=>.junk
 | .val t d=>.val t d
 | .nils=>.nils
 | .rptr t d off=>.rptr t d off
 | .junk=>.junk
def Wxf(m:List Nat):AV->AV
 | .one c=>.one (Wc6 m c)
 | .agg cs=>.agg (cs.map (Wc6 m))
def Wph(m:List Nat):AVal->AVal
 | .s x=>.s (Wxf m x)
 | .tup xs=>.tup (xs.map (Wxf m))
def Wss(m:List Nat):Ob->Ob
 | .box cs=>.box (cs.map (Wc6 m))
 | .arr e xs=>.arr e xs
 | .hole e xs i p=>match Wum p m with|some j=>.hole e xs i j|none=>.dead
 | .dead=>.dead
def Wf8(env:List (Nat×AVal)):List Nat->List (Nat×AVal)
 | []=>[]
 |i::l=>match look env i with
  |some x=>(i,x)::Wf8 env l
  |none=>Wf8 env l
def Wd9(m:List Nat)(objs:Wak):Nat->List Nat->Wak
 |_,[]=>[]
 |j,i::l=>match look objs i with
  |some ob=>(j,Wss m ob)::Wd9 m objs (j+1) l
  |none=>Wd9 m objs (j+1) l
def canon(slots:List Nat)(st:St):St:=
 let env:=Wf8 st.env slots
 let m:=Wk6 400 (env.flatMap λp=>Wbd p.2) [] st.objs
 {env:=env.map λp=>(p.1,Wph m p.2),objs:=Wd9 m st.objs 0 m,nx:=m.length}
def WnS(st:St)(r i:Nat):Option St:=
 match look st.objs r with
 |some (.arr e xs)=>
  let x:=unfold e (xs.getD i e.dflt) (st.nx+1)
  some {env:=st.env,objs:=(r,.hole e xs i st.nx)::(st.nx,.box x.1)::(x.2.1++st.objs),nx:=x.2.2}
 |_=>none
def WvT(st:St)(r:Nat):Option Nat->Option (Bool×Nat)
 |none=>match look st.objs r with
  |some (.arr _ xs)=>some (inb (WZ .i64 (Wj xs) 1) (Xa xs),(WZ .i64 (Wj xs) 1).toNat)
  |_=>none
 |some s=>match look st.objs r,(look st.env s).bind asI with
  |some (.arr _ xs),some n=>some (inb n (Xa xs),n.toNat)
  |_,_=>none
def Wqz(st:St)(r:Nat)(ix:Option Nat):Option (Bool×St):=
 match WvT st r ix with
 |some (c,i)=>(WnS st r i).map λae=>(c,ae)
 |none=>none
def WnY(p:Nat):Wak->Option Nat
 | []=>none
 |(r,.hole _ _ _ p')::l=>if Xbu p p' then some r else WnY p l
 |(_,.box _)::l=>WnY p l
 |(_,.arr _ _)::l=>WnY p l
 |(_,.dead)::l=>WnY p l
def Woe(st:St)(p:Nat):Option St:=
 match WnY p st.objs with
 |some r=>match look st.objs r,look st.objs p with
  |some (.hole e xs i p'),some (.box cs)=>match Waz e cs st.objs with
   |some (d,m,[])=>if Xbu p p'&&WbA (r::p::m)then some {env:=st.env,objs:=(r,.arr e (xs.set i d))::kill st.objs (p::m),nx:=st.nx}else none
   |_=>none
  |_,_=>none
 |none=>none
def WfX(g:Ghost)(st:St):Option (Bool×St):=
 match g with
 | .canon slots=>some (true,canon slots st)
 | .adopt slot e=>match look st.env slot with
  |some (.s (.one .nils))=>some (true,st.new (some slot) (.arr e []) (.s (.one (.own st.nx))))
  |some (.s (.one (.own _)))=>some (true,st)
  |_=>none
 | .freeze slot=>match look st.env slot with
  |some (.s (.one (.own id)))=>match look st.objs id with
   |some (.arr e xs)=>some (true,(st.turn id .dead).put (some slot) (one (.slice e.ro) (WcH e xs)))
   |_=>none
  |_=>none
 | .adoptC slot off e=>match look st.env slot with
  |some (.s (.one (.ptr id 0)))=>match look st.objs id with
   |some (.box cs)=>match cs[off]? with
    |some .nils=>some (true,{env:=st.env,objs:=(id,.box (cs.set off (.own st.nx)))::(st.nx,.arr e [])::st.objs,nx:=st.nx+1})
    |some (.own _)=>some (true,st)
    |_=>none
   |_=>none
  |_=>none
 | .freezeC slot off=>match look st.env slot with
  |some (.s (.one (.ptr id 0)))=>match look st.objs id with
   |some (.box cs)=>match cs[off]? with
    |some (.own j)=>match look st.objs j with
     |some (.arr e xs)=>some (true,{st with objs:=(id,.box (cs.set off (.val (.slice e.ro) (WcH e xs))))::(j,.dead)::st.objs})
     |_=>none
    |some (.val _ _)=>some (true,st)
    |some .nils=>some (true,st)
    |_=>none
   |_=>none
  |_=>none
 | .nest _ _=>some (true,st)
 | .view _=>some (true,st)
 | .opn _=>some (true,st)
 | .unfE slot=>match look st.env slot with
  |some (.s (.one (.eptr r i 0)))=>(WnS st r i).map λae=>(true,ae.put (some slot) (.s (.one (.ptr st.nx 0))))
  |_=>none
 | .unfS slot ix=>match look st.env slot with
  |some (.s (.one (.own r)))=>Wqz st r ix
  |_=>none
 | .unfC slot off ix=>match look st.env slot with
  |some (.s (.one (.ptr id o)))=>match look st.objs id with
   |some (.box cs)=>match cs[o+off]? with
    |some (.own r)=>Wqz st r ix
    |_=>none
   |_=>none
  |_=>none
 | .refold slot=>match look st.env slot with
  |some (.s (.one (.ptr p _)))=>(Woe st p).map λae=>(true,ae)
  |_=>none
 | .empt slot e=>match look st.env slot with
  |some (.s (.one (.own id)))=>match look st.objs id with
   |some (.arr e' [])=>if e.size=e'.size/\e.ro=e'.ro then some (true,st.turn id (.arr e []))else none
   |_=>none
  |_=>none
 | .solo slot=>match look st.env slot with
  |some (.s (.one (.vw id lo hi)))=>match look st.objs id with
   |some (.arr e xs)=>some (true,(st.turn id .dead).new (some slot) (.arr e ((xs.take hi).drop lo)) (.s (.one (.own st.nx))))
   |_=>none
  |some (.s (.one (.own _)))=>some (true,st)
  |_=>none
 | .soloC slot off=>match look st.env slot with
  |some (.s (.one (.ptr id o)))=>match look st.objs id with
   |some (.box cs)=>match cs[o+off]? with
    |some (.vw j lo hi)=>match look st.objs j with
     |some (.arr e xs)=>some (true,{env:=st.env,objs:=(id,.box (cs.set (o+off) (.own st.nx)))::(st.nx,.arr e ((xs.take hi).drop lo))::(j,.dead)::st.objs,nx:=st.nx+1})
     |_=>none
    |some (.own _)=>some (true,st)
    |_=>none
   |_=>none
  |_=>none
def Wek:List Ghost->St->Option (Bool×St)
 | [],st=>some (true,st)
 |g::l,st=>match WfX g st with
  |some (c,ae)=>match Wek l ae with
   |some (c',ce)=>some (c&&c',ce)
   |none=>none
  |none=>none
def opG(A:List (Nat×An))(o:Oper)(st:St):Option (Bool×St):=match Wyk A o,o.dst with
 |some .opn,some d=>match look st.env d with
  |some (.tup [])=>some (true,st)
  |_=>WfX (.unfE d) st
 |some .view,_=>some (true,st)
 |some (.nest _),_=>some (true,st)
 |none,_=>some (true,st)
 |some .opn,none=>some (true,st)
def rxs{R:Type}(T:Tab)(Γ:Ctx)(A:List (Nat×An))(ops:Array Oper):List Oper->St->(St->Option R)->Option R
 | [],st,k=>k st
 |o::l,st,k=>rxg T Γ A ops o st λae=>match opG A o ae with
  |some (c,ce)=>bif c then rxs T Γ A ops l ce k else none
  |none=>none
def Wf1:Code->Option Nat
 | .region id _ _=>some id
 | .seq a b=>match Wf1 a with
  |some i=>some i
  |none=>Wf1 b
 | .cond _ a b=>match Wf1 a with
  |some i=>some i
  |none=>Wf1 b
 | .block _ c=>Wf1 c
 | .loop c=>(Wf1 c).map (· +100000)
 |_=>none
def WfN(c:Code):Nat:=match Wf1 c with
 |some i=>i+100000
 |none=>99999
def Wj1{R:Type}(gs:List Ghost)(f:St->(Ex->St->Option R)->Option R)(st:St)(k:Ex->St->Option R):Option R:=
 f st λe ae=>match e with
  | .normal=>match Wek gs ae with
   |some (c,ce)=>bif c then k .normal ce else none
   |none=>none
  | .exit id=>k (.exit id) ae
  | .ret=>k .ret ae
def Wai:Op->List Operand
 | .move x| .assign x| .box _ x| .load _ x| .nilCheck x| .unOp _ _ x| .convert _ _ x| .fieldAddr _ x _| .field _ x _| .extract x _=>[x]
 | .pick c a b=>[c,a,b]
 | .build _ ps| .buildSlice _ _ ps=>ps.toList.map (·.2)
 | .store _ a v| .binOp _ _ a v _| .makeSlice _ a v| .indexAddr _ a v| .index _ a v=>[a,v]
 | .makeFunc _ first captured=>first.toList++captured.toList
 | .slice _ x l h m=>x::(l.toList++(h.toList++m.toList))
 | .call c=>(match c.callee with| .value f=>[f]|_=>[])++c.args.toList
 |_=>[]
def Wa2(o:Oper):Bool:=match o.op with
 | .alloc _| .box _ _| .buildSlice _ _ _| .makeSlice _ _ _| .store _ _ _| .slice _ _ _ _ _=>true
 | .call c=>match c.callee with
  | .builtin .append=>true
  | .builtin .clear=>true
  | .builtin _=>false
  |_=>true
 |_=>false
def Wxd:Op->Bool
 | .load _ _| .nilCheck _| .binOp _ _ _ _ _| .convert _ _ _| .fieldAddr _ _ _| .indexAddr _ _ _| .call _=>true
 |_=>false
def WeB(st:St):List Operand->List Nat
 | []=>[]
 |x::l=>match ev st x with
  |some v=>Wbd v++WeB st l
  |none=>WeB st l
def Wc0(o:Oper)(st:St):List Nat:=bif Wxd o.op then WeB st (Wai o.op)else []
def WhX(l:Wak):List Nat:=l.map (·.1)
def WsM(a b:Wak):List Nat:=WhX (b.take (b.length-a.length))
def Wyn(x:Nat)(l:List Nat):List Nat:=bif Wcy x l then l else x::l
def WnV:List Nat->List Nat->List Nat
 | [],l=>l
 |x::m,l=>WnV m (Wyn x l)
def WmA(o:Oper):List Nat:=(o.after.toList.filter (Region.binds .any)).map (·.on)
def Wle(acc:List (List Nat)):List Nat->List Nat->List Nat
 | [],l=>l
 |j::ds,l=>Wle acc ds (WnV (acc.getD j []) (Wyn j l))
def WeD:List Oper->List (List Nat)->List (List Nat)
 | [],acc=>acc
 |o::l,acc=>WeD l (acc++ [Wle acc (WmA o) []])
def Wdd(B:List (List Nat))(j i:Nat):Bool:=Wcy j (B.getD i [])
def WuN:List Oper->Nat->Bool
 | [],_=>true
 |o::l,n=>(WmA o).all (λd=>Xgp d n)&&WuN l (n+1)
def Wud:Operand->List Nat
 | .tmp t=>[t]
 |_=>[]
def Wdu(ops:Array Oper)(o:Oper):List Nat:=(Wai o.op).flatMap Wud++(match o.guard with
 |some (j,_)=>((ops[j]?).bind (·.dst)).toList
 |none=>[])
def WhO:List Oper->Nat->List (Nat×Nat)
 | [],_=>[]
 |o::l,i=>match o.dst with
  |some d=>(d,i)::WhO l (i+1)
  |none=>WhO l (i+1)
def WkQ(ops:Array Oper)(B:List (List Nat))(D:List (Nat×Nat)):List Oper->Nat->Bool
 | [],_=>true
 |o::l,i=>(Wdu ops o).all (λt=>D.all λp=>!Xbu p.1 t||Xbu p.2 i||Wdd B p.2 i||Wdd B i p.2)&&WkQ ops B D l (i+1)
def Wxj(ops:Array Oper)(B:List (List Nat)):Bool:=
 WuN ops.toList 0&&WbA ((WhO ops.toList 0).map (·.1))&&WkQ ops B (WhO ops.toList 0) ops.toList 0
def WhW:List Oper->Nat->List Nat
 | [],_=>[]
 |o::l,i=>bif Wa2 o then i::WhW l (i+1)else WhW l (i+1)
def Wwr(B:List (List Nat)):Nat->List Nat->List (List Nat)
 |0,_=>[[]]
 |n+1,rem=>match rem with
  | []=>[[]]
  |_=>(rem.filter λm=>rem.all λm'=>!Wdd B m' m).flatMap λm=>(Wwr B n (rem.filter λx=>!Xbu x m)).map (m:: ·)
def Wwb(ops:List Oper)(B:List (List Nat))(done:List Nat)(σ:List Nat):Nat->Option Nat:=λi=>match ops with
 | []=>none
 |o::l=>bif !Wcy i done&&(B.getD i []).all (λj=>Wcy j done)&&(!Wa2 o||(match σ with|m::_=>Xbu m i| []=>false))then some i else Wwb l B done σ (i+1)
def WlI(ops:List Oper)(B:List (List Nat)):Nat->List Nat->List Nat->List Nat
 |0,_,_=>[]
 |n+1,done,σ=>match Wwb ops B done σ 0 with
  |some i=>i::WlI ops B n (i::done) (match σ with|m::σ'=>bif Xbu m i then σ' else σ| []=>[])
  |none=>[]
def WjS(ops:Array Oper):List Nat->List Nat->Bool
 | [],done=>Xbu done.length ops.size
 |i::l,done=>!Wcy i done&&(match ops[i]? with|some o=>(WmA o).all (λd=>Wcy d done)|none=>false)&&WjS ops l (i::done)
def Wgw{α:Type}:List Nat->(List Nat->α)->α
 | [],k=>k []
 |x::l,k=>Wgw l λl'=>k (x::l')
def Wqb{α:Type}:List (List Nat)->(List (List Nat)->α)->α
 | [],k=>k []
 |x::l,k=>Wgw x λx'=>Wqb l λl'=>k (x'::l')
def rdx{R:Type}(T:Tab)(Γ:Ctx)(A:List (Nat×An))(ops:Array Oper)(B:List (List Nat)):List Nat->List (Nat×List Nat)->List (Nat×List Nat)->St->(St->Option R)->Option R
 | [],_,_,st,k=>k st
 |i::l,fl,mu,st,k=>match ops[i]? with
  |some o=>bif Wa2 o
   then rxg T Γ A ops o st λae=>Wgw (WsM st.objs ae.objs) λids=>
    bif fl.all (λp=>Wdd B p.1 i||Wg8 p.2 ids)then rdx T Γ A ops B l fl ((i,ids)::mu) ae k else none
   else Wgw (Wc0 o st) λids=>
    bif mu.all (λp=>Wdd B p.1 i||Wg8 ids p.2)then rxg T Γ A ops o st λae=>rdx T Γ A ops B l ((i,ids)::fl) mu ae k else none
  |none=>none
def WD{α β:Type}(x:α)(f:α->β):β:=f x
open Classical in
noncomputable def WfS{α:Type}(a b:Option α):Option α:=if a=b then a else none
noncomputable def Wxu{R:Type}(T:Tab)(Γ:Ctx)(A:List (Nat×An))(ops:Array Oper)(B:List (List Nat))(st:St)(k:St->Option R):List (List Nat)->Option R
 | []=>none
 |σ::l=>
  let a:=Wgw (WlI ops.toList B ops.size [] σ) λL=>bif WjS ops L []&&eqN (L.filter λi=>Wcy i σ) σ then rdx T Γ A ops B L [] [] st k else none
  match l with
  | []=>a
  |_=>WfS a (Wxu T Γ A ops B st k l)
noncomputable def WwL{R:Type}(T:Tab)(Γ:Ctx)(A:List (Nat×An))(ops:Array Oper)(st:St)(k:St->Option R):Option R:=
 Wqb (WeD ops.toList []) λB=>bif Wxj ops B then Wxu T Γ A ops B st k (Wwr B ops.size (WhW ops.toList 0))else none
noncomputable def sx{R:Type}(T:Tab)(Γ:Ctx)(ann:Nat->List Ghost)(N:Nat):Code->St->(Ex->St->Option R)->Option R
 | .skip,st,k=>k .normal st
 | .region id ops draw,st,k=>
  bif draw then WwL T Γ (WmQ (ann id)) ops st λae=>match Wek (ann id) ae with
   |some (c,ce)=>bif c then k .normal ce else none
   |none=>none
  else rxs T Γ (WmQ (ann id)) ops ops.toList st λae=>match Wek (ann id) ae with
   |some (c,ce)=>bif c then k .normal ce else none
   |none=>none
 | .seq a b,st,k=>sx T Γ ann N a st λe ae=>match e with
  | .normal=>sx T Γ ann N b ae k
  | .exit id=>k (.exit id) ae
  | .ret=>k .ret ae
 | .cond c x y,st,k=>match(ev st c).bind asB with
  |some b=>bif b then sx T Γ ann N x st k else sx T Γ ann N y st k
  |none=>none
 | .block id c,st,k=>sx T Γ ann N c st λe ae=>match e with
  | .exit bJ=>if bJ=id then k .normal ae else k (.exit bJ) ae
  | .normal=>k .normal ae
  | .ret=>k .ret ae
 | .loop c,st,k=>match Wek (ann (WfN c)) st with
  |some (b,ae)=>bif b then Wps (Wj1 (ann (WfN c)) λst k=>sx T Γ ann N c st k) N ae k else none
  |none=>none
 | .exit id,st,k=>k (.exit id) st
 | .ret,st,k=>k .ret st
 |_,_,_=>none
def Wuf:List AVal->List Nat
 | []=>[]
 | .s (.one (.ptr id 0))::l=>id::Wuf l
 |_::l=>Wuf l
def WU:(ps:List PTy)->WfC ps->Wak->Nat->List AVal×Wak×Nat
 | [],_,objs,nx=>([],objs,nx)
 | .v t agg::ps,d,objs,nx=>
  let x:=unfold t d.1 nx
  let y:=WU ps d.2 (x.2.1++objs) x.2.2
  (.s (WxF agg x.1)::y.1,y.2)
 | .box t::ps,d,objs,nx=>
  let x:=unfold t d.1 (nx+1)
  let y:=WU ps d.2 ((nx,.box x.1)::(x.2.1++objs)) x.2.2
  (.s (.one (.ptr nx 0))::y.1,y.2)
 | .mut e::ps,d,objs,nx=>
  let y:=WU ps d.2 ((nx,.arr e d.1)::objs) (nx+1)
  (.s (.one (.own nx))::y.1,y.2)
 | .clos g n::ps,d,objs,nx=>
  let y:=WU ps d objs nx
  (.s (.one (.clos g (Wuf (y.1.take n))))::y.1.drop n,y.2)
 | .kv t agg::ps,d,objs,nx=>
  let x:=unfold t d.1 nx
  let y:=WU ps d.2 (x.2.1++objs) x.2.2
  (.s (WxF agg x.1)::y.1,y.2)
 | .rp t::ps,d,objs,nx=>
  let y:=WU ps d.2 objs nx
  (.s (.one (.rptr t d.1 0))::y.1,y.2)
 | .vj _::ps,d,objs,nx=>
  let y:=WU ps d objs nx
  (.tup []::y.1,y.2)
 | .boxal t lf::ps,d,objs,nx=>
  let x:=unfold t d.1 (nx+1)
  let y:=WU ps d.2.2 ((nx,.box x.1)::(x.2.1++objs)) x.2.2
  (.s (.one (.ptr nx 0)):: .s (.one (.eptr (nx+1+lf) d.2.1 0))::y.1,y.2)
def Whc:Nat->List AVal->List (Nat×AVal)
 |_,[]=>[]
 |i,x::xs=>(i,x)::Whc (i+1) xs
def WeQ(T:Tab)(st:St):List ResultVar->Option (List AVal)
 | []=>some []
 | .tmp t::rs=>match look st.env t,WeQ T st rs with
  |some x,some xs=>some (x::xs)
  |_,_=>none
 | .cell a t::rs=>match(look st.env a).bind (WhN T st t),WeQ T st rs with
  |some x,some xs=>some (x::xs)
  |_,_=>none
structure Outs(α:Type) where
 d:α
 moved:List Nat
 lent:List Nat
def Wbh:(rs:List PTy)->List AVal->Wak->Option (Outs (Whi rs))
 | [],xs,_=>match xs with
  | []=>some ⟨(),[],[]⟩
  |_=>none
 | .v t agg::rs,xs,objs=>match xs with
  |x::xs=>match(cellsOf agg x).bind λcs=>Waz t cs objs,Wbh rs xs objs with
   |some (d,m,l),some A=>some ⟨(d,A.d),m++A.moved,l++A.lent⟩
   |_,_=>none
  |_=>none
 | .box t::rs,xs,objs=>match xs with
  | .s (.one (.ptr id 0))::xs=>match look objs id with
   |some (.box cs)=>match Waz t cs objs,Wbh rs xs objs with
    |some (d,m,l),some A=>some ⟨(d,A.d),id::(m++A.moved),l++A.lent⟩
    |_,_=>none
   |_=>none
  |_=>none
 | .mut _::_,_,_=>none
 | .clos _ _::_,_,_=>none
 | .kv _ _::_,_,_=>none
 | .rp _::_,_,_=>none
 | .vj t::rs,xs,objs=>match xs with
  | .s (.agg cs)::xs=>if cs.length=t.size+1 then(match Waz t (cs.take t.size) objs,Wbh rs xs objs with
   |some (d,m,l),some A=>some ⟨(d,A.d),m++A.moved,l++A.lent⟩
   |_,_=>none)else none
  |_=>none
 | .boxal _ _::_,_,_=>none
structure OutK(α:Type) where
 d:α
 kept:List Nat
 moved:List Nat
 lent:List Nat
def WA:List PTy->Nat->Nat->St->List AVal
 | [],_,_,_=>[]
 |_::ps,i,k+1,st=>WA ps i k st
 | .v _ _::ps,i,0,st=>.tup []::WA ps (i+1) 0 st
 | .box _::ps,i,0,st=>(look st.env i).getD (.tup [])::WA ps (i+1) 0 st
 | .mut _::ps,i,0,st=>(look st.env i).getD (.tup [])::WA ps (i+1) 0 st
 | .clos _ n::ps,i,0,st=>(look st.env i).getD (.tup [])::WA ps (i+1) n st
 | .kv _ _::ps,i,0,st=>(look st.env i).getD (.tup [])::WA ps (i+1) 0 st
 | .rp _::ps,i,0,st=>.tup []::WA ps (i+1) 0 st
 | .vj _::ps,i,0,st=>.tup []::WA ps (i+1) 0 st
 | .boxal _ _::ps,i,0,st=>(look st.env i).getD (.tup []):: .tup []::WA ps (i+2) 0 st
def W3:(ps:List PTy)->List AVal->Wak->Option (OutK (Wgg ps))
 | [],_,_=>some ⟨(),[],[],[]⟩
 | .v _ _::ps,xs,objs=>(W3 ps xs.tail objs).map λA=>⟨A.d,A.kept,A.moved,A.lent⟩
 | .box t::ps,xs,objs=>match xs with
  | .s (.one (.ptr id 0))::xs=>match look objs id with
   |some (.box cs)=>match Waz t cs objs,W3 ps xs objs with
    |some (d,m,l),some A=>some ⟨(d,A.d),id::A.kept,m++A.moved,l++A.lent⟩
    |_,_=>none
   |_=>none
  |_=>none
 | .mut e::ps,xs,objs=>match xs with
  | .s (.one (.own id))::xs=>match look objs id with
   |some (.arr e' ys)=>match Wgy e' e ys,W3 ps xs objs with
    |some d,some A=>some ⟨(d,A.d),id::A.kept,A.moved,A.lent⟩
    |_,_=>none
   |_=>none
  |_=>none
 | .clos g n::ps,xs,objs=>match xs with
  | .s (.one (.clos g' caps))::xs=>if g'=g/\caps.length=n then(W3 ps (Wkt caps++xs) objs).map λA=>⟨A.d,A.kept,A.moved,A.lent⟩else none
  |_=>none
 | .kv t agg::ps,xs,objs=>match xs with
  |x::xs=>match(cellsOf agg x).bind λcs=>Waz t cs objs,W3 ps xs objs with
   |some (d,m,l),some A=>if Wne objs t m x then some ⟨(d,A.d),m++A.kept,A.moved,l++A.lent⟩else none
   |_,_=>none
  |_=>none
 | .rp _::ps,xs,objs=>(W3 ps xs.tail objs).map λA=>⟨A.d,A.kept,A.moved,A.lent⟩
 | .vj _::_,_,_=>none
 | .boxal t _::ps,xs,objs=>match xs with
  | .s (.one (.ptr id 0))::_::xs=>match look objs id with
   |some (.box cs)=>match Waz t cs objs,W3 ps xs objs with
    |some (d,m,l),some A=>some ⟨(d,A.d),id::A.kept,m++A.moved,l++A.lent⟩
    |_,_=>none
   |_=>none
  |_=>none
def WyE{R:Type}(T:Tab)(sg:Sig)(rv:List ResultVar)(k:Wgg sg.ps×Whi sg.rs->Option R)(e:Ex)(st:St):Option R:=
 match e with
 | .exit _=>none
 |_=>match WeQ T st rv with
  |some xs=>match Wbh sg.rs xs st.objs,W3 sg.ps (WA sg.ps 0 0 st) st.objs with
   |some A,some B=>if WbA (B.kept++(B.moved++A.moved))&&Wg8 (A.lent++B.lent) (B.kept++(B.moved++A.moved))then k (B.d,A.d)else none
   |_,_=>none
  |none=>none
noncomputable def den{R:Type}(T:Tab)(Γ:Ctx)(ann:Nat->List Ghost)(N:Nat)(sg:Sig)(f:Func)(d:WfC sg.ps)(k:Wgg sg.ps×Whi sg.rs->Option R):Option R:=
 let x:=WU sg.ps d [] 0
 match f.body,Wek (ann 1000000) {env:=Whc 0 x.1,objs:=x.2.1,nx:=x.2.2}with
 |some c,some (b,st)=>bif b then sx T Γ ann N c st (WyE T sg f.results.toList k)else none
 |_,_=>none
def Weh:List PTy->Nat->Nat->List Nat
 | [],_,_=>[]
 |_::ps,i,k+1=>Weh ps i k
 | .v _ _::ps,i,0=>Weh ps (i+1) 0
 | .box _::ps,i,0=>i::Weh ps (i+1) 0
 | .mut _::ps,i,0=>i::Weh ps (i+1) 0
 | .clos _ n::ps,i,0=>i::Weh ps (i+1) n
 | .kv _ _::ps,i,0=>i::Weh ps (i+1) 0
 | .rp _::ps,i,0=>Weh ps (i+1) 0
 | .vj _::ps,i,0=>Weh ps (i+1) 0
 | .boxal _ _::ps,i,0=>i::Weh ps (i+2) 0
def Wb5:List PTy->Nat
 | []=>0
 | .v _ _::ps=>Wb5 ps+1
 | .box _::ps=>Wb5 ps+1
 | .mut _::ps=>Wb5 ps+1
 | .clos _ _::ps=>Wb5 ps+1
 | .kv _ _::ps=>Wb5 ps+1
 | .rp _::ps=>Wb5 ps+1
 | .vj _::ps=>Wb5 ps+1
 | .boxal _ _::ps=>Wb5 ps+2
def Wkc:List PTy->Nat->Bool
 |_,0=>true
 | .box _::ps,n+1=>Wkc ps n
 |_,_+1=>false
def Wcx:List PTy->Bool
 | []=>true
 | .clos _ n::ps=>Wkc ps n&&Wcx ps
 | .v _ _::ps=>Wcx ps
 | .box _::ps=>Wcx ps
 | .mut _::ps=>Wcx ps
 | .kv _ _::ps=>Wcx ps
 | .rp _::ps=>Wcx ps
 | .vj _::ps=>Wcx ps
 | .boxal _ _::ps=>Wcx ps
end Go.Sx
namespace Go.Sx
set_option linter.unusedVariables false
theorem EncL_len{α:Type}{R:α->List Value->Prop}{n:Nat}(h:∀x c,R x c->c.length=n):
  ∀(l:List α) (cs:List Value),EncL R l cs->cs.length=l.length*n
 | [],cs,e=>by grind [EncL]
 |x::l,cs,e=>by
  obtain⟨c1,c2,rfl,h1,h2⟩:=e;have:=EncL_len h l c2 h2;rw[Xs,h _ _ h1,this,Xr,Xcf,Xda]
theorem Wm4{α:Type}{R R':α->List Value->Prop}(h:∀x c,R x c->R' x c):
  ∀(l:List α) (cs:List Value),EncL R l cs->EncL R' l cs
 | [],_,e=>e
 |_::l,_,⟨c1,c2,he,h1,h2⟩=>⟨c1,c2,he,h _ _ h1,Wm4 h l c2 h2⟩
theorem Wed{α:Type}{R:α->List Value->Prop}:∀(l l':List α) (cs cs':List Value),EncL R l cs->EncL R l' cs'->EncL R (l++l') (cs++cs')
 | [],_,cs,cs',e,e'=>by grind [EncL]
 |x::l,l',_,cs',⟨c1,c2,he,h1,h2⟩,e'=>⟨c1,c2++cs',by simp[he],h1,Wed l l' c2 cs' h2 e'⟩
theorem EncL_nth{α:Type}{R:α->List Value->Prop}{n:Nat}(h:∀x c,R x c->c.length=n):
  ∀(l:List α) (cs:List Value) (i:Nat) (x:α),EncL R l cs->l[i]?=some x->R x ((cs.drop (i*n)).take n)
 | [],_,_,_,_,hi=>by simp at hi
 |y::l,cs,0,x,⟨c1,c2,he,h1,_⟩,hi=>by
  grind
 |y::l,cs,i+1,x,⟨c1,c2,he,h1,h2⟩,hi=>by
  have hl:=h _ _ h1;have:=EncL_nth h l c2 i x h2 (by simp_all);rw[he,Xcf,Xda,←Xbs,List.drop_left' hl];exact this
theorem WeU{α:Type}{R:α->List Value->Prop}{n:Nat}(h:∀x c,R x c->c.length=n):
  ∀(l:List α) (cs:List Value) (m:Nat),EncL R l cs->EncL R (l.take m) (cs.take (m*n))
 | [],cs,m,e=>by grind [EncL]
 |x::l,cs,0,_=>by simp[EncL]
 |x::l,cs,m+1,⟨c1,c2,he,h1,h2⟩=>by
  have hl:=h _ _ h1;refine⟨c1,c2.take (m*n),?_,h1,WeU h l c2 m h2⟩;rw[he,Xcf,Xda,←hl,Xfp]
theorem WeF{α:Type}{R:α->List Value->Prop}{n:Nat}(h:∀x c,R x c->c.length=n):
  ∀(l:List α) (cs:List Value) (m:Nat),EncL R l cs->EncL R (l.drop m) (cs.drop (m*n))
 | [],cs,m,e=>by grind [EncL]
 |x::l,cs,0,e=>by grind
 |x::l,cs,m+1,⟨c1,c2,he,h1,h2⟩=>by
  have hl:=h _ _ h1;have:=WeF h l c2 m h2
  grind [EncL,Xcf,Xda,Xbs,Xcq]
theorem WlL{α:Type}{R:α->List Value->Prop}{n:Nat}(h:∀x c,R x c->c.length=n):
  ∀(l:List α) (cs:List Value) (i:Nat) (x:α) (ds:List Value),EncL R l cs->i<l.length->R x ds->
   EncL R (l.set i x) (cs.take (i*n)++ds++cs.drop (i*n+n))
 | [],_,_,_,_,_,hi,_=>by simp at hi
 |y::l,cs,0,x,ds,⟨c1,c2,he,h1,h2⟩,_,hx=>by
  have hl:=h _ _ h1;refine⟨ds,c2,?_,hx,h2⟩;simp_all
 |y::l,cs,i+1,x,ds,⟨c1,c2,he,h1,h2⟩,hi,hx=>by
  have hl:=h _ _ h1;refine⟨c1,_,?_,h1,WlL h l c2 i x ds h2 (by simp_all) hx⟩;have e1:(i+1)*n=c1.length+i*n:=by rw[Xcf,hl,Xda]
  rw[he,e1,Xfp,Xay,←Xbs,Xcq];simp
theorem Enc_len{G:GH}:∀(t:Ty) (d:t.den) (cs:List Value),Enc G t d cs->cs.length=t.size
 | .int _,_,_,h=>by grind [Enc,Ty.size]
 | .bool,_,_,h=>by grind [Enc,Ty.size]
 | .str,_,_,h=>by grind [Enc,Ty.size]
 | .slice _,_,_,h=>by obtain⟨v,rfl,_⟩:=h;simp[Ty.size]
 | .own _,_,_,h=>h.elim
 | .prod a b,d,_,h=>by
  obtain⟨c1,c2,rfl,h1,h2⟩:=h;rw[Xs,Enc_len a _ _ h1,Enc_len b _ _ h2,Ty.size]
def GLe(G G':GH):Prop:=∀b o v,G b o=some v->G' b o=some v
theorem WiA{G G':GH}(h:GLe G G'){b o:Nat}{cs:List Value}(hs:WfD G b o cs):WfD G' b o cs:=λj v hj=>h _ _ _ (hs j v hj)
theorem Wbi{G G':GH}(h:GLe G G'):∀(t:Ty) (d:t.den) (cs:List Value),Enc G t d cs->Enc G' t d cs
 | .int _,_,_,e=>e
 | .bool,_,_,e=>e
 | .str,_,_,e=>e
 | .slice e,d,cs,hh=>by
  obtain⟨v,hv,hr⟩:=hh;refine⟨v,hv,?_⟩;rcases hr with hr|⟨b,off,cap,cs',h1,h2,h3,h4,h5⟩|hr
  .exact .inl hr
  rotate_left
  .exact .inr (.inr hr)
  .exact .inr<| .inl ⟨b,off,cap,cs',h1,h2,h3,Wm4 (λx c hx=>Wbi h e x c hx) _ _ h4,WiA h h5⟩
 | .own _,_,_,e=>e
 | .prod a b,d,_,⟨c1,c2,he,h1,h2⟩=>⟨c1,c2,he,Wbi h a _ _ h1,Wbi h b _ _ h2⟩
section
variable{G:GH}{ν:Nat->Nu}{nx:Nat}
theorem CellsRel.nil:CellsRel G ν nx [] []:=⟨rfl,λj c v h=>by simp at h⟩
theorem CellsRel.append{cs cs':List Cell}{vs vs':List Value}(h:CellsRel G ν nx cs vs)(h':CellsRel G ν nx cs' vs'):
  CellsRel G ν nx (cs++cs') (vs++vs'):=by
 refine⟨by simp[h.1,h'.1],λj c v hc hv=>?_⟩;rw[Xaw]at hc hv;rw[h.1]at hv;split at hc
 .rename_i hlt;rw[Wb hlt]at hv;exact h.2 j c v hc hv
 .rename_i hlt;rw[Wa hlt]at hv;exact h'.2 _ c v hc hv
theorem CellsRel.take{cs:List Cell}{vs:List Value}(h:CellsRel G ν nx cs vs)(n:Nat):CellsRel G ν nx (cs.take n) (vs.take n):=by
 refine⟨by simp[h.1],λj c v hc hv=>?_⟩;rw[Xbr]at hc hv;split at hc
 .rename_i hlt;rw[Wb hlt]at hv;exact h.2 j c v hc hv
 grind
theorem CellsRel.drop{cs:List Cell}{vs:List Value}(h:CellsRel G ν nx cs vs)(n:Nat):CellsRel G ν nx (cs.drop n) (vs.drop n):=by
 refine⟨by simp[h.1],λj c v hc hv=>?_⟩;rw[Xbq]at hc hv;exact h.2 _ c v hc hv
theorem CellsRel.one{c:Cell}{v:Value}(h:CellRel G ν nx c v)(ut:v.oneCell'=true):CellsRel G ν nx [c] [v]:=by
 refine⟨rfl,λj c' v' hc hv=>?_⟩
 grind
theorem WaP:∀(t:Ty) (d:t.den) (vs:List Value),Enc G t d vs->CellsRel G ν nx (split t d) vs
 | .int k,d,vs,h=>by have h':=h;simp only[Enc]at h';subst h';exact CellsRel.one h rfl
 | .bool,d,vs,h=>by have h':=h;simp only[Enc]at h';subst h';exact CellsRel.one h rfl
 | .str,d,vs,h=>by have h':=h;simp only[Enc]at h';subst h';exact CellsRel.one h rfl
 | .slice e,d,vs,h=>by
  obtain⟨v,rfl,hr⟩:=h;refine CellsRel.one ⟨v,rfl,hr⟩ ?_;rcases hr with⟨rfl,_⟩|⟨_,_,_,_,rfl,_⟩|⟨_,_,rfl,_⟩<;>rfl
 | .own _,_,_,h=>h.elim
 | .prod a b,d,vs,⟨c1,c2,he,h1,h2⟩=>by
  subst he;exact(WaP a _ _ h1).append (WaP b _ _ h2)
end
def Ws7(nx:Nat)(ν ν':Nat->Nu):Prop:=∀id,id<nx->ν' id=ν id
section
variable{G G':GH}{ν ν':Nat->Nu}{nx ah:Nat}
theorem CellRel.mono(hg:GLe G G')(hn:Ws7 nx ν ν')(hx:nx<=ah):
  ∀(c:Cell) (v:Value),CellRel G ν nx c v->CellRel G' ν' ah c v
 | .val t d,v,h=>Wbi hg t d _ h
 | .nils,_,h=>h
 | .own id,v,⟨h1,h2⟩=>⟨Xbk h1 hx,by rw[hn id h1];exact h2⟩
 | .vw id lo hi,v,⟨h1,h2⟩=>⟨Xbk h1 hx,by rw[hn id h1];exact h2⟩
 | .aptr id,v,⟨h1,h2⟩=>⟨Xbk h1 hx,by rw[hn id h1];exact h2⟩
 | .ptr id off,v,⟨h1,h2⟩=>⟨Xbk h1 hx,by rw[hn id h1];exact h2⟩
 | .eptr id i off,v,⟨h1,h2⟩=>⟨Xbk h1 hx,by rw[hn id h1];exact h2⟩
 | .rptr t d off,v,⟨b,o,cs,h1,h2,h3⟩=>⟨b,o,cs,h1,Wbi hg t d _ h2,WiA hg h3⟩
 | .clos f caps,v,⟨vs,h1,h2,h3⟩=>⟨vs,h1,h2,λj id u hc hv=>by
   obtain⟨h4,h6,h5⟩:=h3 j id u hc hv;exact⟨Xbk h4 hx,h6,by rw[hn id h4];exact h5⟩⟩
 | .junk,_,_=>trivial
theorem CellsRel.mono(hg:GLe G G')(hn:Ws7 nx ν ν')(hx:nx<=ah){cs:List Cell}{vs:List Value}(h:CellsRel G ν nx cs vs):CellsRel G' ν' ah cs vs:=
 ⟨h.1,λj c v hc hv=>⟨CellRel.mono hg hn hx c v (h.2 j c v hc hv).1,(h.2 j c v hc hv).2⟩⟩
theorem AvRel.mono(hg:GLe G G')(hn:Ws7 nx ν ν')(hx:nx<=ah):∀(x:AV) (v:Value),AvRel G ν nx x v->AvRel G' ν' ah x v
 | .one c,v,h=>⟨CellRel.mono hg hn hx c v h.1,h.2⟩
 | .agg cs,v,⟨vs,he,h⟩=>⟨vs,he,h.mono hg hn hx⟩
theorem AValRel.mono(hg:GLe G G')(hn:Ws7 nx ν ν')(hx:nx<=ah):∀(x:AVal) (v:Value),AValRel G ν nx x v->AValRel G' ν' ah x v
 | .s x,v,h=>AvRel.mono hg hn hx x v h
 | .tup xs,v,⟨vs,he,hl,h⟩=>⟨vs,he,hl,λj x u kV hu=>AvRel.mono hg hn hx x u (h j x u kV hu)⟩
end
theorem Wjr(nu:Nu):nu.hdr.oneCell'=true:=by unfold Nu.hdr;split<;>rfl
theorem WpB(nu:Nu)(lo hi:Nat):(nu.vhdr lo hi).oneCell'=true:=by unfold Nu.vhdr;split<;>rfl
section
variable{α:Type}{R R':α->List Value->List Pc->Prop}
theorem Wbc{n:Nat}(h:∀x c p,R x c p->c.length=n):∀(l:List α) (cs:List Value) (ps:List Pc),EncP R l cs ps->cs.length=l.length*n
 | [],cs,ps,e=>by simp[e.1]
 |x::l,cs,ps,⟨c1,c2,p1,p2,he,hp,h1,h2⟩=>by
  rw[he,Xs,h _ _ _ h1,Wbc h l c2 p2 h2,Xr,Xcf,Xda]
theorem WbY{Q:Pc->Prop}(h:∀x c p,(∀q∈p,Q q)->R x c p->R' x c p):∀(l:List α) (cs:List Value) (ps:List Pc),(∀q∈ps,Q q)->EncP R l cs ps->EncP R' l cs ps
 | [],_,_,_,e=>e
 |_::l,_,_,hq,⟨c1,c2,p1,p2,he,hp,h1,h2⟩=>by
  subst hp;exact⟨c1,c2,p1,p2,he,rfl,h _ _ _ (λq hm=>hq q (Xl _ hm)) h1,WbY h l c2 p2 (λq hm=>hq q (Xh _ hm)) h2⟩
theorem Wec:∀(l l':List α) (cs cs':List Value) (ps qs:List Pc),EncP R l cs ps->EncP R l' cs' qs->EncP R (l++l') (cs++cs') (ps++qs)
 | [],_,cs,cs',ps,qs,e,e'=>by obtain⟨rfl,rfl⟩:=e;exact e'
 |x::l,l',_,cs',_,qs,⟨c1,c2,p1,p2,he,hp,h1,h2⟩,e'=>⟨c1,c2++cs',p1,p2++qs,by simp[he],by simp[hp],h1,Wec l l' c2 cs' p2 qs h2 e'⟩
theorem Wkg:∀(l l':List α) (cs:List Value) (ps:List Pc),EncP R (l++l') cs ps->∃c1 c2 p1 p2,cs=c1++c2/\ps=p1++p2/\EncP R l c1 p1/\EncP R l' c2 p2
 | [],l',cs,ps,e=>⟨[],cs,[],ps,rfl,rfl,⟨rfl,rfl⟩,e⟩
 |x::l,l',cs,ps,⟨c1,c2,p1,p2,he,hp,h1,h2⟩=>by
  obtain⟨d1,d2,q1,q2,g1,g2,g3,g4⟩:=Wkg l l' c2 p2 h2;exact⟨c1++d1,d2,p1++q1,q2,by grind,by grind,⟨c1,d1,p1,q1,rfl,rfl,h1,g3⟩,g4⟩
theorem WpJ{x:α}{cs:List Value}{ps:List Pc}:EncP R [x] cs ps↔R x cs ps:=by
 constructor
 .rintro⟨c1,c2,p1,p2,he,hp,h1,h2,h3⟩;simp_all
 .intro h;exact⟨cs,[],ps,[],by simp,by simp,h,rfl,rfl⟩
theorem Wez(l:List α)(cs:List Value)(ps:List Pc)(n:Nat)(h:EncP R l cs ps):∃c1 c2 p1 p2,cs=c1++c2/\ps=p1++p2/\EncP R (l.take n) c1 p1/\EncP R (l.drop n) c2 p2:=
 Wkg _ _ _ _ (by simp_all)
theorem Wos{l:List α}{cs:List Value}{ps:List Pc}{i:Nat}(h:EncP R l cs ps)(d:α)(hi:i<l.length):
  ∃c1 c c2 p1 p p2,cs=c1++(c++c2)/\ps=p1++(p++p2)/\EncP R (l.take i) c1 p1/\R (l.getD i d) c p/\EncP R (l.drop (i+1)) c2 p2:=by
 obtain⟨c1,c',p1,p',h1,h2,h3,h4⟩:=Wez l cs ps i h;have e:l.drop i=l.getD i d::l.drop (i+1):=by
  simp_all
 rw[e]at h4;obtain⟨c,c2,p,p2,h5,h6,h7,h8⟩:=h4
 grind
theorem Wqm{l:List α}{c1 c c2:List Value}{p1 p p2:List Pc}{i:Nat}{x:α}(hi:i<l.length)(h1:EncP R (l.take i) c1 p1)(h:R x c p)(h2:EncP R (l.drop (i+1)) c2 p2):
  EncP R (l.set i x) (c1++(c++c2)) (p1++(p++p2)):=by
 have e:l.set i x=l.take i++(x::l.drop (i+1)):=by
  rw[Xeu,Wb hi]
 rw[e];exact Wec _ _ _ _ _ _ h1 ⟨c,c2,p,p2,rfl,rfl,h,h2⟩
end
section
variable{G G':GH}{w w':World}
theorem WE:∀(t:Ty) (d:t.den) (vs:List Value) (ns:List Pc),TyRel G w t d vs ns->vs.length=t.size
 | .own e,xs,vs,ns,⟨p,_,h,_⟩=>by rw[h];rfl
 | .prod a b,d,vs,ns,⟨v1,v2,n1,n2,h1,h2,h3,h4⟩=>by
  rw[h1,Xs,WE a _ _ _ h3,WE b _ _ _ h4];rfl
 | .int k,d,vs,ns,h=>Enc_len _ _ _ h.2
 | .bool,d,vs,ns,h=>Enc_len _ _ _ h.2
 | .str,d,vs,ns,h=>Enc_len _ _ _ h.2
 | .slice e,d,vs,ns,h=>Enc_len _ _ _ h.2
theorem W8:∀(t:Ty) (d:t.den) (vs:List Value) (ns:List Pc),TyRel G w t d vs ns->ns.length=t.owns
 | .own e,xs,vs,ns,⟨nu,h,_⟩=>by rw[h];rfl
 | .prod a b,d,vs,ns,⟨v1,v2,n1,n2,h1,h2,h3,h4⟩=>by rw[h2,Xs,W8 a _ _ _ h3,W8 b _ _ _ h4];rfl
 | .int k,d,vs,ns,h=>by rw[h.1];rfl
 | .bool,d,vs,ns,h=>by rw[h.1];rfl
 | .str,d,vs,ns,h=>by rw[h.1];rfl
 | .slice e,d,vs,ns,h=>by rw[h.1];rfl
theorem Wbf:∀(t:Ty) (d:t.den) (vs:List Value) (ns:List Pc),t.data=true->(TyRel G w t d vs ns↔Enc G t d vs/\ns= [])
 | .own e,xs,vs,ns,h=>by simp[Ty.data]at h
 | .prod a b,d,vs,ns,h=>by
  simp only[Ty.data,Xi]at h;constructor
  .rintro⟨v1,v2,n1,n2,h1,h2,h3,h4⟩;obtain⟨e1,e2⟩:=(Wbf a _ _ _ h.1).1 h3;obtain⟨e3,e4⟩:=(Wbf b _ _ _ h.2).1 h4;exact⟨⟨v1,v2,h1,e1,e3⟩,by simp_all⟩
  .rintro⟨⟨v1,v2,h1,h2,h3⟩,h4⟩;exact⟨v1,v2,[],[],h1,h4,(Wbf a _ _ _ h.1).2 ⟨h2,rfl⟩,(Wbf b _ _ _ h.2).2 ⟨h3,rfl⟩⟩
 | .int k,d,vs,ns,_=>⟨λh=>⟨h.2,h.1⟩,λh=>⟨h.2,h.1⟩⟩
 | .bool,d,vs,ns,_=>⟨λh=>⟨h.2,h.1⟩,λh=>⟨h.2,h.1⟩⟩
 | .str,d,vs,ns,_=>⟨λh=>⟨h.2,h.1⟩,λh=>⟨h.2,h.1⟩⟩
 | .slice e,d,vs,ns,_=>⟨λh=>⟨h.2,h.1⟩,λh=>⟨h.2,h.1⟩⟩
theorem EncP_data{e:Ty}(he:e.data=true):∀(xs:List e.den) (cs:List Value) (ps:List Pc),EncP (TyRel G w e) xs cs ps↔EncL (Enc G e) xs cs/\ps= []
 | [],cs,ps=>Iff.rfl
 |x::xs,cs,ps=>by
  constructor
  .rintro⟨c1,c2,p1,p2,h1,h2,h3,h4⟩;obtain⟨e1,e2⟩:=(Wbf e _ _ _ he).1 h3;obtain⟨e3,e4⟩:=(EncP_data he xs _ _).1 h4;exact⟨⟨c1,c2,h1,e1,e3⟩,by simp_all⟩
  .rintro⟨⟨c1,c2,h1,h2,h3⟩,h4⟩;exact⟨c1,c2,[],[],h1,h4,(Wbf e _ _ _ he).2 ⟨h2,rfl⟩,(EncP_data he xs _ _).2 ⟨h3,rfl⟩⟩
structure Same(S:CS)(w w':World):Prop where
 row:∀b n,Row w b n->Row w' b n
 cell:∀b o,S b o->w'.cell? ⟨b,o,none⟩=w.cell? ⟨b,o,none⟩
theorem Same.mono{S S':CS}(h:Same S w w')(hl:CS.le S' S):Same S' w w':=⟨h.row,λb o hs=>h.cell b o (hl b o hs)⟩
theorem Mem.same{S:CS}(h:Same S w w'){b o n:Nat}{cs:List Value}(hm:Mem w b o cs)(hn:cs.length<=n)(hs:CS.le (rng b o n) S):Mem w' b o cs:=λj v hj=>by
 have hlt:j<cs.length:=(Xad.1 hj).1;rw[h.cell b (o+j) (hs _ _ ⟨rfl,by omega,by omega⟩)];exact hm j v hj
theorem Wh6{α:Type}{R R':α->List Value->List Pc->Prop}{n:Nat}{nu:Nu}{xs:List α}{S S':CS}(hR:∀x c p,R x c p->c.length=n)(h:Same S w w')(hle:CS.le S S')
  (hm:∀x c p,(∀q∈p,CS.le q.fp S)->R x c p->R' x c p) (ho:OwnL w R n nu xs S):OwnL w' R' n nu xs S':=by
 obtain⟨h1,h2,h3⟩:=ho;refine⟨h1,h2,?_⟩;cases hb:nu.blk with
 |none=>simp_all
 |some b=>
  simp only[hb]at h3;obtain⟨h4,h5,h6,cs,ps,h7,h8,h9,cN⟩:=h3;have hl:=Wbc hR _ _ _ h7;have jY:xs.length*n<=nu.cap*n:=Xbe _ h4;exact⟨h4,h5,h.row _ _ h6,cs,ps,WbY (Q:=λq=>CS.le q.fp S) hm _ _ _ (λq hq=>cN _ (Xe _ (Xaq hq))) h7,h8.same h (n:=nu.cap*n) (by omega) (cN _ (Xg ..)),h9,λs hs b o hh=>hle b o (cN s hs b o hh)⟩
theorem WaI(hg:GLe G G'):∀(t:Ty) (d:t.den) (vs:List Value) (ns:List Pc),(∀p∈ns,Same p.fp w w')->TyRel G w t d vs ns->TyRel G' w' t d vs ns
 | .own e,xs,vs,ns,hs,⟨p,h1,h2,h3⟩=>by
  subst h1;have jo:=hs p (Xac.2 rfl);exact⟨p,rfl,h2,Wh6 (λx c q hx=>WE e x c q hx) jo (λ_ _ hh=>hh) (λx c q hq hx=>WaI hg e x c q (λq' kW=>jo.mono (hq q' kW)) hx) h3⟩
 | .prod a b,d,vs,ns,hs,⟨v1,v2,n1,n2,h1,h2,h3,h4⟩=>by
  subst h2;exact⟨v1,v2,n1,n2,h1,rfl,WaI hg a _ _ _ (λp hp=>hs p (Xl _ hp)) h3,WaI hg b _ _ _ (λp hp=>hs p (Xh _ hp)) h4⟩
 | .int k,d,vs,ns,_,h=>⟨h.1,Wbi hg _ _ _ h.2⟩
 | .bool,d,vs,ns,_,h=>⟨h.1,Wbi hg _ _ _ h.2⟩
 | .str,d,vs,ns,_,h=>⟨h.1,Wbi hg _ _ _ h.2⟩
 | .slice e,d,vs,ns,_,h=>⟨h.1,Wbi hg _ _ _ h.2⟩
theorem Same.refl(S:CS)(w:World):Same S w w:=⟨λ_ _ h=>h,λ_ _ _=>rfl⟩
theorem WcZ(hg:GLe G G'){e:Ty}{nu:Nu}{xs:List e.den}{S S':CS}(h:Same S w w')(hle:CS.le S S')(ho:OwnL w (TyRel G w e) e.size nu xs S):OwnL w' (TyRel G' w' e) e.size nu xs S':=
 Wh6 (λx c q hx=>WE e x c q hx) h hle (λx c q hq hx=>WaI hg e x c q (λq' kW=>h.mono (hq q' kW)) hx) ho
theorem WkA(hg:GLe G G'){e:Ty}{nu np:Nu}{xs:List e.den}{i:Nat}{S S':CS}(h:Same S w w')(hle:CS.le S S')(ho:Wh0 w (TyRel G w e) e.size nu np xs i S):Wh0 w' (TyRel G' w' e) e.size nu np xs i S':=by
 obtain⟨h1,h2,h3,b,h4,h5,h6,h7,h8,h9,c1,c2,p1,p2,g1,g2,g3,g4,g5,g6⟩:=ho;have l1:=Wbc (λx c q hx=>WE e x c q hx) _ _ _ g1;have l2:=Wbc (λx c q hx=>WE e x c q hx) _ _ _ g2;rw[Xan,Xcc (by omega)]at l1;rw[Xcy]at l2;have jY:(xs.length-(i+1))*e.size<=(nu.cap-(i+1))*e.size:=Xbe _ (by omega);refine⟨h1,h2,h3,b,h4,h5,h6,h7,h8,h.row _ _ h9,c1,c2,p1,p2,?_,?_,?_,?_,g5,λs hs b o hh=>hle b o (g6 s hs b o hh)⟩
 .exact WbY (Q:=λq=>CS.le q.fp S) (λx c q hq hx=>WaI hg e x c q (λq' kW=>h.mono (hq q' kW)) hx) _ _ _ (λq hq=>g6 _ (by grind)) g1
 .exact WbY (Q:=λq=>CS.le q.fp S) (λx c q hq hx=>WaI hg e x c q (λq' kW=>h.mono (hq q' kW)) hx) _ _ _ (λq hq=>g6 _ (by grind)) g2
 .exact g3.same h (n:=i*e.size) (by omega) (g6 _ (Xg ..))
 .exact g4.same h (n:=(nu.cap-(i+1))*e.size) (by omega) (g6 _ (Xe _ (Xg ..)))
theorem WdJ(hg:GLe G G'){ν ν':Nat->Nu}{nx ah id:Nat}{S S':CS}(h:Same S w w')(hle:CS.le S S')(hn:Ws7 nx ν ν')(hx:nx<=ah)(bv:id<nx):
  ∀(ob:Ob),WcG G ν nx w id S ob->WcG G' ν' ah w' id S' ob
 | .dead,_=>trivial
 | .box cs,⟨b,vs,h1,h2,h3,h4,h5⟩=>by
  refine⟨b,vs,by rw[hn id bv];exact h1,by rw[hn id bv];exact h.row _ _ h2,by rw[hn id bv];exact h3.same h (n:=cs.length) (by rw[h4.1];omega) h5,h4.mono hg hn hx,by rw[hn id bv];exactλb o hh=>hle b o (h5 b o hh)⟩
 | .arr e xs,ho=>by
  show OwnL w' (TyRel G' w' e) e.size (ν' id) xs S';rw[hn id bv];exact WcZ hg h hle ho
 | .hole e xs i p,⟨hp,ho⟩=>by
  show p<ah/\Wh0 w' (TyRel G' w' e) e.size (ν' id) (ν' p) xs i S';rw[hn id bv,hn p hp];grind [Xbk,WkA]
theorem Wik{ν:Nat->Nu}{nx:Nat}:∀(t:Ty) (d:t.den) (vs:List Value) (ns:List Pc),TyRel G w t d vs ns->CellsRel G ν nx (split t d) vs
 | .own e,d,vs,ns,⟨p,_,h,_⟩=>by rw[h];exact CellsRel.one trivial (Wjr _)
 | .prod a b,d,vs,ns,⟨v1,v2,n1,n2,h1,h2,h3,h4⟩=>by
  rw[h1];exact(Wik a _ _ _ h3).append (Wik b _ _ _ h4)
 | .int k,d,vs,ns,h=>WaP _ _ _ h.2
 | .bool,d,vs,ns,h=>WaP _ _ _ h.2
 | .str,d,vs,ns,h=>WaP _ _ _ h.2
 | .slice e,d,vs,ns,h=>WaP _ _ _ h.2
theorem Wtf{A A' B B':Type}(hA:A=A')(hB:B=B')(h:(A×B)=(A'×B'))(d:A×B):cast h d=(cast hA d.1,cast hB d.2):=by
 grind
theorem WtV{A A':Type}(hA:A=A')(h:List A=List A')(x:A)(l:List A):cast h (x::l)=cast hA x::cast h l:=by
 grind
theorem Wvy{A A':Type}(hA:A=A')(h:List A=List A'):cast h ([]:List A)= []:=by
 grind
theorem Wpo{A A':Type}(hA:A=A')(h:List A=List A')(l:List A):(cast h l).length=l.length:=by
 grind
theorem Wtc(a b:Ty)(d:(Ty.prod a b).den):WvQ (.prod a b) d=(WvQ a d.1,WvQ b d.2):=Wtf (Wem a).symm (Wem b).symm _ d
theorem Wrl(e:Ty)(x:e.den)(l:List e.den):WcH e (x::l)=WvQ e x::WcH e l:=WtV (Wem e).symm _ x l
theorem Wmz(e:Ty):WcH e []= []:=Wvy (Wem e).symm _
theorem WgD(e:Ty)(l:List e.den):(WcH e l).length=l.length:=Wpo (Wem e).symm _ l
theorem WbN:∀t:Ty,t.ro.size=t.size
 | .prod a b=>by simp only[Ty.ro,Ty.size,WbN a,WbN b]
 | .own _| .slice _| .int _| .bool| .str=>rfl
theorem WoD:∀t:Ty,t.ro.data=true
 | .prod a b=>by simp only[Ty.ro,Ty.data,WoD a,WoD b];rfl
 | .own _| .slice _| .int _| .bool| .str=>rfl
def Froz(G:GH)(w:World)(S:CS):Prop:=∀b o v,S b o->w.cell? ⟨b,o,none⟩=some v->G b o=some v
theorem Froz.mono{G:GH}{S S':CS}(h:Froz G w S)(hl:CS.le S' S):Froz G w S':=λb o v hs=>h b o v (hl b o hs)
theorem Mem.stored{b o n:Nat}{cs:List Value}(hm:Mem w b o cs)(hn:cs.length<=n)(hf:Froz G w (rng b o n)):WfD G b o cs:=λj v hj=>by
 have hlt:j<cs.length:=(Xad.1 hj).1;exact hf b (o+j) v ⟨rfl,by omega,by omega⟩ (hm j v hj)
theorem Wlv{e:Ty}(hE:∀(x:e.den) (c:List Value) (p:List Pc),(∀q∈p,Froz G' w q.fp)->TyRel G w e x c p->Enc G' e.ro (WvQ e x) c):
  ∀(xs:List e.den) (cs:List Value) (ps:List Pc),(∀q∈ps,Froz G' w q.fp)->EncP (TyRel G w e) xs cs ps->EncL (Enc G' e.ro) (WcH e xs) cs
 | [],cs,ps,_,h=>by rw[Wmz];exact h.1
 |x::xs,cs,ps,hf,⟨c1,c2,p1,p2,h1,h2,h3,h4⟩=>by
  subst h2;rw[Wrl];exact⟨c1,c2,h1,hE x c1 p1 (λq hq=>hf q (Xl _ hq)) h3,Wlv hE xs c2 p2 (λq hq=>hf q (Xh _ hq)) h4⟩
theorem Wtz{e:Ty}(hE:∀(x:e.den) (c:List Value) (p:List Pc),(∀q∈p,Froz G' w q.fp)->TyRel G w e x c p->Enc G' e.ro (WvQ e x) c){nu:Nu}{xs:List e.den}{S:CS}
  (hf:Froz G' w S) (h:OwnL w (TyRel G w e) e.size nu xs S):WjH G' (Enc G' e.ro) (WcH e xs) nu.hdr:=by
 obtain⟨h1,h2,h3⟩:=h;unfold Nu.hdr;cases hb:nu.blk with
 |none=>simp only[hb]at h3;exact .inl ⟨rfl,by rw[h3,Wmz]⟩
 |some b=>
  simp only[hb]at h3;obtain⟨h4,h5,h6,cs,ps,h7,h8,h9,cN⟩:=h3;have hl:=Wbc (λx c q hx=>WE e x c q hx) _ _ _ h7;have jY:xs.length*e.size<=nu.cap*e.size:=Xbe _ h4;refine .inr (.inl ⟨b,nu.off,nu.cap,cs,by rw[WgD,h1],by grind [WgD],h5,Wlv hE xs cs ps (λq hq=>hf.mono (cN _ (Xe _ (Xaq hq)))) h7,?_⟩);exact h8.stored (n:=nu.cap*e.size) (by omega) (hf.mono (cN _ (Xg ..)))
theorem Wd7(hg:GLe G G'):∀(t:Ty) (d:t.den) (vs:List Value) (ns:List Pc),(∀p∈ns,Froz G' w p.fp)->TyRel G w t d vs ns->Enc G' t.ro (WvQ t d) vs
 | .own e,xs,vs,ns,hf,⟨p,h1,h2,h3⟩=>by
  subst h1;exact⟨_,h2,Wtz (λx c q hq hx=>Wd7 hg e x c q hq hx) (hf p (Xac.2 rfl)) h3⟩
 | .prod a b,d,vs,ns,hf,⟨v1,v2,n1,n2,h1,h2,h3,h4⟩=>by
  subst h2;rw[Wtc];exact⟨v1,v2,h1,Wd7 hg a _ _ _ (λp hp=>hf p (Xl _ hp)) h3,Wd7 hg b _ _ _ (λp hp=>hf p (Xh _ hp)) h4⟩
 | .int k,d,vs,ns,_,h=>Wbi hg (.int k) _ _ h.2
 | .bool,d,vs,ns,_,h=>Wbi hg .bool _ _ h.2
 | .str,d,vs,ns,_,h=>Wbi hg .str _ _ h.2
 | .slice e,d,vs,ns,_,h=>Wbi hg (.slice e) _ _ h.2
theorem Wjb(hg:GLe G G'){e:Ty}{nu:Nu}{xs:List e.den}{S:CS}(hf:Froz G' w S)(h:OwnL w (TyRel G w e) e.size nu xs S):WjH G' (Enc G' e.ro) (WcH e xs) nu.hdr:=
 Wtz (λx c q hq hx=>Wd7 hg e x c q hq hx) hf h
theorem WsH{b:Nat}{vs:Array Value}{T:TypeId}(h:w.heap[b]?=some (Obj.cells vs T (0,0))){o:Nat}{cs:List Value}(hc:∀j v,cs[j]?=some v->vs.toList[o+j]?=some v):Mem w b o cs:=λj v hj=>by
 grind [cell_of_row]
theorem Mem.left{b o:Nat}{c1 c2:List Value}(h:Mem w b o (c1++c2)):Mem w b o c1:=λj v hj=>h j v (by grind)
theorem Mem.right{b o n:Nat}{c1 c2:List Value}(h:Mem w b o (c1++c2))(hn:c1.length=n):Mem w b (o+n) c2:=λj v hj=>by
 have:=h (n+j) v (by grind)
 grind
theorem Mem.app{b o n:Nat}{c1 c2:List Value}(h1:Mem w b o c1)(h2:Mem w b (o+n) c2)(hn:c1.length=n):Mem w b o (c1++c2):=λj v hj=>by
 rw[Xaw]at hj;split at hj
 .exact h1 j v hj
 .rename_i hlt;have:=h2 (j-c1.length) v hj
  grind
theorem Wtn{e:Ty}{nu:Nu}{xs:List e.den}{S:CS}{b i:Nat}(h:OwnL w (TyRel G w e) e.size nu xs S)(hb:nu.blk=some b)(hi:i<xs.length):
  ∃c p,TyRel G w e (xs.getD i e.dflt) c p/\Mem w b (nu.off+i*e.size) c:=by
 obtain⟨h1,h2,h3⟩:=h;simp only[hb]at h3;obtain⟨h4,h5,h6,cs,ps,h7,h8,h9,cN⟩:=h3;obtain⟨c1,c,c2,p1,p,p2,g1,g2,g3,g4,g5⟩:=Wos h7 e.dflt hi;refine⟨c,p,g4,?_⟩;rw[g1]at h8;have hl:=Wbc (λx c q hx=>WE e x c q hx) _ _ _ g3;rw[Xan,Xcc (by omega)]at hl;exact(h8.right hl).left
theorem Wdy{e:Ty}(he:e.data=true){nu:Nu}{xs:List e.den}{S:CS}{b:Nat}(h:OwnL w (TyRel G w e) e.size nu xs S)(hb:nu.blk=some b):
  xs.length=nu.len/\xs.length<=nu.cap/\nu.cap<=maxLen/\Row w b (nu.off+nu.cap*e.size)/\∃cs,EncL (Enc G e) xs cs/\Mem w b nu.off cs/\CS.le (rng b nu.off (nu.cap*e.size)) S:=by
 obtain⟨h1,h2,h3⟩:=h
 grind [EncP_data,Xg]
theorem Wmy{e:Ty}(he:e.data=true){nu:Nu}{xs:List e.den}{S:CS}{b:Nat}{cs:List Value}(hb:nu.blk=some b)(h1:xs.length=nu.len)(h2:nu.esz=e.size)(h4:xs.length<=nu.cap)(h5:nu.cap<=maxLen)
  (h6:Row w b (nu.off+nu.cap*e.size)) (h7:EncL (Enc G e) xs cs) (h8:Mem w b nu.off cs) (h9:CS.le (rng b nu.off (nu.cap*e.size)) S):OwnL w (TyRel G w e) e.size nu xs S:=by
 refine⟨h1,h2,?_⟩;simp only[hb];exact⟨h4,h5,h6,cs,[],(EncP_data he xs cs []).2 ⟨h7,rfl⟩,h8,Xv.2 ⟨by simp,List.Pairwise.nil⟩,λs hs=>by simp_all⟩
theorem Wcz{e:Ty}{nu:Nu}{xs:List e.den}{S:CS}(h:OwnL w (TyRel G w e) e.size nu xs S)(hb:nu.blk=none):xs= []:=by
 obtain⟨h1,h2,h3⟩:=h;simp_all
end
end Go.Sx
namespace Go.Sx
set_option linter.unusedVariables false
set_option linter.unusedSimpArgs false
def WbK:Ty->List Value
 | .prod a b=>WbK a++WbK b
 | .int k=>[.int k 0]
 | .bool=>[.bool false]
 | .str=>[.string ⟨#[]⟩]
 | .slice _=>[.slice none 0 0]
 | .own _=>[.pointer none]
def rep{α:Type}(l:List α):Nat->List α
 |0=>[]
 |n+1=>l++rep l n
def TE.cells(te:TE):List Value:=match te.shape with
 | .arr n _=>rep (WbK te.ty) n
 |_=>WbK te.ty
def TE.size(te:TE):Nat:=match te.shape with
 | .arr n _=>n*te.ty.size
 |_=>te.ty.size
structure TEok(P:Program)(T:Tab)(t:TypeId)(te:TE):Prop where
 und:match te.shape with
  | .basic=>te.agg=false/\(match te.ty with
   | .int k=>P.underlying t=some (.int k)
   | .bool=>P.underlying t=some .bool
   | .str=>P.underlying t=some .string
   |_=>False)
  | .slice e=>te.agg=false/\P.underlying t=some (.slice e)/\∃dw,look T e=some dw/\te.ty= .slice dw.ty
  | .struct fs=>te.agg=true/\∃fields:Array Field,P.underlying t=some (.struct fields)/\fields.toList.map (λf=>(f.offset,f.type))=fs/\
    (∀f∈fields,f.name≠ "_")∧P.stoodInHeld t=false∧P.eqGuardType P.depth t=false
  | .ptr e=>te.agg=false/\P.underlying t=some (.pointer e)
  | .arr n e=>te.agg=true/\P.underlying t=some (.array n e)/\∃dw,look T e=some dw/\dw.ty=te.ty/\∀m f,dw.shape≠ .arr m f
 info:∃i z,P.info? t=some i/\i.size=te.size/\i.zero=some z/\z.cells.toList=te.cells/\i.bytes<=4096
def Wap(P:Program)(T:Tab):Prop:=∀t te,look T t=some te->TEok P T t te
theorem WbV:∀t:Ty,0<t.size
 | .prod a b=>by have:=WbV a;simp[Ty.size];omega
 | .int _| .bool| .str| .slice _| .own _=>by simp[Ty.size]
section
variable{P:Program}{T:Tab}{w:World}
theorem Wl{t:TypeId}{d:TypeDesc}(h:P.underlying t=some d):(underlying t).run P w= .ok d w:=by
 simp[underlying,h]
theorem WhM{t:TypeId}{i:TypeInfo}(h:P.info? t=some i):(typeInfo t).run P w= .ok i w:=by
 simp[typeInfo,h]
theorem WqZ{t:TypeId}{i:TypeInfo}(h:P.info? t=some i):(sizeOf t).run P w= .ok i.size w:=by
 simp[sizeOf,WhM h]
theorem TEok.sizeOf{t:TypeId}{te:TE}(h:TEok P T t te):(sizeOf t).run P w= .ok te.size w:=by
 obtain⟨i,z,hi,hs,_⟩:=h.info;rw[WqZ hi,hs]
theorem TEok.isAgg{t:TypeId}{te:TE}(h:TEok P T t te):(isAgg t).run P w= .ok te.agg w:=by
 have hu:=h.und;obtain⟨ty,agg,shape⟩:=te;cases shape with
 |basic=>
  obtain⟨ha,hu⟩:=hu;cases ty<;>simp only at hu<;>first|exact hu.elim|simp_all [Go.isAgg,Wl]
 |slice e=>simp_all [Go.isAgg,Wl]
 |struct fs=>obtain⟨ha,f,hu,_⟩:=hu;simp_all [Go.isAgg,Wl]
 |ptr e=>simp_all [Go.isAgg,Wl]
 |arr n e=>simp_all [Go.isAgg,Wl]
end
theorem Wa8(b o j:Nat):(⟨b,o,none⟩:Addr).add j=⟨b,o+j,none⟩:=by
 simp[Addr.add]
section
variable{P:Program}{T:Tab}{w:World}{G:GH}{ν:Nat->Nu}{objs:Wak}{nx:Nat}
theorem W1{te:TE}(h:te.plain=true):te.size=te.ty.size:=by
 unfold TE.plain at h;unfold TE.size;split at h<;>simp_all
theorem Whr{t:TypeId}{te:TE}(bB:TEok P T t te)(eF:te.plain=true){b o off:Nat}{cs:List Cell}{us:List Value}{x:AVal}
  (hc:CellsRel G ν nx cs us) (hm:∀(j:Nat) (v:Value),us[j]?=some v->w.cell? ⟨b,o+j,none⟩=some v)
  (hs:sub te.agg cs off te.ty.size=some x):
  ∃v,(loadVar t ⟨b,o+off,none⟩).run P w= .ok v w/\AValRel G ν nx x v:=by
 have hsz:te.size=te.ty.size:=W1 eF;unfold sub at hs;simp only[loadVar,Sem.run_bind,bB.isAgg,Result.andThen_ok];cases ha:te.agg with
 |true=>
  simp only[ha,Waq]at hs⊢;split at hs
  .rename_i hle;injection hs with hs;subst hs;have hlen:((us.drop off).take te.ty.size).length=te.ty.size:=by simp[hc.1];omega
   have hr:=run_loadCells_list (P:=P) w ⟨b,o+off,none⟩ ((us.drop off).take te.ty.size) (λj v hj=>by
    grind [Wa8,Xay])
   rw[hlen]at hr;refine⟨.agg ((us.drop off).take te.ty.size).toArray,?_,_,rfl,(hc.drop off).take _⟩;simp[bB.sizeOf,hsz,hr]
  grind
 |false=>
  simp only[ha]at hs⊢;cases bz:cs[off]? with
  |none=>simp_all
  |some c=>
   simp[bz]at hs;subst hs;have hlt:off<us.length:=by rw[hc.1];grind
   have hu:us[off]?=some us[off]:=Xp hlt;refine⟨us[off],?_,hc.2 off c _ bz hu⟩;simp_all
end
section
variable{w0:World}{F:CS}{nt:Slots}{G0 G:GH}{ν:Nat->Nu}{st:St}{a:Act}{w:World}{P:Program}{T:Tab}
theorem Wur{G:GH}:∀(t:Ty) (d:t.den) (v:Value),Enc G t d [v]->v.oneCell'=true
 | .int _,_,_,h=>by grind [Enc,Value.oneCell']
 | .bool,_,_,h=>by grind [Enc,Value.oneCell']
 | .str,_,_,h=>by grind [Enc,Value.oneCell']
 | .slice _,_,_,h=>by
  obtain⟨v,hv,hr⟩:=h;simp at hv;subst hv;rcases hr with⟨rfl,_⟩|⟨_,_,_,_,rfl,_⟩|⟨_,_,rfl,_⟩<;>rfl
 | .own _,_,_,h=>h.elim
 | .prod a b,d,v,h=>by
  have:=Enc_len _ _ _ h
  grind [WbV,Ty.size]
theorem WP{t:Ty}{d:t.den}{v:Value}(h:Enc G t d [v]):AValRel G ν st.nx (one t d) v:=
 ⟨h,Wur t d v h⟩
theorem WgO:∀(v:Value) (c:Cell),War v=some c->CellRel G ν st.nx c v/\v.oneCell'=true
 | .int k n,c,h=>by simp[War]at h;subst h;exact⟨rfl,rfl⟩
 | .bool b,c,h=>by simp[War]at h;subst h;exact⟨rfl,rfl⟩
 | .string s,c,h=>by simp[War]at h;subst h;exact⟨by simp[CellRel,Enc],rfl⟩
 | .slice none 0 0,c,h=>by simp[War]at h;subst h;exact⟨rfl,rfl⟩
 | .slice none 0 (n+1),c,h=>by simp[War]at h
 | .slice none (n+1) _,c,h=>by simp[War]at h
 | .slice (some _) _ _,c,h=>by simp[War]at h
 | .pointer none,c,h=>by simp[War]at h;subst h;exact⟨trivial,rfl⟩
 | .nilFunc,c,h=>by simp[War]at h;subst h;exact⟨trivial,rfl⟩
 | .float _ _,_,h| .complex _ _ _,_,h| .pointer (some _),_,h| .map _,_,h| .chan _,_,h| .func _ _ _,_,h| .iface _ _,_,h| .nilIface,_,h| .agg _,_,h| .tuple _,_,h=>by simp[War]at h
theorem WpC:∀(vs:List Value) (cs:List Cell),vs.mapM War=some cs->CellsRel G ν st.nx cs vs
 | [],cs,h=>by grind [CellsRel.nil]
 |v::vs,cs,h=>by
  simp only[Xfl,Option.bind_eq_bind,Option.bind_eq_some_iff]at h;obtain⟨c,hc,ds,hd,he⟩:=h;simp at he;subst he;obtain⟨h1,h2⟩:=WgO (G:=G) (ν:=ν) (st:=st) v c hc;exact(CellsRel.one h1 h2).append (WpC vs ds hd)
theorem WQ(h:Rel w0 F nt G0 G ν st a w):∀(x:Operand) (av:AVal),ev st x=some av->AValRel G ν st.nx av (a.eval x)
 | .tmp t,av,he=>by
  obtain⟨v,hv,hr⟩:=h.env t av he;simpa [Act.eval,hv]using hr
 | .const v,av,he=>by
  simp only[ev,Wtu]at he;split at he
  .rename_i cs;cases hm:cs.toList.mapM War with
   |none=>simp[hm]at he
   |some l=>
    simp[hm]at he;subst he;exact⟨cs.toList,by simp[Act.eval],WpC _ _ hm⟩
  .cases hm:War v with
   |none=>simp[hm]at he
   |some c=>
    simp[hm]at he;subst he;obtain⟨h1,h2⟩:=WgO (G:=G) (ν:=ν) (st:=st) v c hm;exact⟨h1,h2⟩
 | .func f,av,he=>by
  simp[ev]at he;subst he;exact⟨⟨[],rfl,rfl,λj id u hj=>by simp at hj⟩,rfl⟩
 | .global g,av,he=>by simp[ev]at he
theorem WfW(av:AVal)(v:Value)(n:Int)(h:AValRel G ν st.nx av v)(he:asI av=some n):∃k,v= .int k n:=by
 unfold asI at he;split at he
 .rename_i k m;injection he with he;subst he;obtain⟨h1,_⟩:=h;simp[CellRel,Enc]at h1;exact⟨k,h1⟩
 .simp at he
theorem Wpd(av:AVal)(v:Value)(b:Bool)(h:AValRel G ν st.nx av v)(he:asB av=some b):v= .bool b:=by
 unfold asB at he;split at he
 .injection he with he;subst he;obtain⟨h1,_⟩:=h;simpa [CellRel,Enc]using h1
 .simp at he
def Gives(P:Program)(G:GH)(ν:Nat->Nu)(st:St)(w:World)(s:Sem Value)(r:AVal):Prop:=∃v,s.run P w= .ok v w/\AValRel G ν st.nx r v
theorem Gives.one{s:Sem Value}{t:Ty}{d:t.den}{v:Value}(hr:s.run P w= .ok v w)(h:Enc G t d [v]):Gives P G ν st w s (Sx.one t d):=⟨v,hr,WP h⟩
theorem Wrb{op:BinOp}{k:IntKind}{x y:Int}{r:AVal}(t:TypeId)(hs:op≠ .shl)(cP:op≠ .shr)(h:WyW op k x y=some (true,r)):
  Gives P G ν st w (Go.binOp op t (.int k x) (.int k y)) r:=by
 cases op<;>simp[WyW,inz]at h<;>first
  |exact Wi rfl hs
  |exact Wi rfl cP
  |(subst h;exact⟨_,by simp only[Go.binOp,ne_eq,not_true_eq_false,Wau,↓reduceIte,Op.intArith,Op.intBits,Op.intCmp]<;>rfl,WP rfl⟩)
  |(obtain⟨hz,rfl⟩:=h;exact⟨_,by simp[Go.binOp,Op.intDiv,hz,Wr1,WjJ]<;>rfl,WP rfl⟩)
theorem WiQ{op:BinOp}{k yk:IntKind}{x y:Int}{r:AVal}(t:TypeId)(h:(op= .shl/\(true,r)=(inn y,Sx.one (.int k) (Wqg k x y)))\/(op= .shr/\(true,r)=(inn y,Sx.one (.int k) (WjE k x y)))):
  Gives P G ν st w (Go.binOp op t (.int k x) (.int yk y)) r:=by
 rcases h with⟨rfl,h⟩|⟨rfl,h⟩<;>simp[inn]at h<;>obtain⟨hn,rfl⟩:=h
 .exact⟨_,by simp[Go.binOp,Op.shift,Int.not_lt.2 hn,Wqg]<;>rfl,WP rfl⟩
 .exact⟨_,by simp[Go.binOp,Op.shift,Int.not_lt.2 hn,WjE]<;>rfl,WP rfl⟩
theorem Wrs{op:BinOp}{x y:List UInt8}{r:AVal}(t:TypeId)(h:WyV op x y=some (true,r)):
  Gives P G ν st w (Go.binOp op t (.string ⟨x.toArray⟩) (.string ⟨y.toArray⟩)) r:=by
 cases op<;>simp[WyV]at h
 .obtain⟨hf,rfl⟩:=h;simp[Woa]at hf;refine⟨.string ⟨(x++y).toArray⟩,?_,WP rfl⟩;have e:(ByteArray.mk x.toArray++ByteArray.mk y.toArray)=⟨(x++y).toArray⟩:=by
   apply ByteArray.ext;simp
  have hsz:¬((((ByteArray.mk x.toArray).size+(ByteArray.mk y.toArray).size:Nat):Int)>IntKind.i64.max):=by
   have hm:IntKind.i64.max=9223372036854775807:=by decide
   simp only[ByteArray.size,List.size_toArray,hm];omega
  simp only[Go.binOp,Op.stringOp,Wa hsz,e];rfl
 .subst h;exact⟨_,by simp[Go.binOp,Op.stringOp]<;>rfl,WP rfl⟩
 .subst h;exact⟨_,by simp[Go.binOp,Op.stringOp]<;>rfl,WP rfl⟩
theorem Wx8(x y:List UInt8):((ByteArray.mk x.toArray).toList==(ByteArray.mk y.toArray).toList)=seq x y:=by simp[seq]
theorem Wlr{te:TE}{c d:Cell}{b:Bool}{u v:Value}{t:TypeId}(bB:TEok P T t te)(hc:CellRel G ν st.nx c u)(hd:CellRel G ν st.nx d v)
  (h:WkZ te c d=some b) (n:Nat):(Op.equalIn (n+1) t u v).run P w= .ok b w/\te.agg=false:=by
 have hu:=bB.und;unfold WkZ at h;split at h
 .split at h
  .rename_i hk;subst hk;injection h with h;subst h;simp only[CellRel,Enc,List.cons.injEq,and_true]at hc hd;subst hc hd;exact⟨run_equalIn_int w n t _ _ _ _ hu.2,rfl⟩
  .simp at h
 .injection h with h;subst h;simp only[CellRel,Enc,List.cons.injEq,and_true]at hc hd;subst hc hd;exact⟨run_equalIn_bool' w n t _ _ hu.2,rfl⟩
 .injection h with h;subst h;simp only[CellRel,Enc,List.cons.injEq,and_true]at hc hd;subst hc hd;exact⟨(run_equalIn_string w n t _ _ hu.2).trans (Wk (Result.ok · w) (Wx8 _ _)),rfl⟩
 .simp at h
theorem Wqj{t:TypeId}{te:TE}(bB:TEok P T t te)(ha:te.agg=false)(cs:Array Value)(off:Nat)(v:Value)(h:cs[off]?=some v):(part t cs off).run P w= .ok v w:=by
 simp only[part,Sem.run_bind,bB.isAgg,Result.andThen_ok,ha];simp[h]
theorem WfL(hT:Wap P T)(n:Nat)(xs ys:Array Value):∀(fields:List Field) (k:Nat) (cs ds:List Cell) (b:Bool),
  (∀f∈fields,f.name≠ "_")→fields.map (·.offset)=List.range' k fields.length→
  (∀(j:Nat) (c:Cell),cs[j]?=some c->∃v,xs[k+j]?=some v/\CellRel G ν st.nx c v)->
  (∀(j:Nat) (c:Cell),ds[j]?=some c->∃v,ys[k+j]?=some v/\CellRel G ν st.nx c v)->
  Wdb T (fields.map (·.type)) cs ds=some b->(Op.eqFields (n+1) xs ys fields).run P w= .ok b w
 | [],k,[],[],b,_,_,_,_,h=>by simp[Wdb]at h;subst h;rfl
 |f::fs,k,c::cs,d::ds,b,hn,ho,hx,hy,h=>by
  simp only[Xae,Wdb]at h;cases hl:look T f.type with
  |none=>simp[hl]at h
  |some te=>
   simp only[hl]at h;cases h1:WkZ te c d with
   |none=>simp[h1]at h
   |some p=>
    cases h2:Wdb T (fs.map (·.type)) cs ds with
    |none=>simp[h1,h2]at h
    |some q=>
     simp[h1,h2]at h;subst h;obtain⟨u,hu,yP⟩:=hx 0 c rfl;obtain⟨v,hv,yQ⟩:=hy 0 d rfl;obtain⟨he,ha⟩:=Wlr (w:=w) (hT _ _ hl) yP yQ h1 n;simp only[Xae,Xr,List.range'_succ,List.cons.injEq]at ho;have ih:=WfL hT n xs ys fs (k+1) cs ds q (λf hf=>hn f (Xe _ hf)) ho.2
      (λj c hj=>by have:=hx (j+1) c (by simpa using hj);rwa [Xay,Xda 1 j])
      (λj c hj=>by have:=hy (j+1) c (by simpa using hj);rwa [Xay,Xda 1 j]) h2
     simp only[Op.eqFields,Wb (hn f (Xg ..)),Sem.run_bind,ho.1];rw[Xaz]at hu hv;rw[Wqj (hT _ _ hl) ha xs k u hu,Result.andThen_ok,Wqj (hT _ _ hl) ha ys k v hv,Result.andThen_ok,he,Result.andThen_ok];cases p
     .simp
     .simpa using ih
 | [],_,_::_,_,_,_,_,_,_,h=>by simp[Wdb]at h
 | [],_,[],_::_,_,_,_,_,_,h=>by simp[Wdb]at h
 |_::_,_,[],_,_,_,_,_,_,h=>by simp[Wdb]at h
 |_::_,_,_::_,[],_,_,_,_,_,h=>by simp[Wdb]at h
theorem Wb1{op:BinOp}{t:TypeId}{x y:Operand}{u v:Value}(hu:∀cs,u≠ .agg cs)(hn:u≠ .nilIface):(eqGuard op t x y u v).run P w= .ok () w:=by
 unfold eqGuard;cases op<;>simp<;>cases u<;>cases v<;>first|rfl|exact Wi rfl hn|exact Wi rfl (hu _)
theorem WoP(hT:Wap P T){op:BinOp}{t:TypeId}{x y:AVal}{u v:Value}{r:AVal}(ox oy:Operand)(hx:AValRel G ν st.nx x u)(hy:AValRel G ν st.nx y v)
  (h:Sx.binOp T op t x y=some (true,r)):Gives P G ν st w (do eqGuard op t ox oy u v;Go.binOp op t u v) r:=by
 unfold Sx.binOp at h;split at h
 .rename_i k m k' m';obtain⟨hx,_⟩:=hx;obtain⟨hy,_⟩:=hy;simp only[CellRel,Enc,List.cons.injEq,and_true]at hx hy;subst hx hy;have hg:(eqGuard op t ox oy (.int k m) (.int k' m')).run P w= .ok () w:=Wb1 (by simp) (by simp)
  suffices hh:Gives P G ν st w (Go.binOp op t (.int k m) (.int k' m')) r by
   obtain⟨z,h1,h2⟩:=hh;exact⟨z,by simp[hg,h1],h2⟩
  split at h
  .injection h with h;exact WiQ t (.inl ⟨rfl,h.symm⟩)
  .injection h with h;exact WiQ t (.inr ⟨rfl,h.symm⟩)
  .split at h
   .rename_i hk;subst hk;exact Wrb t (by assumption) (by assumption) h
   .simp at h
 .rename_i m m';obtain⟨hx,_⟩:=hx;obtain⟨hy,_⟩:=hy;simp only[CellRel,Enc,List.cons.injEq,and_true]at hx hy;subst hx hy;obtain⟨z,h1,h2⟩:=Wrs (w:=w) (P:=P) (G:=G) (ν:=ν) (st:=st) t h;exact⟨z,by simp[Wb1,h1],h2⟩
 .rename_i m m';obtain⟨hx,_⟩:=hx;obtain⟨hy,_⟩:=hy;simp only[CellRel,Enc,List.cons.injEq,and_true]at hx hy;subst hx hy;split at h
  .rename_i hl;have hu:=(hT _ _ hl).und;simp only[true_and]at hu;have key:(Op.equalIn 10000 t (.bool m) (.bool m')).run P w= .ok (beq m m') w:=run_equalIn_bool' w 9999 t m m' hu;split at h<;>simp at h
   .subst h;exact⟨.bool (beq m m'),by simp[Wb1,Go.binOp,Op.equal,Op.maxDepth,key],WP rfl⟩
   .subst h;exact⟨.bool (!beq m m'),by simp[Wb1,Go.binOp,Op.equal,Op.maxDepth,key],WP rfl⟩
  .simp at h
 .rename_i cs ds;obtain⟨us,rfl,bz⟩:=hx;obtain⟨vs,rfl,fW⟩:=hy;split at h
  .rename_i fs hl;obtain⟨_,fields,hu,ee,yR,aM,nA⟩:=(hT _ _ hl).und;split at h
   .rename_i hr;have hr:=Wt hr;have w6:P.fieldsOf t=fields:=by simp[Program.fieldsOf,hu]
    have key:∀b,Wdb T (fs.map (·.2)) cs ds=some b->(Op.equalIn 10000 t (.agg us.toArray) (.agg vs.toArray)).run P w= .ok b w:=λb hb=>by
     rw[run_equalIn_struct w 9999 t _ _ (by rw[w6];exact hu) aM,w6];refine WfL (G:=G) (ν:=ν) (st:=st) hT 9998 us.toArray vs.toArray fields.toList 0 cs ds b (λf hf=>yR f (by simpa using hf)) ?_ ?_ ?_ ?_
     .rw[←ee]at hr;simpa [List.range_eq_range',Function.comp_def]using hr
     .intro j c hj;have hlt:j<us.length:=by rw[bz.1];exact(Xad.1 hj).1
      exact⟨us[j],by simp[hlt],(bz.2 j c _ hj (Xp hlt)).1⟩
     .intro j c hj;have hlt:j<vs.length:=by rw[fW.1];exact(Xad.1 hj).1
      exact⟨vs[j],by simp[hlt],(fW.2 j c _ hj (Xp hlt)).1⟩
     .rw[←ee]at hb;simpa [Function.comp_def]using hb
    split at h
    .rename_i b hb;simp at h;subst h;exact⟨.bool b,by simp[run_eqGuard_agg w _ t ox oy _ _ nA,run_eql_struct,key b hb],WP rfl⟩
    .rename_i b hb;simp at h;subst h;exact⟨.bool (!b),by simp[run_eqGuard_agg w _ t ox oy _ _ nA,run_neq_struct,key b hb],WP rfl⟩
    .simp at h
   .simp at h
  .simp at h
 .simp at h
end
end Go.Sx
namespace Go.Sx
set_option linter.unusedVariables false
set_option linter.unusedSimpArgs false
section
variable{w0:World}{F:CS}{nt:Slots}{G0 G:GH}{ν:Nat->Nu}{st:St}{a:Act}{w:World}{P:Program}{T:Tab}
theorem HRel.g{objs:Wak}{nx:Nat}(h:HRel w0 F G ν objs nx w){b o:Nat}{v:Value}(hg:G b o=some v):w.cell? ⟨b,o,none⟩=some v:=by
 obtain⟨φ,h⟩:=h;exact h.g b o v hg
theorem HRel.obj{objs:Wak}{nx:Nat}(h:HRel w0 F G ν objs nx w){id:Nat}{ob:Ob}(ho:look objs id=some ob):∃S,WcG G ν nx w id S ob:=by
 obtain⟨φ,h⟩:=h;exact⟨φ id,h.ob id ob ho⟩
theorem Wg2{k:IntKind}{n:Int}{v:Value}(h:AValRel G ν st.nx (.s (.one (.val (.int k) n))) v):v= .int k n:=by
 obtain⟨h,_⟩:=h
 grind [CellRel,Enc]
theorem Wli{n:Bool}{v:Value}(h:AValRel G ν st.nx (.s (.one (.val .bool n))) v):v= .bool n:=by
 obtain⟨h,_⟩:=h
 grind [CellRel,Enc]
theorem Wlw{s:List UInt8}{v:Value}(h:AValRel G ν st.nx (.s (.one (.val .str s))) v):v= .string ⟨s.toArray⟩:=by
 obtain⟨h,_⟩:=h
 grind [CellRel,Enc]
theorem WqT{op:UnOp}{x:AVal}{u:Value}{r:AVal}(hx:AValRel G ν st.nx x u)(h:Sx.unOp op x=some (true,r)):Gives P G ν st w (Op.unary op u) r:=by
 unfold Sx.unOp at h;split at h
 .have:=Wli hx;subst this;simp at h;subst h;exact⟨_,rfl,WP rfl⟩
 .have:=Wg2 hx;subst this;simp at h;subst h;exact⟨_,rfl,WP rfl⟩
 grind
theorem Wxi{id:Nat}{e:Ty}{xs:List e.den}{nx:Nat}{S:CS}(h:WcG G ν nx w id S (.arr e xs)):∃a c,(ν id).hdr= .slice a xs.length c:=by
 obtain⟨hlen,_,aw⟩:=h;unfold Nu.hdr;cases hb:(ν id).blk with
 |none=>simp_all
 |some b=>simp_all
theorem WuL{id:Nat}{e:Ty}{xs:List e.den}{i p nx:Nat}{S:CS}(h:WcG G ν nx w id S (.hole e xs i p)):∃a c,(ν id).hdr= .slice a xs.length c:=by
 obtain⟨_,hlen,_,_,b,hb,_⟩:=h;unfold Nu.hdr;simp_all
theorem WwN{t ty:TypeId}(hu:P.underlying t=some .string)(s:List UInt8):(Builtin.len_ #[t] ty #[.string ⟨s.toArray⟩]).run P w= .ok (.int .i64 (Wj s)) w:=by
 have h1:(Builtin.len_ #[t] ty #[.string ⟨s.toArray⟩]).run P w= .ok (goInt (ByteArray.mk s.toArray).size) w:=by
  simp_all [Builtin.len_,Wl]
 rw[h1];rfl
theorem WoO(hT:Wap P T)(hh:HRel w0 F G ν st.objs st.nx w){t ty:TypeId}{x:AVal}{u:Value}{r:AVal}(hx:AValRel G ν st.nx x u)(h:WjP T st t x=some (true,r)):
  Gives P G ν st w (Builtin.len_ #[t] ty #[u]) r:=by
 unfold WjP at h;split at h
 .rename_i te e l _ hl;simp at h;subst h;have hu:=(hT _ _ hl).und.2.1;obtain⟨⟨v,hv,hr⟩,_⟩:=hx;simp at hv;subst hv;rcases hr with⟨rfl,cg⟩|⟨b,off,cap,cs,rfl,_⟩|⟨a,cap,rfl,cg⟩
  rotate_left 2
  .exact⟨_,by simp[Builtin.len_,Wl hu]<;>rfl,WP (by rw[cg];rfl)⟩
  .exact⟨_,by simp[Builtin.len_,Wl hu]<;>rfl,WP (by rw[cg];rfl)⟩
  .exact⟨_,by simp[Builtin.len_,Wl hu]<;>rfl,WP rfl⟩
 .rename_i te e _ hl;simp at h;subst h;have hu:=(hT _ _ hl).und.2.1;obtain⟨hv,_⟩:=hx;simp only[CellRel]at hv;subst hv;exact⟨_,by simp[Builtin.len_,Wl hu]<;>rfl,WP rfl⟩
 .rename_i te e id hl;have hu:=(hT _ _ hl).und.2.1;obtain⟨⟨_,hv⟩,_⟩:=hx;subst hv;unfold obL at h;split at h
  .rename_i e' xs ho;simp at h;subst h;obtain⟨S,aw⟩:=hh.obj ho;obtain⟨a,c,hd⟩:=Wxi aw;rw[hd];exact⟨.int .i64 (Wj xs),by simp[Builtin.len_,Wl hu]<;>rfl,WP rfl⟩
  .rename_i e' xs i p ho;simp at h;subst h;obtain⟨S,aw⟩:=hh.obj ho;obtain⟨a,c,hd⟩:=WuL aw;rw[hd];exact⟨.int .i64 (Wj xs),by simp[Builtin.len_,Wl hu]<;>rfl,WP rfl⟩
  grind
 .rename_i te e id lo hi hl;simp only[Option.some.injEq,Prod.mk.injEq,true_and]at h;subst h;have hu:=(hT _ _ hl).und.2.1;obtain⟨⟨_,h1,h2,h3,hv⟩,_⟩:=hx;subst hv;unfold Nu.vhdr;cases hb:(ν id).blk with
  |none=>
   have h0:=h3 hb;have e0:hi-lo=0:=by omega
   rw[e0];exact⟨_,by simp[Builtin.len_,Wl hu]<;>rfl,WP rfl⟩
  |some b=>exact⟨.int .i64 ((hi-lo:Nat):Int),by simp[Builtin.len_,Wl hu]<;>rfl,WP rfl⟩
 .rename_i s hl;simp at h;subst h;have hu:=(hT _ _ hl).und.2;have:=Wlw hx;subst this;exact⟨.int .i64 (Wj (α:=UInt8) s),WwN hu s,WP rfl⟩
 grind
theorem Wd2(hT:Wap P T){t:TypeId}{f off:Nat}{te:TE}(h:Wgn T t f=some (off,te)):
  ∃(fields:Array Field) (fd:Field),P.underlying t=some (.struct fields)/\fields[f]?=some fd/\fd.offset=off/\TEok P T fd.type te/\te.plain=true:=by
 unfold Wgn at h;split at h
 .rename_i fs hl;obtain⟨_,fields,hu,ee,_⟩:=(hT _ _ hl).und;split at h
  .rename_i o ft hf;split at h
   .rename_i dw cg;split at h
    .rename_i hp;injection h with h;injection h with h1 h2;subst h1 h2;rw[←ee]at hf;simp only[Xas,Array.getElem?_toList]at hf;cases ir:fields[f]? with
     |none=>simp_all
     |some fd=>
      simp[ir]at hf;obtain⟨h1,h2⟩:=hf;subst h1 h2;exact⟨fields,fd,hu,ir,rfl,hT _ _ cg,hp⟩
    grind
   grind
  grind
 grind
theorem Wge{t:TypeId}{f off:Nat}{te:TE}{b o:Nat}{fields:Array Field}{fd:Field}(hu:P.underlying t=some (.struct fields))(hf:fields[f]?=some fd)(ho:fd.offset=off)
  (bB:TEok P T fd.type te) (hp:te.plain=true):(Instr.fieldAt t (.pointer (some ⟨b,o,none⟩)) f).run P w= .ok (.pointer (some ⟨b,o+off,none⟩)) w:=by
 have hsz:te.size≠0:=by grind [W1,WbV]
 simp[Instr.fieldAt,Wl hu,hf,Instr.sureAddr,fieldPlace,bB.sizeOf,hsz,Wa8,ho]
theorem Wg3(hT:Wap P T)(hh:HRel w0 F G ν st.objs st.nx w){t:TypeId}{f:Nat}{x:AVal}{u:Value}{r:AVal}(hx:AValRel G ν st.nx x u)(h:Wcc T st t x f=some (true,r)):
  Gives P G ν st w (Instr.fieldAt t u f) r:=by
 unfold Wcc at h;split at h
 .rename_i off te id o hf;obtain⟨fields,fd,hu,ir,ho,bB,hp⟩:=Wd2 hT hf;split at h
  .simp at h;subst h;obtain⟨⟨h1,b,hb,rfl⟩,_⟩:=hx;exact⟨_,Wge hu ir ho bB hp,⟨h1,b,hb,by rw[Xay]⟩,rfl⟩
  grind
 .rename_i off te id i o hf;obtain⟨fields,fd,hu,ir,ho,bB,hp⟩:=Wd2 hT hf;split at h
  .simp at h;subst h;obtain⟨⟨h1,h2,b,hb,rfl⟩,_⟩:=hx;exact⟨_,Wge hu ir ho bB hp,⟨h1,h2,b,hb,by rw[Xay,Xay]⟩,rfl⟩
  grind
 .rename_i off te t' d o hf;obtain⟨fields,fd,hu,ir,ho,bB,hp⟩:=Wd2 hT hf;simp at h;subst h;obtain⟨⟨b,o',cs,rfl,h1,h2⟩,_⟩:=hx;exact⟨_,Wge hu ir ho bB hp,⟨b,o',cs,by rw[Xay],h1,h2⟩,rfl⟩
 grind
theorem WlX(hT:Wap P T){t:TypeId}{f:Nat}{x:AVal}{u:Value}{r:AVal}(hx:AValRel G ν st.nx x u)(h:Wo8 T t x f=some (true,r)):
  Gives P G ν st w (Instr.field t u f) r:=by
 unfold Wo8 at h;split at h
 .rename_i off te cs hf;obtain⟨fields,fd,hu,ir,ho,bB,hp⟩:=Wd2 hT hf;obtain⟨us,rfl,bz⟩:=hx;cases hs:sub te.agg cs off te.ty.size with
  |none=>simp_all
  |some y=>
   simp[hs]at h;subst h;unfold sub at hs;simp only[Gives,Instr.field,Sem.run_bind,Wl hu,Result.andThen_ok,ir,asAgg,Sem.run_pure,part,bB.isAgg];cases ha:te.agg with
   |true=>
    simp only[ha,Waq]at hs⊢;split at hs
    .rename_i hle;injection hs with hs;subst hs;refine⟨.agg ((us.drop off).take te.ty.size).toArray,?_,_,rfl,(bz.drop off).take _⟩;simp[bB.sizeOf,W1 hp,ho]
    grind
   |false=>
    simp only[ha]at hs⊢;cases hc:cs[off]? with
    |none=>simp_all
    |some c=>
     simp[hc]at hs;subst hs;have hlt:off<us.length:=by rw[bz.1];grind
     refine⟨us[off],?_,bz.2 off c _ hc (Xp hlt)⟩;simp_all
 grind
end
end Go.Sx
namespace Go.Sx
set_option linter.unusedVariables false
set_option linter.unusedSimpArgs false
section
variable{w0:World}{F:CS}{nt:Slots}{G0 G:GH}{ν:Nat->Nu}{st:St}{a:Act}{w:World}{P:Program}{T:Tab}
theorem WnG{α:Type}{R:α->List Value->Prop}{n:Nat}(h:∀x c,R x c->c.length=n)(l:List α)(cs:List Value)(i:Nat)(d:α)(he:EncL R l cs)(hi:i<l.length):
  R (l.getD i d) ((cs.drop (i*n)).take n):=EncL_nth h l cs i _ he (by simp_all)
theorem WdX{i:Int}{n:Nat}(h:inb i n=true):0<=i/\i<n:=by simpa [inb]using h
theorem Wd6{t et:TypeId}{te:TE}{k:IntKind}{n:Int}{b off len cap:Nat}(hu:P.underlying t=some (.slice et))(bB:TEok P T et te)(hp:te.plain=true)(h0:0<=n)(h1:n<len):
  (Instr.indexAt t (.slice (some ⟨b,off,none⟩) len cap) (.int k n)).run P w= .ok (.pointer (some ⟨b,off+n.toNat*te.ty.size,none⟩)) w:=by
 simp[Instr.indexAt,asIntOf,Wl hu,h0,h1,bB.sizeOf,W1 hp,Wa8]
theorem Wr9(hT:Wap P T)(hh:HRel w0 F G ν st.objs st.nx w){t et:TypeId}{te:TE}{k:IntKind}{n:Int}{id:Nat}{u:Value}{r:AVal}(hu:P.underlying t=some (.slice et))(bB:TEok P T et te)(hp:te.plain=true)
  (hx:AValRel G ν st.nx (.s (.one (.own id))) u) (h:obI te n id (look st.objs id)=some (true,r)):Gives P G ν st w (Instr.indexAt t u (.int k n)) r:=by
 obtain⟨⟨bv,hv⟩,_⟩:=hx;subst hv;unfold obI at h;split at h
 .rename_i e xs aw;split at h
  .rename_i he;simp only[Option.some.injEq,Prod.mk.injEq]at h;obtain⟨hb,rfl⟩:=h;obtain⟨h0,h1⟩:=WdX hb;obtain⟨S,hlen,bV,ho⟩:=hh.obj aw;unfold Nu.hdr;cases bb:(ν id).blk with
   |none=>grind
   |some b=>
    refine⟨.pointer (some ⟨b,(ν id).off+n.toNat*te.ty.size,none⟩),Wd6 hu bB hp h0 (by omega),⟨bv,by omega,b,bb,?_⟩,rfl⟩;rw[bV,he,WbN,Xaz]
  grind
 .rename_i e xs i p aw;split at h
  .rename_i he;simp only[Option.some.injEq,Prod.mk.injEq,Xi]at h;obtain⟨⟨hb,hi⟩,rfl⟩:=h;obtain⟨h0,h1⟩:=WdX hb;have hi:=Xcl hi;obtain⟨S,lv,hlen,bV,hlt,b,bb,gI,yS,ho⟩:=hh.obj aw;unfold Nu.hdr;simp only[bb];refine⟨.pointer (some ⟨b,(ν id).off+n.toNat*te.ty.size,none⟩),Wd6 hu bB hp h0 (by omega),⟨lv,b,gI,?_⟩,rfl⟩;rw[yS,he,WbN,Xaz,hi]
  grind
 grind
theorem WrL(hT:Wap P T)(hh:HRel w0 F G ν st.objs st.nx w){t et:TypeId}{te:TE}{k:IntKind}{n:Int}{id lo hi:Nat}{u:Value}{r:AVal}(hu:P.underlying t=some (.slice et))(bB:TEok P T et te)(hp:te.plain=true)
  (hx:AValRel G ν st.nx (.s (.one (.vw id lo hi))) u) (h:WxO te n id lo hi (look st.objs id)=some (true,r)):Gives P G ν st w (Instr.indexAt t u (.int k n)) r:=by
 obtain⟨⟨bv,g1,g2,g3,hv⟩,_⟩:=hx;subst hv;unfold WxO at h;split at h
 .rename_i e xs aw;split at h
  .rename_i he;simp only[Option.some.injEq,Prod.mk.injEq]at h;obtain⟨hb,rfl⟩:=h;obtain⟨h0,h1⟩:=WdX hb;obtain⟨S,hlen,bV,ho⟩:=hh.obj aw;unfold Nu.vhdr;cases bb:(ν id).blk with
   |none=>grind
   |some b=>
    simp only[bb]at ho;have hne:(ν id).cap≠lo:=by omega
    rw[Wa hne];refine⟨.pointer (some ⟨b,(ν id).off+lo*(ν id).esz+n.toNat*te.ty.size,none⟩),Wd6 hu bB hp h0 h1,⟨bv,by omega,b,bb,?_⟩,rfl⟩;rw[bV,he,WbN,Xaz,Xcu,Xay]
  grind
 grind
theorem Wry(hT:Wap P T)(hh:HRel w0 F G ν st.objs st.nx w){t et:TypeId}{te:TE}{k:IntKind}{n:Int}{m id:Nat}{u:Value}{r:AVal}(hu:P.underlying t=some (.array m et))(bB:TEok P T et te)(hp:te.plain=true)
  (hx:AValRel G ν st.nx (.s (.one (.aptr id))) u) (h:WxD te n m id (look st.objs id)=some (true,r)):Gives P G ν st w (Instr.indexAt t u (.int k n)) r:=by
 obtain⟨⟨bv,b,bb,hv⟩,_⟩:=hx;subst hv;unfold WxD at h;split at h
 .rename_i e xs aw;split at h
  .rename_i he;simp only[Option.some.injEq,Prod.mk.injEq,Xi,Wh]at h;obtain⟨⟨hb,hm⟩,rfl⟩:=h;obtain⟨h0,h1⟩:=WdX hb;obtain⟨S,hlen,bV,ho⟩:=hh.obj aw;refine⟨.pointer (some ⟨b,(ν id).off+n.toNat*e.size,none⟩),?_,⟨bv,by omega,b,bb,by rw[bV,Xaz]⟩,rfl⟩;have:((0:Int)<=n/\n<(m:Int)):=⟨h0,h1⟩;simp only[Instr.indexAt,asIntOf,Sem.run_bind,Sem.run_pure,Result.andThen_ok,Wl hu,Instr.sureAddr,Wb this,bB.sizeOf,W1 hp,Wa8,he]
  grind
 grind
theorem Whl(hT:Wap P T)(hh:HRel w0 F G ν st.objs st.nx w){t:TypeId}{x i:AVal}{u v:Value}{r:AVal}(hx:AValRel G ν st.nx x u)(hi:AValRel G ν st.nx i v)
  (h:Wca T st t x i=some (true,r)):Gives P G ν st w (Instr.indexAt t u v) r:=by
 unfold Wca at h;split at h
 .rename_i ty ag et n hl hn;obtain⟨k,rfl⟩:=WfW _ _ _ hi hn;have hu:=(hT _ _ hl).und.2.1;split at h
  .rename_i te hle;split at h
   .rename_i hp;split at h
    .rename_i e l;split at h
     .rename_i he;simp only[Option.some.injEq,Prod.mk.injEq]at h;obtain⟨hb,rfl⟩:=h;obtain⟨h0,h1⟩:=WdX hb;obtain⟨⟨z,hz,hr⟩,_⟩:=hx;simp at hz;subst hz;rcases hr with⟨rfl,cg⟩|⟨b,off,cap,cs,rfl,h2,h3,h4,h5⟩|⟨a,cap,rfl,cg⟩
      rotate_left 2
      .grind
      .grind
      .have hlt:n.toNat<Xa l:=by omega
       refine⟨_,Wd6 hu (hT _ _ hle) hp h0 h1,⟨b,off+n.toNat*e.size,_,?_,WnG (λx c hc=>Enc_len e x c hc) l cs n.toNat e.dflt h4 hlt,?_⟩,rfl⟩
       .grind
       .intro j v hj;rw[Xbr]at hj;split at hj
        .rw[Xbq]at hj;rw[Xay];exact h5 _ _ hj
        grind
     grind
    .simp at h
    .exact Wr9 hT hh hu (hT _ _ hle) hp hx h
    .exact WrL hT hh hu (hT _ _ hle) hp hx h
    grind
   grind
  grind
 .rename_i ty ag m et n hl hn;obtain⟨k,rfl⟩:=WfW _ _ _ hi hn;have hu:=(hT _ _ hl).und.2.1;split at h
  .rename_i te hle;split at h
   .rename_i hp;split at h
    .exact Wry hT hh hu (hT _ _ hle) hp hx h
    grind
   grind
  grind
 grind
theorem Wxc(s:List UInt8)(n:Nat)(h:n<s.length):(ByteArray.mk s.toArray)[n]?=some (s.getD n 0):=by
 grind [ByteArray.getElem?_lt',ByteArray.size,ByteArray.getElem_eq_getElem_data]
theorem Wj5{k:IntKind}:∀(cs:List Cell) (us:List Value) (l:List Int),WbP k cs=some l->CellsRel G ν st.nx cs us->l.length=cs.length/\∀j,j<us.length->us[j]?=some (.int k (Xd l j (0:Int)))
 | [],us,l,h,hc=>by
  simp only[WbP]at h;injection h with h;subst h;have:=hc.1;simp_all
 | .val (.int k') d::cs,us,l,h,hc=>by
  simp only[WbP]at h;split at h
  .rename_i hk;subst hk;cases hi:WbP k' cs with
   |none=>simp_all
   |some l'=>
    rw[hi]at h;simp only[Xbz]at h;injection h with h;subst h;cases us with
    |nil=>have:=hc.1;grind
    |cons u us=>
     have h0:=(hc.2 0 _ u rfl rfl).1;have hu:u= .int k' d:=by grind [CellRel,Enc]
     obtain⟨h1,h2⟩:=Wj5 cs us l' hi ⟨by have:=hc.1;simp_all,λj c v hj hv=>hc.2 (j+1) c v (by simp_all) (by simp_all)⟩
     grind
  .cases h
 | .val .bool d::cs,us,l,h,_=>by simp[WbP]at h
 | .val .str d::cs,us,l,h,_=>by simp[WbP]at h
 | .val (.slice _) d::cs,us,l,h,_=>by simp[WbP]at h
 | .val (.own _) d::cs,us,l,h,_=>by simp[WbP]at h
 | .val (.prod _ _) d::cs,us,l,h,_=>by simp[WbP]at h
 | .nils::cs,us,l,h,_=>by simp[WbP]at h
 | .own _::cs,us,l,h,_=>by simp[WbP]at h
 | .vw _ _ _::cs,us,l,h,_=>by simp[WbP]at h
 | .aptr _::cs,us,l,h,_=>by simp[WbP]at h
 | .ptr _ _::cs,us,l,h,_=>by simp[WbP]at h
 | .eptr _ _ _::cs,us,l,h,_=>by simp[WbP]at h
 | .rptr _ _ _::cs,us,l,h,_=>by simp[WbP]at h
 | .clos _ _::cs,us,l,h,_=>by simp[WbP]at h
 | .junk::cs,us,l,h,_=>by simp[WbP]at h
theorem WlO(hT:Wap P T){t:TypeId}{x i:AVal}{u v:Value}{r:AVal}(hx:AValRel G ν st.nx x u)(hi:AValRel G ν st.nx i v)
  (h:Wod T t x i=some (true,r)):Gives P G ν st w (Instr.index t u v) r:=by
 unfold Wod at h;split at h
 .rename_i s n hl hn;obtain⟨k,rfl⟩:=WfW _ _ _ hi hn;have:=Wlw hx;subst this;have hu:=(hT _ _ hl).und.2;simp only[Option.some.injEq,Prod.mk.injEq]at h;obtain⟨hb,rfl⟩:=h;obtain⟨h0,h1⟩:=WdX hb;have hlt:n.toNat<Xa s:=by omega
  refine⟨.int .u8 ((Xd s n.toNat 0).toNat:Int),?_,WP rfl⟩;simp only[Instr.index,asIntOf,Sem.run_bind,Sem.run_pure,Result.andThen_ok,Wl hu,Wb h0,Wxc s n.toNat hlt]
 .rename_i k ag m et cs n hl hn;split at h
  .rename_i k' hle;split at h
   .rename_i l rc;split at h
    .rename_i hc;obtain⟨rfl,hm⟩:=hc;obtain⟨kk,rfl⟩:=WfW _ _ _ hi hn;obtain⟨us,rfl,bz⟩:=hx;simp only[Option.some.injEq,Prod.mk.injEq]at h;obtain⟨hb,rfl⟩:=h;obtain⟨h0,h1⟩:=WdX hb;obtain⟨hlen,fX⟩:=Wj5 _ _ _ rc bz;have hu:=(hT _ _ hl).und.2.1;have w7:=hT _ _ hle;have qu:(Go.isAgg et).run P w= .ok false w:=w7.isAgg;have hsz:(Go.sizeOf et).run P w= .ok 1 w:=w7.sizeOf;have hlt:n.toNat<us.length:=by rw[bz.1];omega
     have jp:us[n.toNat]?=some (.int k' (Xd l n.toNat (0:Int))):=fX _ hlt;refine⟨.int k' (Xd l n.toNat (0:Int)),?_,WP rfl⟩;simp only[Instr.index,asIntOf,Sem.run_bind,Sem.run_pure,Result.andThen_ok,Wl hu,h0,h1,and_self,Waq,hsz,part,qu,Nat.mul_one];simp[jp]
    grind
   grind
  grind
 grind
theorem Wjc{k:IntKind}{n:Int}{y:Nat}{c:BoundsCode}(h0:0<=n)(h1:n<=y):(Instr.sliceBound (.int k n) y c).run P w= .ok n.toNat w:=by
 simp[Instr.sliceBound,asIntOf,h0,h1]
inductive BRel:Option Int->Option Value->Prop where
 |none:BRel .none .none
 |some (k:IntKind) (n:Int):BRel (.some n) (.some (.int k n))
theorem Wdm(h:Rel w0 F nt G0 G ν st a w)(o:Option Operand)(r:Option Int)(he:Wmq st o=some r):BRel r (o.map a.eval):=by
 cases o with
 |none=>simp[Wmq]at he;subst he;exact .none
 |some x=>
  simp only[Wmq]at he;cases hv:ev st x with
  |none=>simp_all
  |some av=>
   simp only[hv,Option.bind_some]at he;cases hi:asI av with
   |none=>simp_all
   |some n=>
    simp[hi]at he;subst he;obtain⟨k,hk⟩:=WfW _ _ _ (WQ h x av hv) hi;simp only[Xbz,hk];exact .some k n
theorem WcP{isSlice:Bool}{n cap:Nat}{lo hi:Option Int}{vl vh:Option Value}(hl:BRel lo vl)(hh:BRel hi vh)(hc:n<=cap)(hb:(WcQ n lo hi).1=true):
  (Instr.sliceBounds isSlice n cap vl vh none).run P w= .ok ((WcQ n lo hi).2.1,(WcQ n lo hi).2.2,cap) w/\(WcQ n lo hi).2.1<=(WcQ n lo hi).2.2/\(WcQ n lo hi).2.2<=n:=by
 cases hl<;>cases hh<;>simp only[WcQ,Xi,Wh]at hb⊢
 .simp[Instr.sliceBounds]
 .grind [Instr.sliceBounds,Sem.run_bind,Sem.run_pure,Result.andThen_ok,Wjc]
 .grind [Instr.sliceBounds,Sem.run_bind,Sem.run_pure,Result.andThen_ok,Wjc]
 .rename_i k l k' h;obtain⟨⟨⟨h1,h2⟩,h3⟩,h4⟩:=hb;refine⟨?_,by omega,by omega⟩;simp only[Instr.sliceBounds,Sem.run_bind,Sem.run_pure,Result.andThen_ok]
  grind [Wjc,Result.andThen_ok]
theorem Wlc{α:Type}(l:List α)(lo hi:Option Int):Wv7 l lo hi=(l.take (WcQ l.length lo hi).2.2).drop (WcQ l.length lo hi).2.1:=by
 cases lo<;>cases hi<;>simp[Wv7,WcQ]
theorem WwT(s:List UInt8)(l h:Nat):(ByteArray.mk s.toArray).extract l h=⟨((s.take h).drop l).toArray⟩:=by
 apply ByteArray.ext;simp[ByteArray.data_extract,List.extract_eq_take_drop,List.drop_take]
theorem Wuo{t:TypeId}{lo hi:Option Int}{vl vh:Option Value}(hu:P.underlying t=some .string)(s:List UInt8)(hl:BRel lo vl)(hh:BRel hi vh)(hb:(WcQ s.length lo hi).1=true):
  (Instr.sliceAt t (.string ⟨s.toArray⟩) vl vh none).run P w= .ok (.string ⟨(Wv7 s lo hi).toArray⟩) w:=by
 have hsz:(ByteArray.mk (List.toArray s)).size=Xa s:=by simp[ByteArray.size]
 obtain⟨hr,h3,h4⟩:=WcP (P:=P) (w:=w) (isSlice:=false) (cap:=Xa s) hl hh (Xm _) hb;simp only[Instr.sliceAt,Instr.slice,Sem.run_bind,Wl hu,Result.andThen_ok,Option.isSome_none,Bool.false_eq_true,Wau,Sem.run_pure,hsz,hr,WwT,Wlc]
theorem Wvl{t et:TypeId}{te:TE}{lo hi:Option Int}{vl vh:Option Value}{α:Type}{R:α->List Value->Prop}{n:Nat}(hR:∀x c,R x c->c.length=n)(hu:P.underlying t=some (.slice et))(bB:TEok P T et te)(hp:te.plain=true)(hn:te.ty.size=n)
  (xs:List α) {v:Value} (hx:WjH G R xs v) (hl:BRel lo vl) (hh:BRel hi vh) (hb:(WcQ xs.length lo hi).1=true):
  ∃v',(Instr.sliceAt t v vl vh none).run P w= .ok v' w/\WjH G R (Wv7 xs lo hi) v':=by
 rcases hx with⟨rfl,bG⟩|⟨b,off,cap,cs,rfl,h3,h4,h5,h6⟩|⟨a,cap,rfl,bG⟩
 rotate_left 2
 .subst bG;obtain⟨hr,h3,h4⟩:=WcP (P:=P) (w:=w) (isSlice:=true) (cap:=cap) hl hh (Xbp _) hb;have e1:(WcQ 0 lo hi).2.2=0:=by omega
  have e2:(WcQ 0 lo hi).2.1=0:=by omega
  rw[e1,e2]at hr;refine⟨.slice (some a) 0 cap,?_,.inr (.inr ⟨a,cap,rfl,?_⟩)⟩
  .simp only[Instr.sliceAt,Instr.slice,Sem.run_bind,Wl hu,Result.andThen_ok,hr,bB.sizeOf,Sem.run_pure,Xbz];simp[Addr.add]
  .rw[Wlc];simp
 .subst bG;obtain⟨hr,h3,h4⟩:=WcP (P:=P) (w:=w) (isSlice:=true) (cap:=0) hl hh (Xm _) hb;refine⟨.slice none 0 0,?_,.inl ⟨rfl,?_⟩⟩
  .have e1:(WcQ 0 lo hi).2.2=0:=by omega
   have e2:(WcQ 0 lo hi).2.1=0:=by omega
   rw[e1,e2]at hr;simp[Instr.sliceAt,Instr.slice,Wl hu,hr,bB.sizeOf]
  .rw[Wlc];simp
 .obtain⟨hr,h7,h8⟩:=WcP (P:=P) (w:=w) (isSlice:=true) (cap:=cap) hl hh h3 hb;have yT:=Wlc xs lo hi;generalize (WcQ xs.length lo hi).2.1=p at*;generalize (WcQ xs.length lo hi).2.2=q at*;have hsz:te.size=n:=by rw[W1 hp,hn]
  have hlen:(Wv7 xs lo hi).length=q-p:=by simp_all
  refine⟨.slice (some (if cap=p then⟨b,off,none⟩else⟨b,off+p*n,none⟩)) (q-p) (cap-p),?_,.inr (.inl ?_)⟩
  .simp only[Instr.sliceAt,Instr.slice,Sem.run_bind,Wl hu,Result.andThen_ok,hr,bB.sizeOf,Sem.run_pure,hsz,Xbz,Wa8];split<;>rfl
  .by_cases hc:cap=p
   .have h0:Wv7 xs lo hi= []:=Xaa (by omega);refine⟨b,off,cap-p,[],?_,by omega,by omega,?_,λj v hj=>by simp at hj⟩
    .rw[Wb hc];rw[hlen]
    .rw[h0];rfl
   .refine⟨b,off+p*n,cap-p,(cs.take (q*n)).drop (p*n),?_,by omega,by omega,?_,?_⟩
    .rw[Wa hc,hlen]
    .grind [WeF,WeU]
    .intro j v hj;rw[Xbq,Xbr]at hj;split at hj
     .rw[Xay];exact h6 _ _ hj
     grind
theorem Wmc(hT:Wap P T){t:TypeId}{x:AVal}{u:Value}{vl vh:Option Value}{lo hi:Option Operand}{r:AVal}(hx:AValRel G ν st.nx x u)
  (hl:∀l,Wmq st lo=some l->BRel l vl) (hh:∀l,Wmq st hi=some l->BRel l vh)
  (h:Wl6 T st t x lo hi=some (true,r)):Gives P G ν st w (Instr.sliceAt t u vl vh none) r:=by
 unfold Wl6 at h;split at h
 .rename_i s l h' re h1 h2;have:=Wlw hx;subst this;simp only[Option.some.injEq,Prod.mk.injEq]at h;obtain⟨hb,rfl⟩:=h;exact⟨_,Wuo (hT _ _ re).und.2 s (hl _ h1) (hh _ h2) hb,WP rfl⟩
 .rename_i ty ag et e xs l h' re h1 h2;have hu:=(hT _ _ re).und.2.1;split at h
  .rename_i te hle;split at h
   .rename_i yU;obtain⟨he,hp⟩:=yU;simp only[Option.some.injEq,Prod.mk.injEq]at h;obtain⟨hb,rfl⟩:=h;obtain⟨⟨z,hz,hr⟩,_⟩:=hx;simp at hz;subst hz;obtain⟨v',h3,h4⟩:=Wvl (P:=P) (T:=T) (w:=w) (λx c hc=>Enc_len e x c hc) hu (hT _ _ hle) hp (by rw[he]) xs hr (hl _ h1) (hh _ h2) hb;exact⟨v',h3,WP ⟨v',rfl,h4⟩⟩
   grind
  grind
 grind
end
end Go.Sx
namespace Go.Sx
set_option linter.unusedVariables false
set_option linter.unusedSimpArgs false
section
variable{w0:World}{F:CS}{nt:Slots}{G0 G:GH}{ν:Nat->Nu}{st:St}{a:Act}{w:World}{P:Program}{T:Tab}
theorem WiR{k:IntKind}:∀(l:List Int) (cs:List Value),EncL (Enc G (.int k)) l cs->cs=l.map (Value.int k)
 | [],cs,h=>h
 |x::l,cs,⟨c1,c2,he,h1,h2⟩=>by
  have:=WiR l c2 h2
  grind [Enc]
theorem Wnr{t e:TypeId}{dst:TypeId}(hs:P.underlying t=some (.slice e))(he:P.underlying e=some (.int .u8))(hd:P.underlying dst=some .string){b off cap:Nat}(l:List Int)
  (hm:∀j v,(l.map (Value.int .u8))[j]?=some v->w.cell? ⟨b,off+j,none⟩=some v):
  (convert t dst (.slice (some ⟨b,off,none⟩) l.length cap)).run P w= .ok (.string ⟨(Wio l).toArray⟩) w:=by
 rw[run_convert_bytes_string w t dst e _ _ _ hs he hd];have h1:=run_loadCells_list (P:=P) w ⟨b,off,none⟩ (l.map (Value.int .u8)) (λj v hj=>by grind [Wa8]);rw[Xab]at h1;rw[run_bytesToString w _ _ _ l h1,foldl_push_bytes];simp[ByteArray.ext,Wio]
theorem WiZ{t e:TypeId}{dst:TypeId}(hs:P.underlying t=some (.slice e))(he:P.underlying e=some (.int .u8))(hd:P.underlying dst=some .string)(l c:Nat):
  (convert t dst (.slice none l c)).run P w= .ok (.string ⟨#[]⟩) w:=by
 rw[run_convert_bytes_string w t dst e _ _ _ hs he hd];rfl
theorem WqU{t e:TypeId}{dst:TypeId}(hs:P.underlying t=some (.slice e))(he:P.underlying e=some (.int .u8))(hd:P.underlying dst=some .string)(a:Addr)(c:Nat):
  (convert t dst (.slice (some a) 0 c)).run P w= .ok (.string ⟨#[]⟩) w:=by
 rw[run_convert_bytes_string w t dst e _ _ _ hs he hd];have h1:=run_loadCells_list (P:=P) w a ([].map (Value.int .u8)) (λj v hj=>by simp at hj);simp only[Xbt,List.length_nil]at h1;rw[run_bytesToString w _ _ _ [] (by simp_all),foldl_push_bytes];rfl
theorem Wn7(hT:Wap P T)(hh:HRel w0 F G ν st.objs st.nx w){src dst:TypeId}{x:AVal}{u:Value}{r:AVal}(hx:AValRel G ν st.nx x u)
  (h:WjY T st src dst x=some (true,r)):Gives P G ν st w (convert src dst u) r:=by
 unfold WjY WxK at h;split at h
 .rename_i k0 k k1 n h1 h2;have:=Wg2 hx;subst this;have hs:=(hT _ _ h1).und.2;have hd:=(hT _ _ h2).und.2;simp at h;subst h;exact⟨.int k (k.wrap n),by simp_all [convert,Wl,Conv.intToInt],WP rfl⟩
 .rename_i s h1 h2;have:=Wlw hx;subst this;have hs:=(hT _ _ h1).und.2;have hd:=(hT _ _ h2).und.2;simp at h;subst h;exact⟨_,by simp[convert,Wl hs,Wl hd]<;>rfl,WP rfl⟩
 .rename_i ty ag et c h1 h2;have hs:=(hT _ _ h1).und.2.1;have hd:=(hT _ _ h2).und.2;split at h
  .rename_i h3;have he:=(hT _ _ h3).und.2;split at h
   .rename_i l;simp at h;subst h;obtain⟨⟨z,hz,hr⟩,_⟩:=hx;simp at hz;subst hz;rcases hr with⟨rfl,bG⟩|⟨b,off,cap,cs,rfl,h4,h5,h6,h7⟩|⟨a,cap,rfl,bG⟩
    rotate_left 2
    .refine⟨_,WqU hs he hd a _,WP ?_⟩;rw[bG];rfl
    .refine⟨_,WiZ hs he hd _ _,WP ?_⟩;rw[bG];rfl
    .have bz:=WiR _ _ h6;exact⟨_,Wnr hs he hd l (λj v hj=>hh.g (h7 j v (by simp_all))),WP rfl⟩
   .simp at h;subst h;obtain⟨hv,_⟩:=hx;simp only[CellRel]at hv;subst hv;exact⟨_,WiZ hs he hd _ _,WP rfl⟩
   .rename_i id;split at h
    .rename_i xs aw;simp at h;subst h;obtain⟨⟨bv,hv⟩,_⟩:=hx;subst hv;obtain⟨S,ho⟩:=hh.obj aw;unfold Nu.hdr;cases bb:(ν id).blk with
     |none=>
      have hn:=Wcz ho bb;refine⟨_,WiZ hs he hd _ _,WP ?_⟩;rw[hn];rfl
     |some b=>
      obtain⟨hlen,h4,h5,h6,cs,h7,h8,h9⟩:=Wdy (e:=.int .u8) rfl ho bb;have bz:=WiR _ _ h7;simp only[←hlen];exact⟨_,Wnr hs he hd xs (λj v hj=>h8 j v (by simp_all)),WP rfl⟩
    grind
   grind
  grind
 grind
theorem WwM{x:Operand}{o:Oper}(ho:o.op= .nilCheck x){ρ:Operand->Value}{p:Addr}(h:ρ x= .pointer (some p)):(execOp ρ o).run P w= .ok (.value (.pointer (some p))) w:=by
 simp[execOp,ho,h]
theorem Wtk{x r:AVal}{u:Value}(hx:AValRel G ν st.nx x u)(h:Wq7 st x=some (true,r)):r=x/\∃p,u= .pointer (some p):=by
 unfold Wq7 at h;split at h
 .simp at h;subst h;obtain⟨⟨b,o,cs,rfl,_⟩,_⟩:=hx;simp_all
 .split at h
  .simp at h;subst h;obtain⟨⟨_,b,_,rfl⟩,_⟩:=hx;simp_all
  grind
 .split at h
  .simp at h;subst h;obtain⟨⟨_,_,b,_,rfl⟩,_⟩:=hx;simp_all
  grind
 .split at h
  .simp at h;subst h;obtain⟨⟨_,b,_,rfl⟩,_⟩:=hx;simp_all
  grind
 grind
theorem WkB(hr:Rel w0 F nt G0 G ν st a w):∀(l:List Operand) (ids:List Nat),WgW st l=some ids->
  ids.length=l.length/\∀(j id:Nat) (u:Value),ids[j]?=some id->(l.map a.eval)[j]?=some u->id<st.nx/\u.oneCell'=true/\∃b,(ν id).blk=some b/\u= .pointer (some ⟨b,(ν id).off+0,none⟩)
 | [],ids,h=>by simp[WgW]at h;simp_all
 |o::l,ids,h=>by
  simp only[WgW]at h;split at h
  .rename_i id r h1 h2;injection h with h;subst h;obtain⟨h3,h4⟩:=WkB hr l r h2;refine⟨by simp[h3],λj i u hj hu=>?_⟩;cases j with
   |zero=>
    simp at hj hu;subst hj hu;obtain⟨⟨g1,g2⟩,g3⟩:=WQ hr o _ h1;simp_all
   |succ j=>grind
  grind
theorem WhG(hT:Wap P T)(hh:HRel w0 F G ν st.objs st.nx w){t:TypeId}{x:AVal}{u:Value}{r:AVal}(hx:AValRel G ν st.nx x u)(h:WhN T st t x=some r):
  Gives P G ν st w (Instr.loadAt t u) r:=by
 unfold WhN at h;split at h
 .rename_i te hl;split at h
  .rename_i hp;split at h
   .rename_i id off;split at h
    .rename_i cs aw;obtain⟨⟨_,b,hb,rfl⟩,_⟩:=hx;obtain⟨S,b',vs,hb',hrow,hmem,bz,_⟩:=hh.obj aw;rw[hb]at hb';injection hb' with hb';subst hb';obtain⟨v,h3,h4⟩:=Whr (hT _ _ hl) hp bz (o:=(ν id).off) hmem h;exact⟨v,by grind [Instr.loadAt,Instr.sureAddr],h4⟩
    grind
   .rename_i id i off;split at h
    .rename_i e xs aw;obtain⟨⟨_,hlt,b,hb,rfl⟩,_⟩:=hx;obtain⟨S,ho⟩:=hh.obj aw;have bV:=ho.2.1;obtain⟨c,p,h1,h2⟩:=Wtn ho hb (by rw[ho.1];exact hlt);obtain⟨v,h9,cN⟩:=Whr (hT _ _ hl) hp (Wik (ν:=ν) (nx:=st.nx) e _ _ _ h1) (w:=w) (b:=b) (o:=(ν id).off+i*e.size) h2 h;exact⟨v,by grind [Instr.loadAt,Instr.sureAddr,Xay],cN⟩
    grind
   .rename_i t' d off;obtain⟨⟨b,o,cs,rfl,h1,h2⟩,_⟩:=hx;obtain⟨v,h9,cN⟩:=Whr (hT _ _ hl) hp (WaP (G:=G) (ν:=ν) (nx:=st.nx) t' d _ h1) (w:=w) (b:=b) (o:=o) (λj v hj=>hh.g (h2 j v hj)) h;exact⟨v,by grind [Instr.loadAt,Instr.sureAddr],cN⟩
   grind
  grind
 grind
theorem Wqw{G:GH}{k:IntKind}:∀(xs:List Int) (cs:List Value),EncL (Enc G (.int k)) xs cs->cs=xs.map λx=>Value.int k x
 | [],cs,h=>h
 |x::xs,cs,⟨c1,c2,h1,h2,h3⟩=>by
  have:c1= [.int k x]:=h2;rw[h1,this,Wqw xs c2 h3];rfl
theorem Wp5{k:IntKind}{xs:List Int}:∀(n i j:Nat),(Wv1 k xs i n)[j]?=if j<n then some (.val (.int k) (xs.getD (i+j) (0:Int)))else none
 |0,i,j=>by simp[Wv1]
 |n+1,i,j=>by
  cases j with
  |zero=>simp[Wv1]
  |succ j=>
   rw[Wv1,List.getElem?_cons_succ,Wp5 n (i+1) j,show i+1+j=i+(j+1) by omega];simp_all
theorem Wqt{k:IntKind}{xs:List Int}:∀(n i:Nat),(Wv1 k xs i n).length=n
 |0,i=>rfl
 |n+1,i=>by rw[Wv1,Xr,Wqt n (i+1)]
theorem Wl8(hT:Wap P T)(hh:HRel w0 F G ν st.objs st.nx w){t:TypeId}{x:AVal}{u:Value}{r:AVal}(hx:AValRel G ν st.nx x u)(h:Wf2 T st t x=some (true,r)):
  Gives P G ν st w (Instr.loadAt t u) r:=by
 unfold Wf2 at h;split at h
 .rename_i k n et hl;split at h
  .rename_i id;split at h
   .rename_i k' xs aw;change List Int at xs;split at h
    .rename_i hk;subst hk;simp only[Option.some.injEq,Prod.mk.injEq,Wh]at h;obtain⟨hn,rfl⟩:=h;obtain⟨⟨_,b,hb,rfl⟩,_⟩:=hx;obtain⟨S,ho⟩:=hh.obj aw;obtain⟨hlen,h4,h5,h6,cs,h7,h8,h9⟩:=Wdy (e:=.int k') rfl ho hb;have bz:=Wqw _ _ h7;have bB:=hT _ _ hl;have qu:(Go.isAgg t).run P w= .ok true w:=bB.isAgg;have hsz:(Go.sizeOf t).run P w= .ok n w:=by have:=bB.sizeOf (w:=w);grind [TE.size,Ty.size]
     have hcl:cs.length=n:=by rw[bz,Xab];exact hn
     have hr:=run_loadCells_list (P:=P) w ⟨b,(ν id).off,none⟩ cs (λj v hj=>by rw[Wa8];exact h8 j v hj);rw[hcl]at hr;refine⟨.agg cs.toArray,?_,cs,rfl,?_,λj c v hj hv=>?_⟩
     .simp_all [Instr.loadAt,Instr.sureAddr,Sem.run_bind,Sem.run_pure,Result.andThen_ok,loadVar,Waq]
     .rw[Wqt,hcl]
     .rw[Wp5]at hj;split at hj
      .rename_i uu;injection hj with hj;subst hj;rw[bz,Xas]at hv;have w8:j<Xa xs:=Nat.lt_of_lt_of_eq uu hn.symm;rw[Xp w8]at hv;simp only[Xbz]at hv;injection hv with hv;subst hv;refine⟨?_,rfl⟩;simp[CellRel,Enc,w8]
      .cases hj
    grind
   grind
  grind
 grind
end
section
variable{w0:World}{F:CS}{nt:Slots}{G0 G:GH}{ν:Nat->Nu}{st:St}{a:Act}{w:World}{P:Program}{T:Tab}
theorem Wb8{o:Oper}{s:Sem Value}{r:AVal}(he:execOp a.eval o=(do pure (.value (←s))))(h:Gives P G ν st w s r):
  ∃v,(execOp a.eval o).run P w= .ok (.value v) w/\AValRel G ν st.nx r v:=by
 obtain⟨v,h1,h2⟩:=h;simp_all
theorem Wct{α β:Type}{x:Option α}{f:α->Option (Bool×β)}{r:β}(h:x.bind f=some (true,r)):∃y,x=some y/\f y=some (true,r):=by
 cases x with
 |none=>simp at h
 |some y=>simp_all
theorem WoK(hT:Wap P T)(hh:HRel w0 F G ν st.objs st.nx w){op:BinOp}{t:TypeId}{x y:AVal}{u v:Value}{r:AVal}(ox oy:Operand)(hx:AValRel G ν st.nx x u)(hy:AValRel G ν st.nx y v)
  (h:WqQ T st op t x y=some (true,r)):Gives P G ν st w (do eqGuard op t ox oy u v;Go.binOp op t u v) r:=by
 unfold WqQ at h;split at h
 .rename_i id;split at h
  .rename_i te e hl;have hu:=(hT _ _ hl).und.2.1;obtain⟨⟨_,hv⟩,_⟩:=hx;subst hv;obtain⟨hn,_⟩:=hy;simp only[CellRel]at hn;subst hn;split at h
   .rename_i e' xs ho;have key:∀n:Nat,Xgp 0 xs.length=true->(Op.equalIn (n+1) t (ν id).hdr (.slice none 0 0)).run P w= .ok false w:=λn hb=>by
     have hne:xs≠ []:=by rintro rfl;simp at hb
     obtain⟨S,aw⟩:=hh.obj ho;have hd:∃g,(ν id).hdr= .slice (some g) (ν id).len (ν id).cap:=by
      unfold Nu.hdr;obtain⟨hlen,_,aw⟩:=aw;cases hb:(ν id).blk with
      |none=>simp_all
      |some g=>simp_all
     obtain⟨g,hd⟩:=hd;simp_all [Op.equalIn,Wl]
    have hg:∀op,(eqGuard op t ox oy (ν id).hdr (.slice none 0 0)).run P w= .ok () w:=λop=>Wb1 (λcs=>by unfold Nu.hdr;split<;>exactλh=>nomatch h) (by unfold Nu.hdr;split<;>exactλh=>nomatch h);split at h
    .simp only[Option.some.injEq,Prod.mk.injEq]at h;obtain⟨h1,rfl⟩:=h;exact⟨.bool false,by simp[hg,Go.binOp,Op.equal,Op.maxDepth,show(Op.equalIn 10000 t (ν id).hdr (.slice none 0 0)).run P w= .ok false w from key 9999 h1],WP rfl⟩
    .simp only[Option.some.injEq,Prod.mk.injEq]at h;obtain⟨h1,rfl⟩:=h;exact⟨.bool true,by simp[hg,Go.binOp,Op.equal,Op.maxDepth,show(Op.equalIn 10000 t (ν id).hdr (.slice none 0 0)).run P w= .ok false w from key 9999 h1],WP rfl⟩
    grind
   grind
  grind
 grind
theorem Wq0(hT:Wap P T)(hr:Rel w0 F nt G0 G ν st a w){o:Oper}{r:AVal}(h:Wan T st o.op=some (true,r)):
  ∃v,(execOp a.eval o).run P w= .ok (.value v) w/\AValRel G ν st.nx r v:=by
 obtain⟨dst,op,type,pos,after,guard⟩:=o;simp only at h;unfold Wan at h;split at h
 .rename_i x;cases hx:ev st x with
  |none=>simp_all
  |some v=>simp[hx]at h;subst h;exact⟨_,rfl,WQ hr x _ hx⟩
 .rename_i x;cases hx:ev st x with
  |none=>simp_all
  |some v=>simp[hx]at h;subst h;exact⟨_,rfl,WQ hr x _ hx⟩
 .rename_i c x y;split at h
  .rename_i p h1;cases hc:ev st c with
   |none=>simp_all
   |some cv=>
    simp[hc]at h1;have e1:=Wpd _ _ _ (WQ hr c _ hc) h1;split at h
    .rename_i m n h2 h3;simp at h;subst h;have e2:=Wli (WQ hr x _ h2);have e3:=Wli (WQ hr y _ h3);refine⟨.bool (bif p then m else n),?_,WP rfl⟩;simp only[execOp,e1,e2,e3,asBool];cases p<;>rfl
    .cases p with
     |true=>
      cases hx:ev st x with
      |none=>simp_all
      |some v=>simp[hx]at h;subst h;exact⟨a.eval x,by simp_all [execOp,asBool],WQ hr x _ hx⟩
     |false=>
      cases hx:ev st y with
      |none=>simp_all
      |some v=>simp[hx]at h;subst h;exact⟨a.eval y,by simp_all [execOp,asBool],WQ hr y _ hx⟩
  grind
 .rename_i t x;obtain⟨y,hy,h⟩:=Wct h;cases ha:Wf2 T st t y with
  |some z=>rw[ha]at h;simp only[]at h;injection h with h;subst h;exact Wb8 rfl (Wl8 hT hr.h (WQ hr x _ hy) ha)
  |none=>
   rw[ha]at h;cases hl:WhN T st t y with
   |none=>simp_all
   |some z=>simp[hl]at h;subst h;exact Wb8 rfl (WhG hT hr.h (WQ hr x _ hy) hl)
 .rename_i x;obtain⟨y,hy,h⟩:=Wct h;obtain⟨rfl,p,hp⟩:=Wtk (WQ hr x _ hy) h;exact⟨_,WwM rfl hp,by grind [WQ]⟩
 .rename_i op t x y _;split at h
  .rename_i u v h1 h2;split at h
   .rename_i z hz;injection h with h;subst h;exact Wb8 rfl (WoK hT hr.h x y (WQ hr x _ h1) (WQ hr y _ h2) hz)
   .exact Wb8 rfl (WoP hT x y (WQ hr x _ h1) (WQ hr y _ h2) h)
  grind
 .rename_i op t x;obtain⟨y,hy,h⟩:=Wct h;exact Wb8 rfl (WqT (WQ hr x _ hy) h)
 .rename_i src dst x;obtain⟨y,hy,h⟩:=Wct h;exact Wb8 rfl (Wn7 hT hr.h (WQ hr x _ hy) h)
 .rename_i t x lo hi;obtain⟨y,hy,h⟩:=Wct h;exact Wb8 rfl (Wmc hT (WQ hr x _ hy) (λl hl=>Wdm hr lo l hl) (λl hl=>Wdm hr hi l hl) h)
 .rename_i s x f;obtain⟨y,hy,h⟩:=Wct h;exact Wb8 rfl (Wg3 hT hr.h (WQ hr x _ hy) h)
 .rename_i s x f;obtain⟨y,hy,h⟩:=Wct h;exact Wb8 rfl (WlX hT (WQ hr x _ hy) h)
 .rename_i t x i;split at h
  .rename_i u v h1 h2;exact Wb8 rfl (Whl hT hr.h (WQ hr x _ h1) (WQ hr i _ h2) h)
  grind
 .rename_i t x i;split at h
  .rename_i u v h1 h2;exact Wb8 rfl (WlO hT (WQ hr x _ h1) (WQ hr i _ h2) h)
  grind
 .rename_i t ix;split at h
  .rename_i xs h1;cases hx:xs[ix]? with
   |none=>simp_all
   |some y=>
    simp[hx]at h;subst h;obtain⟨vs,hv,hl,fh⟩:=WQ hr t _ h1;have hlt:ix<vs.length:=by grind
    exact Wb8 rfl ⟨vs[ix],by simp[hv,Instr.extract,hlt],fh ix y _ hx (Xp hlt)⟩
  grind
 .rename_i f first captured
  split at h
  .rename_i hf;cases hc:WgW st captured.toList with
   |none=>simp_all
   |some ids=>
    simp[hc]at h;subst h;obtain⟨h1,h2⟩:=WkB hr _ _ hc;have mC:first= #[]:=by simp_all
    subst mC;refine Wb8 rfl ⟨.func (.func f) #[] (captured.map a.eval),by simp[Instr.makeFunc],⟨captured.toList.map a.eval,?_,?_,h2⟩,rfl⟩
    .apply Wk
     grind
    grind
  grind
 .rename_i c;obtain⟨callee,args,argTypes⟩:=c;obtain⟨args⟩:=args;obtain⟨argTypes⟩:=argTypes;simp only at h;split at h
  .rename_i x t;obtain⟨y,hy,h⟩:=Wct h;obtain⟨v,h1,h2⟩:=WoO (ty:=type) hT hr.h (WQ hr x _ hy) h;refine⟨v,?_,h2⟩;simp only[execOp,resolve,invoke,builtin,Sem.run_bind,Sem.run_pure,Result.andThen_ok,Xdz,Xae,Xbt,h1]
  .rename_i x y _ _;split at h
   .rename_i k m k' n h1 h2;split at h
    .rename_i hk;subst hk;simp at h;subst h;have e1:=Wg2 (WQ hr x _ h1);have e2:=Wg2 (WQ hr y _ h2);refine⟨.int k (WyY m n),?_,WP rfl⟩;simp only[execOp,resolve,invoke,builtin,Sem.run_bind,Sem.run_pure,Result.andThen_ok,Xdz,Xae,Xbt,e1,e2,Builtin.min_];rfl
    grind
   grind
  .rename_i x y _ _;split at h
   .rename_i k m k' n h1 h2;split at h
    .rename_i hk;subst hk;simp at h;subst h;have e1:=Wg2 (WQ hr x _ h1);have e2:=Wg2 (WQ hr y _ h2);refine⟨.int k (Wxp m n),?_,WP rfl⟩;simp only[execOp,resolve,invoke,builtin,Sem.run_bind,Sem.run_pure,Result.andThen_ok,Xdz,Xae,Xbt,e1,e2,Builtin.max_];rfl
    grind
   grind
  grind
 grind
end
end Go.Sx
namespace Go.Sx
set_option linter.unusedVariables false
set_option linter.unusedSimpArgs false
section
variable{w0:World}{F:CS}{nt:Slots}{G0 G G':GH}{ν ν':Nat->Nu}{φ φ':Nat->CS}{objs objs':Wak}{nx ah:Nat}{w w':World}{P:Program}{T:Tab}
theorem Live.of{id:Nat}{ob:Ob}(h:look objs id=some ob)(hd:ob≠ .dead):Live objs id:=⟨ob,h,hd⟩
theorem WL{α:Type}(k:Nat)(v:α)(l:List (Nat×α))(i:Nat):look ((k,v)::l) i=if k=i then some v else look l i:=by
 simp only[look];by_cases h:k=i
 .subst h;simp
 .have:Xbu k i=false:=by
   grind [Xbu,absurd,Xcl]
  rw[this,Wa h]
theorem WbF{α:Type}:∀(l m:List (Nat×α)) (i:Nat),look (l++m) i=match look l i with
  |some x=>some x
  |none=>look m i
 | [],m,i=>rfl
 |(k,v)::l,m,i=>by
  rw[List.cons_append,WL,WL];split
  .rfl
  .exact WbF l m i
theorem HR.blk_lt_g(h:HR w0 F G ν φ objs nx w){b o:Nat}{v:Value}(hg:G b o=some v):b<w.heap.size:=block_lt_of_cell (h.g b o v hg)
theorem WLe.refl(S:CS)(w:World):WLe S w w:=⟨Xm _,λ_ vs _ h=>⟨vs,h,rfl⟩,λ_ _ _ _=>rfl,λ_ _ _=>rfl,rfl,rfl,rfl⟩
theorem WLe.mono{S S':CS}(h:WLe S w w')(hl:CS.le S S'):WLe S' w w':=
 ⟨h.size,h.row,λb o hb hn=>h.cell b o hb (λhs=>hn (hl b o hs)),λb hb hn=>h.whole b hb (λo hs=>hn o (hl b o hs)),h.os,h.output,h.tape⟩
theorem WLe.same{S S':CS}(h:WLe S w w')(hd:CS.disj S S')(hb:∀b o,S' b o->b<w.heap.size):Same S' w w':=
 ⟨λb n ⟨vs,T,h1,h2⟩=>by obtain⟨vs',h3,h4⟩:=h.row b vs T h1;exact⟨vs',T,h3,by omega⟩,λb o hs=>h.cell b o (hb b o hs) (λcP=>hd b o cP hs)⟩
theorem WLe.rows{S:CS}(h:WLe S w w'):Same (λ_ _=>False) w w':=
 ⟨λb n ⟨vs,T,h1,h2⟩=>by obtain⟨vs',h3,h4⟩:=h.row b vs T h1;exact⟨vs',T,h3,by omega⟩,λ_ _ hs=>hs.elim⟩
theorem WLe.trans{S S':CS}{w1 w2 w3:World}(h:WLe S w1 w2)(h':WLe S' w2 w3)(hs:∀b o,S' b o->w1.heap.size<=b\/S b o):WLe S w1 w3 where
 size:=Xco h.size h'.size
 row b vs T hb:=by
  obtain⟨vs',h1,h2⟩:=h.row b vs T hb;obtain⟨vs2,h3,h4⟩:=h'.row b vs' T h1;simp_all
 cell b o hb hn:=by
  rw[h'.cell b o (Xbk hb h.size) (λcP=>by grind)];exact h.cell b o hb hn
 whole b hb hn:=by
  rw[h'.whole b (Xbk hb h.size) (λo cP=>by grind)];exact h.whole b hb hn
 os:=h'.os.trans h.os
 output:=h'.output.trans h.output
 tape:=h'.tape.trans h.tape
theorem WLe.alloc(S:CS)(wd:World)(o:Obj)(hh:wd.heap=w.heap)(qv:wd.os=w.os)(iS:wd.output=w.output)(fi:wd.tape=w.tape):WLe S w (wd.alloc o) where
 size:=by simp[hh]
 row b vs T hb:=by
  have hlt:b<w.heap.size:=(Array.getElem?_eq_some_iff.1 hb).1;exact⟨vs,by grind [heap_alloc_old],rfl⟩
 cell b o' hb _:=World.cell?_of_block (by show(wd.alloc o).heap[b]?=w.heap[b]?;rw[heap_alloc_old wd o (by simp_all),hh])
 whole b hb _:=by rw[heap_alloc_old wd o (by simp_all),hh]
 os:=qv
 output:=iS
 tape:=fi
theorem WLe.setRow{S:CS}{b:Nat}{vs us:Array Value}{T:TypeId}(h:w.heap[b]?=some (Obj.cells vs T (0,0)))(hsz:us.size=vs.size)(hc:∀o,¬S b o->us[o]?=vs[o]?):WLe S w (w.setRow b us) where
 size:=by simp
 row k vs' T' hk:=by
  by_cases e:k=b
  .grind [setRow_heap]
  .exact⟨vs',by grind [setRow_other],rfl⟩
 cell k o hk hn:=by
  by_cases e:k=b
  .subst e;rw[cell_of_row _ k o us T (0,0) (setRow_heap w k vs us T (0,0) h),cell_of_row w k o vs T (0,0) h]
   grind
  grind [World.cell?_of_block,setRow_other]
 whole k hk hn:=by
  by_cases e:k=b
  .subst e;have:us=vs:=Array.ext_getElem? λo=>hc o (hn o);rw[setRow_heap w k vs us T (0,0) h,h,this]
  grind [setRow_other]
 os:=rfl
 output:=rfl
 tape:=rfl
def WwY(φ:Nat->CS)(objs:Wak):CS:=λb o=>∃id,Live objs id/\φ id b o
theorem HR.step(h:HR w0 F G ν φ objs nx w)(hw:WLe (WwY φ objs) w w')
  (aw:∀id ob,look objs' id=some ob->ob≠ .dead->WcG G ν' ah w' id (φ' id) ob)
  (hlt:∀id,Live objs' id->id<ah)
  (cY:∀id b o,Live objs' id->φ' id b o->WwY φ objs b o\/w.heap.size<=b)
  (hbl:∀id b o,Live objs' id->φ' id b o->b<w'.heap.size)
  (uv:∀id bJ b o,Live objs' id->Live objs' bJ->φ' id b o->φ' bJ b o->id=bJ):
  HR w0 F G ν' φ' objs' ah w' where
 g b o v hg:=by
  rw[hw.cell b o (h.blk_lt_g hg) (λ⟨id,hl,hp⟩=>by rw[h.gf id b o hl hp]at hg;cases hg)];exact h.g b o v hg
 ob id ob ho:=by
  by_cases hd:ob= .dead
  .subst hd;trivial
  simp_all
 gf id b o hl hp:=by
  rcases cY id b o hl hp with⟨uw,hl0,kX⟩|fB
  .exact h.gf uw b o hl0 kX
  .cases hg:G b o with
   |none=>rfl
   |some v=>have:=h.blk_lt_g hg;omega
 inj:=uv
 own id b o hl hp:=by
  rcases cY id b o hl hp with⟨uw,hl0,kX⟩|fB
  .exact h.own uw b o hl0 kX
  .exact .inl (Xco h.le.size fB)
 lt:=hlt
 bl:=hbl
 le:=h.le.trans hw (λb o ⟨id,hl,hp⟩=>h.own id b o hl hp)
def WxX(φ:Nat->CS)(i:Nat)(S:CS):Nat->CS:=λj=>if j=i then S else φ j
theorem Wiq(φ:Nat->CS)(i:Nat)(S:CS):WxX φ i S i=S:=by simp[WxX]
theorem Wga(φ:Nat->CS){i j:Nat}(S:CS)(h:j≠i):WxX φ i S j=φ j:=by simp[WxX,h]
theorem WeH:∀(l:List Nat) (id:Nat) (ob:Ob),look (kill objs l) id=some ob->ob≠ .dead->look objs id=some ob/\id∉l
 | [],id,ob,h,_=>⟨h,by simp⟩
 |i::l,id,ob,h,hd=>by
  simp only[kill]at h;rw[WL]at h;split at h
  .simp_all
  .rename_i hne;obtain⟨h1,h2⟩:=WeH l id ob h hd
   grind
theorem WdA{l:List Nat}{id:Nat}(h:Live (kill objs l) id):Live objs id/\id∉l:=by
 obtain⟨ob,h1,h2⟩:=h;obtain⟨h3,h4⟩:=WeH l id ob h1 h2;exact⟨⟨ob,h3,h2⟩,h4⟩
def Wyl(φ:Nat->CS)(objs:Wak)(t:Nat)(m:List Nat):CS:=λb o=>∃i,(i=t\/i∈m)/\Live objs i/\φ i b o
theorem HR.put(h:HR w0 F G ν φ objs nx w){t:Nat}{m:List Nat}{ob:Ob}{S:CS}(hn:Ws7 nx ν ν')(hx:nx<=ah)(ht:t<ah)
  (hw:WLe (Wyl φ objs t m) w w') (hS:∀b o,S b o->Wyl φ objs t m b o\/(w.heap.size<=b/\b<w'.heap.size))
  (cQ:ob≠ .dead->WcG G ν' ah w' t S ob):HR w0 F G ν' (WxX φ t S) ((t,ob)::kill objs m) ah w':=by
 have hl:∀id cC,look ((t,ob)::kill objs m) id=some cC->cC≠ .dead->(id=t/\cC=ob)\/(id≠t/\id∉m/\look objs id=some cC):=λid cC ho hd=>by
  grind [WL,WeH]
 have lw:∀id,Live ((t,ob)::kill objs m) id->(id=t)\/(id≠t/\id∉m/\Live objs id):=λid ⟨cC,ho,hd⟩=>by
  rcases hl id cC ho hd with⟨h1,h2⟩|⟨h1,h2,h3⟩
  .omega
  .exact .inr ⟨h1,h2,cC,h3,hd⟩
 refine h.step (hw.mono λb o ⟨i,_,h1,h2⟩=>⟨i,h1,h2⟩) (λid cC ho hd=>?_) (λid aC=>?_) (λid b o aC hp=>?_) (λid b o aC hp=>?_) (λid bJ b o aC fY hp dC=>?_)
 .rcases hl id cC ho hd with⟨h1,h2⟩|⟨h1,h2,h3⟩
  .grind [Wiq]
  .rw[Wga φ S h1];have aC:Live objs id:=⟨cC,h3,hd⟩;refine WdJ (λ_ _ _ hh=>hh) (hw.same (λb o ⟨i,hi,ux,yV⟩ hp=>?_) (λb o hp=>h.bl id b o aC hp)) (λ_ _ hh=>hh) hn hx (h.lt id aC) cC (h.ob id cC h3);have:=h.inj i id b o ux aC yV hp;simp_all
 .rcases lw id aC with h1|⟨_,_,h3⟩
  .omega
  .exact Xbk (h.lt id h3) hx
 .rcases lw id aC with h1|⟨h1,_,h3⟩
  .subst h1;rw[Wiq]at hp;rcases hS b o hp with⟨i,_,h4,h5⟩|h4
   .exact .inl ⟨i,h4,h5⟩
   omega
  .rw[Wga φ S h1]at hp;exact .inl ⟨id,h3,hp⟩
 .rcases lw id aC with h1|⟨h1,_,h3⟩
  .subst h1;rw[Wiq]at hp;rcases hS b o hp with⟨i,_,h4,h5⟩|h4
   .exact Xbk (h.bl i b o h4 h5) hw.size
   omega
  .rw[Wga φ S h1]at hp;exact Xbk (h.bl id b o h3 hp) hw.size
 .have key:∀bJ,bJ≠t->bJ∉m->Live objs bJ->φ bJ b o->S b o->False:=λbJ h1 h2 h3 h4 h5=>by
   rcases hS b o h5 with⟨i,hi,h6,h7⟩|h6
   .have:=h.inj i bJ b o h6 h3 h7 h4;simp_all
   .have:=h.bl bJ b o h3 h4;omega
  rcases lw id aC with h1|⟨h1,h2,h3⟩<;>rcases lw bJ fY with jq|⟨jq,jt,cS⟩
  .rw[h1,jq]
  .simp_all [Wiq,Wga]
  .simp_all [Wiq,Wga]
  .rw[Wga φ S h1]at hp;rw[Wga φ S jq]at dC;exact h.inj id bJ b o h3 cS hp dC
theorem HR.drew(h:HR w0 F G ν φ objs nx w):HR w0 F G ν φ objs nx w.drew:=by
 have hw:WLe (WwY φ objs) w w.drew:=⟨Xm _,λ_ vs _ h=>⟨vs,h,rfl⟩,λ_ _ _ _=>rfl,λ_ _ _=>rfl,rfl,rfl,rfl⟩;exact h.step hw (λid ob ho _=>WdJ (w:=w) (w':=w.drew) (S:=φ id) (λ_ _ _ hh=>hh) ⟨λ_ _ hh=>hh,λ_ _ _=>rfl⟩ (λ_ _ hh=>hh) (λ_ _=>rfl) (Xm _) (h.lt id ⟨ob,ho,by assumption⟩) ob (h.ob id ob ho))
  h.lt (λid b o hl hp=>.inl ⟨id,hl,hp⟩) (λid b o hl hp=>h.bl id b o hl hp) h.inj
theorem HRel.drew(h:HRel w0 F G ν objs nx w):HRel w0 F G ν objs nx w.drew:=by
 obtain⟨φ,h⟩:=h;exact⟨φ,h.drew⟩
end
section
variable{w0:World}{F:CS}{nt:Slots}{G0 G G':GH}{ν ν':Nat->Nu}{st:St}{a:Act}{w w':World}{P:Program}{T:Tab}
theorem Rel.put(h:Rel w0 F nt G0 G ν st a w){dst:Option Tmp}(hd:∀d,dst=some d->nt.Ok d){x:AVal}{v:Value}(hx:AValRel G ν st.nx x v):Rel w0 F nt G0 G ν (st.put dst x) (a.put dst v) w:=by
 cases dst with
 |none=>exact h
 |some d=>
  have hlt:d<a.tmps.size:=by rw[h.ntm];exact(hd d rfl).1
  refine⟨h.defers,by simpa [Act.put]using h.ntm,λp hp=>?_,λi y hy=>?_,h.h,h.gx⟩
  .simp only[Act.put];rw[Xfc (λe=>(hd d rfl).2 p hp e.symm)];exact h.par p hp
  simp only[St.put]at hy;rw[WL]at hy;split at hy
  .rename_i e;subst e;injection hy with hy;subst hy;exact⟨v,by simp[Act.put,hlt],hx⟩
  .rename_i hne;obtain⟨u,hu,hr⟩:=h.env i y hy;exact⟨u,by grind [Act.put,Xfc],hr⟩
theorem Rel.on(h:Rel w0 F nt G0 G ν st a w){objs':Wak}{ah:Nat}(hg:GLe G G')(hn:Ws7 st.nx ν ν')(hx:st.nx<=ah)
  (hh:HRel w0 F G' ν' objs' ah w') (gx:GExt w0.heap.size F G0 G'):Rel w0 F nt G0 G' ν' {env:=st.env,objs:=objs',nx:=ah} a w':=
 ⟨h.defers,h.ntm,h.par,λi y hy=>by
  obtain⟨u,hu,hr⟩:=h.env i y hy
  grind [AValRel.mono],hh,gx⟩
def upd(ν:Nat->Nu)(i:Nat)(n:Nu):Nat->Nu:=λj=>if j=i then n else ν j
theorem WfG(ν:Nat->Nu)(i:Nat)(n:Nu):Ws7 i ν (upd ν i n):=λj hj=>by simp[upd];omega
theorem WbD(ν:Nat->Nu)(i:Nat)(n:Nu):upd ν i n i=n:=by simp[upd]
theorem Rel.lay(h:Rel w0 F nt G0 G ν st a w){dst:Option Tmp}(hd:∀d,dst=some d->nt.Ok d){objs':Wak}{ah:Nat}(hn:Ws7 st.nx ν ν')(hx:st.nx<=ah)
  (hh:HRel w0 F G ν' objs' ah w') {x:AVal} {v:Value} (hv:AValRel G ν' ah x v):Rel w0 F nt G0 G ν' (({env:=st.env,objs:=objs',nx:=ah}:St).put dst x) (a.put dst v) w':=
 (h.on (λ_ _ _ hh=>hh) hn hx hh h.gx).put hd hv
theorem Rel.fresh(h:Rel w0 F nt G0 G ν st a w){dst:Option Tmp}(hd:∀d,dst=some d->nt.Ok d)(m:List Nat)(ob:Ob)(nu:Nu)(S:(Nat->CS)->CS)(x:AVal)(v:Value)
  (hw:∀φ,HR w0 F G ν φ st.objs st.nx w->WLe (Wyl φ st.objs st.nx m) w w') (hS:∀φ,HR w0 F G ν φ st.objs st.nx w->∀b o,S φ b o->Wyl φ st.objs st.nx m b o\/(w.heap.size<=b/\b<w'.heap.size))
  (cQ:∀φ,HR w0 F G ν φ st.objs st.nx w->WcG G (upd ν st.nx nu) (st.nx+1) w' st.nx (S φ) ob)
  (hv:AValRel G (upd ν st.nx nu) (st.nx+1) x v):
  Rel w0 F nt G0 G (upd ν st.nx nu) (({env:=st.env,objs:=(st.nx,ob)::kill st.objs m,nx:=st.nx+1}:St).put dst x) (a.put dst v) w':=by
 obtain⟨φ,hφ⟩:=h.h;exact h.lay hd (WfG ν st.nx nu) (Xdh _) ⟨_,hφ.put (WfG ν st.nx nu) (Xdh _) (Xbv _) (hw φ hφ) (hS φ hφ) (λ_=>cQ φ hφ)⟩ hv
theorem Rel.new(h:Rel w0 F nt G0 G ν st a w){dst:Option Tmp}(hd:∀d,dst=some d->nt.Ok d)(ob:Ob)(nu:Nu)(x:AVal)(v:Value)
  (hw:WLe (λ_ _=>False) w w')
  (cQ:WcG G (upd ν st.nx nu) (st.nx+1) w' st.nx (λb _=>w.heap.size<=b/\b<w'.heap.size) ob)
  (hv:AValRel G (upd ν st.nx nu) (st.nx+1) x v):
  Rel w0 F nt G0 G (upd ν st.nx nu) (st.new dst ob x) (a.put dst v) w':=
 h.fresh hd [] ob nu (λ_ b _=>w.heap.size<=b/\b<w'.heap.size) x v (λφ _=>hw.mono λ_ _ hh=>hh.elim) (λφ _ b o hs=>.inr hs) (λφ _=>cQ) hv
end
end Go.Sx
namespace Go.Sx
set_option linter.unusedVariables false
set_option linter.unusedSimpArgs false
theorem Wup{v:Value}(h:v.oneCell'=true):v.cells= #[v]:=by
 cases v<;>first|rfl|simp[Value.oneCell']at h
section
variable{w0:World}{F:CS}{nt:Slots}{G0 G:GH}{ν:Nat->Nu}{objs:Wak}{nx:Nat}{st:St}{a:Act}{w w':World}{P:Program}{T:Tab}
theorem WyG:∀(t:Ty),t.data=true->Enc G t t.dflt (WbK t)
 | .int _,_=>rfl
 | .bool,_=>rfl
 | .str,_=>rfl
 | .slice e,_=>⟨_,rfl,.inl ⟨rfl,rfl⟩⟩
 | .own _,h=>by simp[Ty.data]at h
 | .prod a b,h=>by
  simp only[Ty.data,Xi]at h;exact⟨_,_,rfl,WyG a h.1,WyG b h.2⟩
theorem Wyu:∀(t:Ty),CellsRel G ν nx (WeK t) (WbK t)
 | .int _=>CellsRel.one rfl rfl
 | .bool=>CellsRel.one rfl rfl
 | .str=>CellsRel.one rfl rfl
 | .slice e=>CellsRel.one rfl rfl
 | .own _=>CellsRel.one trivial rfl
 | .prod a b=>(Wyu a).append (Wyu b)
theorem Wby:∀(t:Ty),(WbK t).length=t.size
 | .int _| .bool| .str| .slice _| .own _=>rfl
 | .prod a b=>by simp[WbK,Wby a,Wby b,Ty.size]
theorem WlU{α:Type}(l:List α):∀n,(rep l n).length=n*l.length
 |0=>by simp[rep]
 |n+1=>by rw[rep,Xs,WlU l n,Xcf,Xda]
theorem Whb{e:Ty}(h:e.data=true):∀n,EncL (Enc G e) (Xu n e.dflt) (rep (WbK e) n)
 |0=>rfl
 |n+1=>⟨_,_,rfl,WyG e h,Whb h n⟩
theorem Wfe{t:TypeId}{te:TE}(bB:TEok P T t te):∃z,(zeroValue t).run P w= .ok z w/\z.cells.toList=te.cells:=by
 obtain⟨i,z,hi,_,hz,hc,_⟩:=bB.info;simp_all [zeroValue,WhM]
theorem WbL{te:TE}(h:te.plain=true):te.cells=WbK te.ty:=by
 unfold TE.plain at h;unfold TE.cells;split at h<;>simp_all
theorem Wlu(w:World)(o:Obj):(w.alloc o).heap[w.heap.size]?=some o:=heap_alloc_new w o
theorem zty:∀(t:Ty),∃ps,TyRel G w t t.dflt (WbK t.ro) ps/\∀p∈ps,p.fp= λ_ _=>False
 | .int _=>⟨[],⟨rfl,rfl⟩,by simp⟩
 | .bool=>⟨[],⟨rfl,rfl⟩,by simp⟩
 | .str=>⟨[],⟨rfl,rfl⟩,by simp⟩
 | .slice e=>⟨[],⟨rfl,_,rfl,.inl ⟨rfl,rfl⟩⟩,by simp⟩
 | .own e=>⟨[⟨⟨none,0,0,0,e.size⟩,λ_ _=>False⟩],⟨_,rfl,rfl,rfl,rfl,rfl⟩,by simp⟩
 | .prod a b=>by
  obtain⟨p1,h1,h2⟩:=zty a;obtain⟨p2,h3,h4⟩:=zty b;refine⟨p1++p2,⟨_,_,p1,p2,rfl,rfl,h1,h3⟩,λp hp=>?_⟩
  grind
theorem WvV(e:Ty):∀n,∃ps,EncP (TyRel G w e) (Xu n e.dflt) (rep (WbK e.ro) n) ps/\∀p∈ps,p.fp= λ_ _=>False
 |0=>⟨[],⟨rfl,rfl⟩,by simp⟩
 |n+1=>by
  obtain⟨p1,h1,h2⟩:=zty (G:=G) (w:=w) e;obtain⟨p2,h3,h4⟩:=WvV e n;refine⟨p1++p2,⟨_,_,p1,p2,rfl,rfl,h1,h3⟩,λp hp=>?_⟩
  grind
theorem WnJ:∀(ps:List Pc),(∀p∈ps,p.fp= λ_ _=>False)->Sep (ps.map Pc.fp)
 | [],_=>List.Pairwise.nil
 |p::ps,h=>Xv.2 ⟨λs _ b o hb _=>by simp_all,WnJ ps λq hq=>h q (Xe _ hq)⟩
theorem Wr6(h:Rel w0 F nt G0 G ν st a w){dst:Option Tmp}(hd:∀d,dst=some d->nt.Ok d){cs:List Cell}{vs:Array Value}{t:TypeId}(hc:CellsRel G ν st.nx cs vs.toList):
  ∃ν',Rel w0 F nt G0 G ν' (st.new dst (.box cs) (.s (.one (.ptr st.nx 0)))) (a.put dst (.pointer (some ⟨w.heap.size,0,none⟩))) (w.alloc (.cells vs t)):=by
 refine⟨upd ν st.nx ⟨some w.heap.size,0,0,0,0⟩,h.new hd (.box cs) _ _ _ (WLe.alloc _ w _ rfl rfl rfl rfl) ?_ ?_⟩
 .have hl:vs.size=cs.length:=by have:=hc.1;omega
  refine⟨w.heap.size,vs.toList,by rw[WbD],⟨vs,t,Wlu w _,by grind [WbD]⟩,?_,hc.mono (λ_ _ _ hh=>hh) (WfG _ _ _) (Xdh _),λb o ⟨hb,_⟩=>by simp_all⟩;rw[WbD];exact WsH (Wlu w _) (λj v hj=>by simp_all)
 .exact⟨⟨Xbv _,w.heap.size,by rw[WbD],by rw[WbD]⟩,rfl⟩
def FromL(φ:Nat->CS)(objs:Wak)(m:List Nat):CS:=λb o=>∃i∈m,Live objs i/\φ i b o
theorem Wib(h:Rel w0 F nt G0 G ν st a w){dst:Option Tmp}(hd:∀d,dst=some d->nt.Ok d)(m:List Nat){e:Ty}{xs:List e.den}{cap:Nat}{vs:Array Value}{t:TypeId}{cs:List Value}(hx:xs.length<=cap)(gJ:cap<=maxLen)
  (hsz:vs.size=cap*e.size) (hc:∀φ,HR w0 F G ν φ st.objs st.nx w->∃ps,EncP (TyRel G w e) xs cs ps/\Sep (ps.map Pc.fp)/\∀p∈ps,CS.le p.fp (FromL φ st.objs m)) (hp:cs<+:vs.toList)
  (wd:World) (tP:wd.heap=w.heap) (qv:wd.os=w.os) (iS:wd.output=w.output) (fi:wd.tape=w.tape):
  (∃ν',Rel w0 F nt G0 G ν' (({env:=st.env,objs:=(st.nx,.arr e xs)::kill st.objs m,nx:=st.nx+1}:St).put dst (.s (.one (.own st.nx)))) (a.put dst (.slice (some ⟨w.heap.size,0,none⟩) xs.length cap)) (wd.alloc (.cells vs t)))/\
  (∃ν',Rel w0 F nt G0 G ν' (({env:=st.env,objs:=(st.nx,.arr e xs)::kill st.objs m,nx:=st.nx+1}:St).put dst (.s (.one (.aptr st.nx)))) (a.put dst (.pointer (some ⟨w.heap.size,0,none⟩))) (wd.alloc (.cells vs t))):=by
 have mD:(wd.alloc (.cells vs t)).heap[w.heap.size]?=some (Obj.cells vs t (0,0)):=by grind [Wlu]
 have key:∀(x:AVal) (v:Value),AValRel G (upd ν st.nx ⟨some w.heap.size,0,xs.length,cap,e.size⟩) (st.nx+1) x v->
   ∃ν',Rel w0 F nt G0 G ν' (({env:=st.env,objs:=(st.nx,.arr e xs)::kill st.objs m,nx:=st.nx+1}:St).put dst x) (a.put dst v) (wd.alloc (.cells vs t)):=λx v hv=>by
  refine⟨upd ν st.nx ⟨some w.heap.size,0,xs.length,cap,e.size⟩,h.fresh hd m (.arr e xs) _ (λφ b o=>FromL φ st.objs m b o\/b=w.heap.size) x v (λφ _=>WLe.alloc _ wd _ tP qv iS fi) (λφ hφ b o hs=>?_) (λφ hφ=>?_) hv⟩
  .rcases hs with⟨i,hi,h1,h2⟩|hs
   .exact .inl ⟨i,.inr hi,h1,h2⟩
   simp_all
  .obtain⟨ps,h1,h2,h3⟩:=hc φ hφ;have hbl:∀p∈ps,∀b o,p.fp b o->b<w.heap.size:=λp dC b o hh=>by
    obtain⟨i,_,g1,g2⟩:=h3 p dC b o hh;exact hφ.bl i b o g1 g2
   show OwnL (wd.alloc (.cells vs t)) (TyRel G _ e) e.size (upd ν st.nx ⟨some w.heap.size,0,xs.length,cap,e.size⟩ st.nx) xs _;rw[WbD];refine⟨rfl,rfl,hx,gJ,⟨vs,t,mD,by simp_all⟩,cs,ps,?_,?_,Xv.2 ⟨λs hs b o ⟨hb,_⟩ fZ=>?_,h2⟩,λs hs b o fZ=>?_⟩
   .refine WbY (Q:=λp=>∀b o,p.fp b o->b<w.heap.size) (λx c p dC hh=>?_) _ _ _ hbl h1;exact WaI (λ_ _ _ hh=>hh) e x c p (λq hq=>(WLe.alloc (λ_ _=>False) wd _ tP qv iS fi).same (λ_ _ hh _=>hh) (dC q hq)) hh
   .obtain⟨tl,re⟩:=hp;exact WsH mD (λj v hj=>by grind)
   .obtain⟨p,dC,rfl⟩:=Xw.1 hs
    grind
   .rcases Xq.1 hs with rfl|hs
    .exact .inr fZ.1
    .obtain⟨p,dC,rfl⟩:=Xw.1 hs;exact .inl (h3 p dC b o fZ)
 refine⟨key _ _ ⟨⟨Xbv _,?_⟩,rfl⟩,key _ _ ⟨⟨Xbv _,w.heap.size,by rw[WbD],by rw[WbD]⟩,rfl⟩⟩;rw[WbD];rfl
theorem Wol(h:Rel w0 F nt G0 G ν st a w){dst:Option Tmp}(hd:∀d,dst=some d->nt.Ok d){e:Ty}(he:e.data=true){xs:List e.den}{cap:Nat}{vs:Array Value}{t:TypeId}{cs:List Value}(hx:xs.length<=cap)(gJ:cap<=maxLen)
  (hsz:vs.size=cap*e.size) (hc:EncL (Enc G e) xs cs) (hp:cs<+:vs.toList) (wd:World) (tP:wd.heap=w.heap) (qv:wd.os=w.os) (iS:wd.output=w.output) (fi:wd.tape=w.tape):
  (∃ν',Rel w0 F nt G0 G ν' (st.new dst (.arr e xs) (.s (.one (.own st.nx)))) (a.put dst (.slice (some ⟨w.heap.size,0,none⟩) xs.length cap)) (wd.alloc (.cells vs t)))/\
  (∃ν',Rel w0 F nt G0 G ν' (st.new dst (.arr e xs) (.s (.one (.aptr st.nx)))) (a.put dst (.pointer (some ⟨w.heap.size,0,none⟩))) (wd.alloc (.cells vs t))):=
 Wib h hd [] hx gJ hsz (λφ _=>⟨[],(EncP_data he xs cs []).2 ⟨hc,rfl⟩,List.Pairwise.nil,by simp⟩) hp wd tP qv iS fi
theorem WdG{x:AVal}{v:Value}{cs:List Cell}(hx:AValRel G ν nx x v)(hb:Wg9 x=some cs):CellsRel G ν nx cs v.cells.toList/\∀u∈v.cells.toList,u.oneCell'=true:=by
 cases x with
 |tup xs=>simp[Wg9]at hb
 |s y=>
  cases y with
  |one c=>
   simp[Wg9]at hb;subst hb;obtain⟨h1,h2⟩:=hx
   grind [Wup,CellsRel.one]
  |agg ds=>
   simp[Wg9]at hb;subst hb;obtain⟨vs,rfl,h1⟩:=hx;refine⟨by grind [Value.cells],λu hu=>?_⟩;simp[Value.cells]at hu;obtain⟨j,hj⟩:=List.getElem?_of_mem hu;have hlt:j<ds.length:=by rw[←h1.1];grind
   exact(h1.2 j _ u (Xp hlt) hj).2
theorem WcR(t:TypeId)(vs:Array Value):(newRow t vs).run P w= .ok ⟨w.heap.size,0,none⟩ (w.alloc (.cells vs t)):=rfl
theorem Wfj{cs ds:List Cell}{off:Nat}(h:off+ds.length<=cs.length):(Wel cs off ds).length=cs.length:=by
 simp[Wel];omega
theorem Wfr{cs ds:List Cell}{vs us:List Value}{off:Nat}(hc:CellsRel G ν nx cs vs)(hd:CellsRel G ν nx ds us):
  CellsRel G ν nx (Wel cs off ds) (vs.take off++us++vs.drop (off+us.length)):=by
 rw[hd.1];exact((hc.take off).append hd).append (hc.drop _)
theorem Wi8(us:List Value):∀(off k:Nat) (cs:Array Value),off+k+us.length<=cs.size->
  ((us.zipIdx k).foldl (λcs (c,j)=>cs.setIfInBounds (off+j) c) cs).toList=cs.toList.take (off+k)++us++cs.toList.drop (off+k+us.length):=by
 induction us with
 |nil=>simp_all
 |cons u us ih=>
  intro off k cs h;simp only[List.zipIdx_cons,List.foldl_cons,Xr]at h⊢;rw[ih off (k+1) _ (by simp;omega)];have hlt:off+k<cs.toList.length:=by simp;omega
  simp only[Array.toList_setIfInBounds];generalize cs.toList=l at*;have e1:(l.set (off+k) u).take (off+(k+1))=l.take (off+k)++ [u]:=by
   rw[←Xay,List.take_succ_eq_append_getElem (by simp_all),List.take_set_of_le (Xm _)];simp
  grind [List.drop_set_of_lt]
end
end Go.Sx
namespace Go.Sx
set_option linter.unusedVariables false
set_option linter.unusedSimpArgs false
section
variable{w0:World}{F:CS}{nt:Slots}{G0 G:GH}{ν:Nat->Nu}{objs:Wak}{nx:Nat}{st ae:St}{a:Act}{w w':World}{P:Program}{T:Tab}
def Done(P:Program)(w0:World)(F:CS)(nt:Slots)(G0:GH)(o:Oper)(a:Act)(w:World)(ae:St):Prop:=
 ∃n v w' G' ν',(execOp a.eval o).run P w= .ok n w'/\(n= .value v\/(n= .skip/\v=undef))/\Rel w0 F nt G0 G' ν' ae (a.put o.dst v) w'
theorem WgI(hr:Rel w0 F nt G0 G ν st a w):∀(l:List (Nat×Operand)) (ps:List (Nat×AVal)),WcF st l=some ps->
  ps.length=l.length/\∀(j:Nat) (p:Nat×AVal) (q:Nat×Operand),ps[j]?=some p->l[j]?=some q->p.1=q.1/\AValRel G ν st.nx p.2 (a.eval q.2)
 | [],ps,h=>by simp[WcF]at h;simp_all
 |(i,x)::l,ps,h=>by
  simp only[WcF]at h;split at h
  .rename_i y ys h1 h2;injection h with h;subst h;obtain⟨h3,h4⟩:=WgI hr l ys h2;refine⟨by simp[h3],λj p q hp hq=>?_⟩;cases j with
   |zero=>simp at hp hq;subst hp hq;exact⟨rfl,WQ hr x _ h1⟩
   |succ j=>grind
  grind
theorem Wke(hT:Wap P T){fs:List (Nat×TypeId)}{place:Nat->Option (Nat×Nat)}
  (eF:∀(i off:Nat) (ft:TypeId) (te:TE),fs[i]?=some (off,ft)->look T ft=some te->place i=some (off,te.size)) (gK:∀(i off:Nat) (ft:TypeId) (te:TE),fs[i]?=some (off,ft)->look T ft=some te->te.plain=true):
  ∀(l:List (Nat×AVal)) (ps:List (Nat×Value)) (cs cs':List Cell) (vs:Array Value),CellsRel G ν nx cs vs.toList->ps.length=l.length->
   (∀(j:Nat) (p:Nat×AVal) (q:Nat×Value),l[j]?=some p->ps[j]?=some q->p.1=q.1/\AValRel G ν nx p.2 q.2)->Wm8 T fs l cs=some cs'->
   ∃vs',Instr.fill place vs ps=some vs'/\CellsRel G ν nx cs' vs'.toList
 | [],[],cs,cs',vs,hc,_,_,h=>by simp[Wm8]at h;subst h;exact⟨vs,rfl,hc⟩
 |(i,x)::l,[],_,_,_,_,hl,_,_=>by simp at hl
 | [],_::_,_,_,_,_,hl,_,_=>by simp at hl
 |(i,x)::l,(i',v)::ps,cs,cs',vs,hc,hl,hp,h=>by
  obtain⟨he,hx⟩:=hp 0 _ _ rfl rfl;simp only at he hx;subst he;simp only[Wm8]at h;split at h
  .rename_i off ft hf;split at h
   .rename_i te ds bB fW;split at h
    .rename_i bq;simp only[Xi,Wh]at bq;obtain⟨h1,h2⟩:=bq;obtain⟨h3,_⟩:=WdG hx fW;have hsz:v.cells.size=ds.length:=by have:=h3.1;omega
     have fh:vs.size=cs.length:=by have:=hc.1;omega
     have yW:=gK _ _ _ _ hf bB;have dK:=Wi8 v.cells.toList off 0 vs (by simp;omega);simp only[Xaz,Xat]at dK;have gL:CellsRel G ν nx (Wel cs off ds) (v.cells.toList.zipIdx.foldl (λcs (c,j)=>cs.setIfInBounds (off+j) c) vs).toList:=by
      rw[dK];have:=Wfr (off:=off) hc h3;omega
     obtain⟨vs',h4,h5⟩:=Wke hT eF gK l ps _ cs' _ gL (by simp_all) (λj p q hj hq=>hp (j+1) p q (by simp_all) (by simp_all)) h;refine⟨vs',?_,h5⟩;simp only[Instr.fill,eF _ _ _ _ hf bB];rw[Wa (by grind [W1])];rw[←h4];congr 1;rw[←Array.foldl_toList];simp
    grind
   grind
  grind
theorem WgJ{α β:Type}(f:α->Sem β)(g:α->β):∀(l:List α),(∀x∈l,(f x).run P w= .ok (g x) w)->(l.mapM f).run P w= .ok (l.map g) w
 | [],_=>by simp
 |x::l,h=>by
  simp only[Xfl,Sem.run_bind,h x (Xg ..),Result.andThen_ok,WgJ f g l (λy hy=>h y (Xe _ hy)),Sem.run_pure,Xae]
theorem WnX{α β:Type}(f:α->Sem β)(g:α->β)(l:Array α)(h:∀x∈l,(f x).run P w= .ok (g x) w):(l.mapM f).run P w= .ok (l.map g) w:=by
 rw[Array.mapM_eq_mapM_toList];simp only[Sem.run_map,WgJ f g l.toList (λx hx=>h x (by simp_all)),Result.andThen_ok];congr 1
 grind
theorem Wq4(hT:Wap P T)(hr:Rel w0 F nt G0 G ν st a w){o:Oper}(hd:∀d,o.dst=some d->nt.Ok d){t:TypeId}{parts:Array (Nat×Operand)}(ho:o.op= .build t parts)
  {ty:Ty} {fs:List (Nat×TypeId)} {ps:List (Nat×AVal)} {cs:List Cell} (hl:look T t=some ⟨ty,true,.struct fs⟩) (ch:WcF st parts.toList=some ps) (hf:Wm8 T fs ps (WeK ty)=some cs)
  (eF:∀f∈fs,∃te,look T f.2=some te/\te.plain=true):
  Done P w0 F nt G0 o a w (st.put o.dst (.s (.agg cs))):=by
 have bB:=hT _ _ hl;obtain⟨_,fields,hu,ee,_⟩:=bB.und;obtain⟨z,hz,dD⟩:=Wfe (w:=w) bB;obtain⟨h1,h2⟩:=WgI hr _ _ ch;have hsz:∀f∈fields,∃te,look T f.type=some te/\te.plain=true:=λf hf=>eF (f.offset,f.type) (by grind)
 let sz:Field->Nat:=λf=>match look T f.type with|some te=>te.size|none=>0
 have hrun:(fields.mapM λf=>(do pure (f.offset,←sizeOf f.type):Sem (Nat×Nat))).run P w= .ok (fields.map λf=>(f.offset,sz f)) w:=by
  refine WnX _ (λf=>(f.offset,sz f)) fields (λf hf=>?_);obtain⟨te,cg,_⟩:=hsz f hf;simp[sz,(hT _ _ cg).sizeOf,cg]
 have nB:∀(i off:Nat) (ft:TypeId) (te:TE),fs[i]?=some (off,ft)->look T ft=some te->(fields.map λf=>(f.offset,sz f))[i]?=some (off,te.size):=λi off ft te hi cg=>by
  grind
 have rf:CellsRel G ν st.nx (WeK ty) z.cells.toList:=by
  rw[dD];exact Wyu ty
 obtain⟨vs',h3,h4⟩:=Wke hT nB (λi off ft te hi cg=>by
   obtain⟨dw,h5,h6⟩:=eF _ (List.mem_of_getElem? hi);simp_all) ps (parts.toList.map λp=>(p.1,a.eval p.2)) _ cs z.cells rf (by simp[h1]) (λj p q hp hq=>by
   grind) hf
 refine⟨.value (.agg vs'),.agg vs',w,G,ν,?_,.inl rfl,hr.put hd ⟨vs'.toList,by simp,h4⟩⟩;simp only[execOp,ho,Instr.build,Sem.run_bind,hz,Result.andThen_ok,Wl hu,hrun];have:(parts.map λx=>match x with|(i,x)=>(i,a.eval x)).toList=parts.toList.map λp=>(p.1,a.eval p.2):=by simp
 rw[this,h3];rfl
theorem WrA(hT:Wap P T)(hr:Rel w0 F nt G0 G ν st a w){o:Oper}(hd:∀d,o.dst=some d->nt.Ok d){t:TypeId}(ho:o.op= .alloc t){te:TE}(hl:look T t=some te)(hp:te.plain=true):
  Done P w0 F nt G0 o a w (st.new o.dst (.box (WeK te.ty)) (.s (.one (.ptr st.nx 0)))):=by
 obtain⟨z,hz,dD⟩:=Wfe (w:=w) (hT _ _ hl);obtain⟨ν',h⟩:=Wr6 (t:=t) (vs:=z.cells) hr hd (cs:=WeK te.ty) (by grind [WbL,Wyu]);refine⟨_,_,_,G,ν',?_,.inl rfl,h⟩;simp_all [execOp,Instr.alloc,Sem.run_bind,Result.andThen_ok,newVar,WcR,Sem.run_pure]
theorem Wl4(hT:Wap P T)(hr:Rel w0 F nt G0 G ν st a w){o:Oper}(hd:∀d,o.dst=some d->nt.Ok d){t:TypeId}(ho:o.op= .alloc t){e:Ty}{n:Nat}{et:TypeId}(hl:look T t=some ⟨e,true,.arr n et⟩)(aV:e.data=true)(az:WM n=true):
  Done P w0 F nt G0 o a w (st.new o.dst (.arr e (Xu n e.dflt)) (.s (.one (.aptr st.nx)))):=by
 obtain⟨z,hz,dD⟩:=Wfe (w:=w) (hT _ _ hl);have hn:n<=maxLen:=by grind [WM,maxLen]
 have hlen:z.cells.size=n*e.size:=by
  grind [Xat,TE.cells,WlU,Wby]
 obtain⟨_,ν',h⟩:=Wol (t:=t) (vs:=z.cells) hr hd (e:=e) aV (xs:=Xu n e.dflt) (cap:=n) (cs:=rep (WbK e) n) (by simp) hn hlen (Whb aV n) (by rw[dD];exact List.prefix_refl _) w rfl rfl rfl rfl;refine⟨_,_,_,G,ν',?_,.inl rfl,h⟩;simp_all [execOp,Instr.alloc,Sem.run_bind,Result.andThen_ok,newVar,WcR,Sem.run_pure]
theorem WvK(hr:Rel w0 F nt G0 G ν st a w){o:Oper}(hd:∀d,o.dst=some d->nt.Ok d){t:TypeId}{x:Operand}(ho:o.op= .box t x){v:AVal}{cs:List Cell}(hv:ev st x=some v)(hb:Wg9 v=some cs):
  Done P w0 F nt G0 o a w (st.new o.dst (.box cs) (.s (.one (.ptr st.nx 0)))):=by
 obtain⟨h1,_⟩:=WdG (WQ hr x _ hv) hb;obtain⟨ν',h⟩:=Wr6 (t:=t) hr hd h1;refine⟨_,_,_,G,ν',?_,.inl rfl,h⟩;simp only[execOp,ho,Instr.box,Sem.run_bind,Result.andThen_ok,newVar,WcR,Sem.run_pure]
theorem Wue(hT:Wap P T)(hr:Rel w0 F nt G0 G ν st a w){o:Oper}(hd:∀d,o.dst=some d->nt.Ok d){r:AVal}(h:Wan T st o.op=some (true,r)):Done P w0 F nt G0 o a w (st.put o.dst r):=by
 obtain⟨v,h1,h2⟩:=Wq0 hT hr h;exact⟨_,v,w,G,ν,h1,.inl rfl,hr.put hd h2⟩
end
end Go.Sx
namespace Go.Sx
set_option linter.unusedVariables false
set_option linter.unusedSimpArgs false
theorem WfU{t t':Ty}{d:t.den}{d':t'.den}(h:WnT t t' d=some d'):∃e:t=t',e▸d=d':=by
 grind [WnT]
theorem Way{e e':Ty}{d:List e.den}{d':List e'.den}(h:Wgy e e' d=some d'):∃he:e=e',he▸d=d':=by
 grind [Wgy]
theorem Wr5{A A':Type}(hA:A=A')(h:List A=List A')(l:List A)(i:Nat):cast h (l.take i)=(cast h l).take i:=by
 grind
theorem WtQ{A A':Type}(hA:A=A')(h:List A=List A')(l:List A)(i:Nat):cast h (l.drop i)=(cast h l).drop i:=by
 grind
theorem WqN(e:Ty)(l:List e.den)(i:Nat):WcH e (l.take i)=(WcH e l).take i:=Wr5 (Wem e).symm _ l i
theorem WrE(e:Ty)(l:List e.den)(i:Nat):WcH e (l.drop i)=(WcH e l).drop i:=WtQ (Wem e).symm _ l i
section
variable{w0:World}{F:CS}{G G':GH}{ν:Nat->Nu}{φ:Nat->CS}{objs:Wak}{nx:Nat}{w:World}
def Lent(G':GH)(w:World)(φ:Nat->CS)(objs:Wak)(l:List Nat):Prop:=∀id∈l,Live objs id->Froz G' w (φ id)
theorem Lent.mono{l m:List Nat}(h:Lent G' w φ objs m)(hs:∀i∈l,i∈m):Lent G' w φ objs l:=λid bv=>h id (hs id bv)
theorem CellsRel.single{c:Cell}{vs:List Value}(h:CellsRel G ν nx [c] vs):∃v,vs= [v]/\CellRel G ν nx c v/\v.oneCell'=true:=by
 obtain⟨h1,h2⟩:=h
 match vs,h1 with
 | [v],_=>exact⟨v,rfl,h2 0 c v rfl rfl⟩
theorem Wgo{t:Ty}{c:Cell}{d:t.den}{v:Value}(hg:GLe G G')(h:CellRel G ν nx c v)(hf:WjL t c=some d):Enc G' t d [v]:=by
 unfold WjL at hf;split at hf
 .obtain⟨e,hd⟩:=WfU hf;subst e;simp only at hd;subst hd;exact Wbi hg _ _ _ h
 grind
theorem FromL.mono{m m':List Nat}(h:∀i∈m,i∈m'):CS.le (FromL φ objs m) (FromL φ objs m'):=λb o ⟨i,hi,h1⟩=>⟨i,h i hi,h1⟩
theorem FromL.one{i:Nat}{m:List Nat}(hi:i∈m)(hl:Live objs i):CS.le (φ i) (FromL φ objs m):=λb o h=>⟨i,hi,hl,h⟩
theorem FromL.disj(h:HR w0 F G ν φ objs nx w){m m':List Nat}(hd:∀i∈m,i∉m'):CS.disj (FromL φ objs m) (FromL φ objs m'):=λb o ⟨i,hi,h1,h2⟩ ⟨j,hj,h3,h4⟩=>by
 have:=h.inj i j b o h1 h3 h2 h4;simp_all
theorem CS.disj.mono{A B A' B':CS}(h:CS.disj A B)(h1:CS.le A' A)(h2:CS.le B' B):CS.disj A' B':=λb o ha hb=>h b o (h1 b o ha) (h2 b o hb)
theorem CS.disj.symm{A B:CS}(h:CS.disj A B):CS.disj B A:=λb o ha hb=>h b o hb ha
theorem Wou{l m:List CS}{A B:CS}(h1:Sep l)(h2:Sep m)(ha:∀s∈l,CS.le s A)(hb:∀s∈m,CS.le s B)(hd:CS.disj A B):Sep (l++m):=
 Xam.2 ⟨h1,h2,λs hs t ht=>hd.mono (ha s hs) (hb t ht)⟩
theorem Wnn{l1 l2 l3:List CS}(nC:Sep (l1++l3))(h2:Sep l2)(hd:∀s∈l2,∀t∈l1++l3,CS.disj s t):Sep (l1++(l2++l3)):=by
 obtain⟨h1,h3,h4⟩:=Xam.1 nC;refine Xam.2 ⟨h1,Xam.2 ⟨h2,h3,λs hs t ht=>hd s hs t (Xh _ ht)⟩,λs hs t ht=>?_⟩;rcases Xn.1 ht with ht|ht
 .exact(hd t ht s (Xl _ hs)).symm
 simp_all
theorem Wgr{b off i n cap:Nat}(hi:i<cap){S:CS}(h1:CS.le (rng b off (i*n)) S)(h2:CS.le (rng b (off+i*n) n) S)(h3:CS.le (rng b (off+(i+1)*n) ((cap-(i+1))*n)) S):CS.le (rng b off (cap*n)) S:=λb' o ⟨e,g1,g2⟩=>by
 have e1:(i+1)*n=i*n+n:=Xcf i n;have e2:(cap-(i+1))*n+(i+1)*n=cap*n:=by rw[←Xcu];grind
 by_cases c1:o<off+i*n
 .exact h1 b' o ⟨e,g1,c1⟩
 .by_cases c2:o<off+i*n+n
  .exact h2 b' o ⟨e,by omega,c2⟩
  .exact h3 b' o ⟨e,by omega,by omega⟩
theorem WvB{b a n c m:Nat}(h:a+n<=c):CS.disj (rng b a n) (rng b c m):=λb' o ⟨_,h1,h2⟩ ⟨_,h3,h4⟩=>by omega
theorem WpI{e:Ty}{nu np:Nu}{xs:List e.den}{i:Nat}{S S1 S2:CS}(h:Wh0 w (TyRel G w e) e.size nu np xs i S){d:e.den}{vs:List Value}{ns:List Pc}(hd:TyRel G w e d vs ns)
  {b:Nat} (hb:np.blk=some b) (hm:Mem w b np.off vs) (hr:CS.le (rng b np.off e.size) S1) (hs:Sep (ns.map Pc.fp)) (dQ:∀p∈ns,CS.le p.fp S2) (d1:CS.disj S S1) (d2:CS.disj S S2) (d3:CS.disj S1 S2)
  {S':CS} (l1:CS.le S S') (l2:CS.le S1 S') (l3:CS.le S2 S'):OwnL w (TyRel G w e) e.size nu (xs.set i d) S':=by
 obtain⟨h1,h2,h3,b',h4,h5,h6,h7,h8,h9,c1,c2,p1,p2,g1,g2,g3,g4,g5,g6⟩:=h;rw[hb]at h5;injection h5 with h5;subst h5;have be:=Wbc (λx c q hx=>WE e x c q hx) _ _ _ g1;rw[Xan,Xcc (by omega)]at be;have aC:=WE _ _ _ _ hd;have e1:(i+1)*e.size=i*e.size+e.size:=Xcf i e.size;refine⟨by simp_all,h2,?_⟩;simp only[h4];have gA:=g6 _ (Xg ..);have gC:=g6 _ (Xe _ (Xg ..));have gp:∀s∈(p1++p2).map Pc.fp,CS.le s S:=λs hs=>g6 s (Xe _ (Xe _ hs));obtain⟨q1,q2⟩:=Xv.1 g5;obtain⟨q3,q4⟩:=Xv.1 q2;rw[h6]at hm hr;refine⟨by simp_all,h8,h9,c1++(vs++c2),p1++(ns++p2),Wqm h3 g1 hd g2,?_,Xv.2 ⟨λs cP=>?_,?_⟩,λs cP=>?_⟩
 .refine g3.app (n:=i*e.size) ?_ be;refine hm.app (n:=e.size) ?_ aC
  grind
 .
  simp only[Xz,Xn]at cP;have key:∀s,(CS.disj s (rng b nu.off (i*e.size)))->CS.disj s (rng b (nu.off+i*e.size) e.size)->CS.disj s (rng b (nu.off+(i+1)*e.size) ((nu.cap-(i+1))*e.size))->CS.disj (rng b nu.off (nu.cap*e.size)) s:=λs k1 k2 k3 b' o mE fZ=>
   (Wgr (show i<nu.cap by omega) (S:=λb o=>¬s b o) (λb o hh hs=>k1 b o hs hh) (λb o hh hs=>k2 b o hs hh) (λb o hh hs=>k3 b o hs hh) b' o mE) fZ
  have uy:∀s∈(p1++p2).map Pc.fp,CS.disj (rng b nu.off (nu.cap*e.size)) s:=λs hs=>key s (q1 s (Xe _ hs)).symm (d1.mono (gp s hs) hr) (q3 s hs).symm;rcases cP with cP|cP|cP
  .simp_all
  .obtain⟨p,hp,rfl⟩:=Xw.1 cP;exact key _ (d2.mono gA (dQ p hp)).symm (d3.mono hr (dQ p hp)).symm (d2.mono gC (dQ p hp)).symm
  simp_all
 .rw[Xz,Xz];rw[Xz]at q4 gp;refine Wnn q4 hs (λs cP t ht=>?_);obtain⟨p,hp,rfl⟩:=Xw.1 cP;exact(d2.mono (gp t ht) (dQ p hp)).symm
 .rcases Xq.1 cP with rfl|cP
  .exact Wgr (show i<nu.cap by omega) (λb o hh=>l1 b o (gA b o hh)) (λb o hh=>l2 b o (hr b o hh)) (λb o hh=>l1 b o (gC b o hh))
  .simp only[Xz,Xn]at cP;rcases cP with cP|cP|cP
   .exactλb o hh=>l1 b o (gp s (by simp_all) b o hh)
   .obtain⟨p,hp,rfl⟩:=Xw.1 cP
    exactλb o hh=>l3 b o (dQ p hp b o hh)
   .exactλb o hh=>l1 b o (gp s (by simp_all) b o hh)
def Nu.part(n:Nu)(lo hi:Nat):Nu:=⟨n.blk,if n.cap=lo then n.off else n.off+lo*n.esz,hi-lo,n.cap-lo,n.esz⟩
theorem Wlz{n:Nu}{lo hi:Nat}:(n.part lo hi).hdr=n.vhdr lo hi:=by
 unfold Nu.hdr Nu.vhdr Nu.part;cases n.blk<;>rfl
theorem WpR{e:Ty}{nu:Nu}{xs:List e.den}{S:CS}{lo hi:Nat}(h:OwnL w (TyRel G w e) e.size nu xs S)(h1:lo<=hi)(h2:hi<=nu.len):OwnL w (TyRel G w e) e.size (nu.part lo hi) ((xs.take hi).drop lo) S:=by
 obtain⟨g1,g2,g3⟩:=h;refine⟨by simp[Nu.part];omega,g2,?_⟩;show match nu.blk with|none=>_|some b=>_
 cases hb:nu.blk with
 |none=>simp_all
 |some b=>
  simp only[hb]at g3;obtain⟨g4,g5,g6,cs,ps,g7,g8,g9,tQ⟩:=g3;obtain⟨c1,c2,p1,p2,k1,k2,k3,k4⟩:=Wez xs cs ps hi g7;obtain⟨d1,d2,q1,q2,k5,k6,k7,k8⟩:=Wez (xs.take hi) c1 p1 lo k3;have hl:=Wbc (λx c q hx=>WE e x c q hx) _ _ _ k7;rw[Xan,Xan,Xcc (by omega)]at hl;have hcl:(nu.cap-lo)*e.size+lo*e.size=nu.cap*e.size:=by rw[←Xcu];grind
  have hlen:((xs.take hi).drop lo).length=hi-lo:=by simp;omega
  by_cases hc:nu.cap=lo
  .have h0:(xs.take hi).drop lo= []:=Xaa (by omega);have e0:nu.cap-lo=0:=by omega
   simp only[Nu.part,Wb hc,e0,Nat.zero_mul,Xaz];rw[h0]at k8⊢;refine⟨Xbp _,Xbp _,?_,[],[],⟨rfl,rfl⟩,λj v hj=>by simp at hj,Xv.2 ⟨by simp,List.Pairwise.nil⟩,λs hs=>?_⟩
   .obtain⟨vs,T,r1,r2⟩:=g6;exact⟨vs,T,r1,by omega⟩
   .simp at hs;subst hs
    exactλb o ⟨_,r1,r2⟩=>Wi r2 (by omega)
  .simp only[Nu.part,Wa hc,g2];have hle:CS.le (rng b (nu.off+lo*e.size) ((nu.cap-lo)*e.size)) (rng b nu.off (nu.cap*e.size)):=λb' o ⟨r0,r1,r2⟩=>⟨r0,by omega,by omega⟩;refine⟨by omega,by omega,?_,d2,q2,k8,?_,?_,λs hs=>?_⟩
   .grind
   .rw[k1,k5,List.append_assoc]at g8;exact(g8.right hl).left
   .obtain⟨r1,r2⟩:=Xv.1 g9;rw[k2,k6,Xz,Xz]at r1 r2;refine Xv.2 ⟨λs hs=>(r1 s (Xl _ (Xh _ hs))).mono hle (λ_ _ hh=>hh),?_⟩
    grind
   .rcases Xq.1 hs with rfl|hs
    .exactλb' o hh=>tQ _ (Xg ..) b' o (hle b' o hh)
    simp_all
theorem Wm6{e:Ty}{nu:Nu}{xs:List e.den}{S:CS}{lo hi:Nat}(h:OwnL w (TyRel G w e) e.size nu xs S)(h1:lo<=hi)(h2:hi<=nu.len):OwnL w (TyRel G w e) e.size (nu.part lo hi) (List.drop lo (List.take hi xs)) S:=WpR h h1 h2
theorem Wrw(hg:GLe G G'){e:Ty}{nu np:Nu}{xs:List e.den}{i:Nat}{S S1:CS}(h:Wh0 w (TyRel G w e) e.size nu np xs i S){d:e.ro.den}{vs:List Value}(hd:Enc G' e.ro d vs)
  {b:Nat} (hb:np.blk=some b) (hm:Mem w b np.off vs) (hr:CS.le (rng b np.off e.size) S1) (f1:Froz G' w S) (f2:Froz G' w S1):WjH G' (Enc G' e.ro) ((WcH e xs).set i d) nu.hdr:=by
 obtain⟨h1,h2,h3,b',h4,h5,h6,h7,h8,h9,c1,c2,p1,p2,g1,g2,g3,g4,g5,g6⟩:=h;rw[hb]at h5;injection h5 with h5;subst h5;have be:=Wbc (λx c q hx=>WE e x c q hx) _ _ _ g1;have fR:=Wbc (λx c q hx=>WE e x c q hx) _ _ _ g2;rw[Xan,Xcc (by omega)]at be;rw[Xcy]at fR;have aC:=Enc_len _ _ _ hd;rw[WbN]at aC;have e1:(i+1)*e.size=i*e.size+e.size:=Xcf i e.size;rw[h6]at hm hr;have gA:=g6 _ (Xg ..);have gC:=g6 _ (Xe _ (Xg ..));have gp:∀p∈p1++p2,Froz G' w p.fp:=λp hp=>f1.mono (g6 _ (Xe _ (Xe _ (Xaq hp))));have jY:(xs.length-(i+1))*e.size<=(nu.cap-(i+1))*e.size:=Xbe _ (by omega);have E1:=Wlv (λx c p hp hx=>Wd7 hg e x c p hp hx) _ _ _ (λq hq=>gp q (Xl _ hq)) g1;have E2:=Wlv (λx c p hp hx=>Wd7 hg e x c p hp hx) _ _ _ (λq hq=>gp q (Xh _ hq)) g2;rw[WqN]at E1;rw[WrE]at E2;have hlen:(WcH e xs).length=xs.length:=WgD e xs;have eset:(WcH e xs).set i d=(WcH e xs).take i++(d::(WcH e xs).drop (i+1)):=by
  rw[Xeu,Wb (by omega)]
 unfold Nu.hdr;simp only[h4];refine .inr (.inl ⟨b,nu.off,nu.cap,c1++(vs++c2),by rw[List.length_set,hlen,h1],by grind,h8,?_,λj v hj=>?_⟩)
 .rw[eset];exact Wed _ _ _ _ E1 ⟨vs,c2,rfl,hd,E2⟩
 .have s1:WfD G' b nu.off c1:=g3.stored (n:=i*e.size) (by omega) (f1.mono gA);have s2:WfD G' b (nu.off+i*e.size) vs:=hm.stored (n:=e.size) (by omega) (f2.mono hr);have s3:WfD G' b (nu.off+(i+1)*e.size) c2:=g4.stored (n:=(nu.cap-(i+1))*e.size) (by omega) (f1.mono gC);rw[Xaw]at hj;split at hj
  .exact s1 j v hj
  .rename_i fB;rw[Xaw]at hj;split at hj
   .have:=s2 _ v hj
    grind
   .have:=s3 _ v hj
    grind
theorem Wq3{α:Type}{R:α->List Value->Prop}{n:Nat}(hR:∀x c,R x c->c.length=n){nu:Nu}{xs:List α}(h:WjH G R xs nu.hdr)(hlen:xs.length=nu.len)(hn:nu.esz=n){lo hi:Nat}(h1:lo<=hi)(h2:hi<=nu.len)(h3:nu.blk=none->hi=0)(gJ:nu.blk≠none->nu.len<=nu.cap/\nu.cap<=maxLen):
  WjH G R ((xs.take hi).drop lo) (nu.vhdr lo hi):=by
 unfold Nu.hdr at h;unfold Nu.vhdr;cases hb:nu.blk with
 |none=>
  have:=h3 hb;refine .inl ⟨rfl,Xaa (by simp;omega)⟩
 |some b=>
  obtain⟨mF,eU⟩:=gJ (by grind);simp only[hb]at h;have hle:((xs.take hi).drop lo).length=hi-lo:=by simp;omega
  by_cases h0:hi-lo=0
  .refine .inr (.inr ⟨_,nu.cap-lo,by rw[h0],Xaa (by omega)⟩)
  .rcases h with⟨e,_⟩|⟨b',off,cap,cs,e,g1,g2,g3,g4⟩|⟨a,cap,e,bG⟩
   .cases e
   .injection e with e1 e2 e3;injection e1 with e1;injection e1 with e4 e5 e6;subst e4 e5 e3;rw[Wa (by omega)];refine .inr (.inl ⟨b,nu.off+lo*nu.esz,nu.cap-lo,(cs.take (hi*n)).drop (lo*n),by rw[hle],by omega,by omega,WeF hR _ _ lo (WeU hR _ _ hi g3),λj v hj=>?_⟩);rw[Xbq,Xbr]at hj;split at hj
    .rw[Xay,hn];exact g4 _ _ hj
    grind
   simp_all
def Leaf(ν:Nat->Nu)(t:Ty)(cs:List Cell)(ns:List Pc):Prop:=∀(lf k r:Nat),WbG t lf=some k->cs[k]?=some (.own r)->∃pc,ns[lf]?=some pc/\pc.nu=ν r
theorem Wfi:∀(t:Ty) (lf k:Nat),WbG t lf=some k->lf<t.owns/\k<t.size
 | .own _,lf,k,h=>by
  cases lf with
  |zero=>simp[WbG]at h;subst h;exact⟨Nat.one_pos,Nat.one_pos⟩
  |succ n=>simp[WbG]at h
 | .prod a b,lf,k,h=>by
  simp only[WbG]at h;split at h
  .obtain⟨h1,h2⟩:=Wfi a lf k h;exact⟨by show _<a.owns+b.owns;omega,by show _<a.size+b.size;omega⟩
  .obtain⟨j,hj,rfl⟩:=Xy.1 h;obtain⟨h1,h2⟩:=Wfi b _ j hj;exact⟨by show _<a.owns+b.owns;omega,by show _<a.size+b.size;omega⟩
 | .int _,_,_,h=>by simp[WbG]at h
 | .bool,_,_,h=>by simp[WbG]at h
 | .str,_,_,h=>by simp[WbG]at h
 | .slice _,_,_,h=>by simp[WbG]at h
theorem Leaf.none{ν:Nat->Nu}{t:Ty}{cs:List Cell}{ns:List Pc}(h:t.owns=0):Leaf ν t cs ns:=λlf k r h1 h2=>by
 have:=(Wfi t lf k h1).1;omega
theorem WxC{ν:Nat->Nu}{e:Ty}{c:Cell}{ns:List Pc}(hc:∀r,c≠ .own r):Leaf ν (.own e) [c] ns:=λlf k r k1 k2=>by
 grind
theorem Wal(h:HR w0 F G ν φ objs nx w)(hg:GLe G G'):∀(t:Ty) (cs:List Cell) (vs:List Value) (d:t.den) (m l:List Nat),CellsRel G ν nx cs vs->Lent G' w φ objs l->m.Nodup->
  Waz t cs objs=some (d,m,l)->∃ns,TyRel G' w t d vs ns/\Sep (ns.map Pc.fp)/\(∀p∈ns,CS.le p.fp (FromL φ objs m))/\(∀i∈m,Live objs i)/\(∀i∈l,Live objs i)/\Leaf ν t cs ns
 | .prod a b,cs,vs,d,m,l,hc,hl,aP,hf=>by
  simp only[Waz]at hf;split at hf
  .rename_i x m1 l1 y m2 l2 h1 h2;simp only[Option.some.injEq,Prod.mk.injEq]at hf;obtain⟨rfl,rfl,rfl⟩:=hf;obtain⟨n1,n2,n3⟩:=List.nodup_append.1 aP;obtain⟨q1,h3,s1,h4,h5,h5',f1⟩:=Wal h hg a _ (vs.take a.size) x m1 l1 (hc.take _) (hl.mono (by simp_all)) n1 h1;obtain⟨q2,h6,s2,h7,h8,nD,f2⟩:=Wal h hg b _ (vs.drop a.size) y m2 l2 (hc.drop _) (hl.mono (by simp_all)) n2 h2;refine⟨q1++q2,⟨_,_,q1,q2,(List.take_append_drop a.size vs).symm,rfl,h3,h6⟩,?_,?_,?_,?_,?_⟩
   .rw[Xz];refine Wou s1 s2 (A:=FromL φ objs m1) (B:=FromL φ objs m2) (λs hs=>?_) (λs hs=>?_) (FromL.disj h (λi hi hj=>n3 i hi i hj rfl))
    .grind
    grind
   .intro p hp b o hh;rcases Xn.1 hp with hp|hp
    .exact FromL.mono (λi hi=>Xl _ hi) b o (h4 p hp b o hh)
    .exact FromL.mono (λi hi=>Xh _ hi) b o (h7 p hp b o hh)
   .grind
   .grind
   .intro lf k r k1 k2;have hq:=W8 _ _ _ _ h3;simp only[WbG]at k1;split at k1
    .rename_i hlt;obtain⟨_,hk⟩:=Wfi a lf k k1;obtain⟨pc,k3,k4⟩:=f1 lf k r k1 (by simp_all)
     grind
    .obtain⟨j,hj,rfl⟩:=Xy.1 k1;obtain⟨pc,k3,k4⟩:=f2 _ j r hj (by simp_all)
     grind
  grind
 | .own e,cs,vs,d,m,l,hc,hl,aP,hf=>by
  simp only[Waz]at hf;split at hf
  .rename_i id;obtain⟨v,rfl,⟨_,hv⟩,_⟩:=hc.single;subst hv;have mG:∀{S:CS},Leaf ν (.own e) [.own id] [⟨ν id,S⟩]:=λ{S} lf k r k1 k2=>by
    cases lf with
    |zero=>
     simp[WbG]at k1;simp_all
    |succ n=>simp[WbG]at k1
   obtain⟨⟨ys,m'⟩,ho,hf⟩:=Xy.1 hf;simp only[Prod.mk.injEq]at hf;obtain⟨rfl,rfl,rfl⟩:=hf;unfold WvO at ho;split at ho
   .rename_i e' xs aZ;obtain⟨zs,br,ho⟩:=Xy.1 ho;have ho:=Prod.mk.inj ho;obtain⟨rfl,rfl⟩:=ho;obtain⟨he,hy⟩:=Way br;subst he;simp only at hy;subst hy;have aC:Live objs id:=⟨_,aZ,by simp⟩;have aw:OwnL w (TyRel G w e') e'.size (ν id) xs (φ id):=h.ob _ _ aZ;refine⟨[⟨ν id,φ id⟩],⟨_,rfl,rfl,WcZ hg (Same.refl _ w) (λ_ _ hh=>hh) aw⟩,Xbg _ _,?_,?_,by simp,mG⟩
    .simp_all [FromL.one]
    simp_all
   .rename_i e' xs i p aZ;split at ho
    .rename_i zs cs' br fS;split at ho
     .rename_i d' m'' mC;simp only[Option.some.injEq,Prod.mk.injEq]at ho;obtain⟨rfl,rfl⟩:=ho;obtain⟨he,hy⟩:=Way br;subst he;simp only at hy;subst hy;obtain⟨n1,n2⟩:=Xai.1 aP;obtain⟨n3,n4⟩:=Xai.1 n2;have aC:Live objs id:=⟨_,aZ,by simp⟩;have eh:Live objs p:=⟨_,fS,by simp⟩;obtain⟨lv,hole⟩:p<nx/\Wh0 w (TyRel G w e') e'.size (ν id) (ν p) xs i (φ id):=h.ob _ _ aZ;obtain⟨b,us,hb,hrow,hmem,bz,eG⟩:WcG G ν nx w p (φ p) (.box cs'):=h.ob _ _ fS;obtain⟨ns,t1,t2,t3,t4,_,_⟩:=Wal h hg e' cs' us d' m'' [] bz (λi hi=>by simp at hi) n4 mC;have cH:=WE _ _ _ _ t1;have rh:=WkA hg (Same.refl _ w) (λ_ _ hh=>hh) hole;rw[←bz.1,cH]at eG;have hne:id≠p:=λe=>n1 (by simp_all);refine⟨[⟨ν id,FromL φ objs (id::p::m'')⟩],⟨_,rfl,rfl,WpI rh t1 hb hmem eG t2 t3 ?_ ?_ ?_ ?_ ?_ ?_⟩,Xbg _ _,?_,?_,by simp,mG⟩
      .exactλb o h1 h2=>hne (h.inj id p b o aC eh h1 h2)
      .exactλb o h1 ⟨j,hj,h2,h3⟩=>by
        have:=h.inj id j b o aC h2 h1 h3;simp_all
      .exactλb o h1 ⟨j,hj,h2,h3⟩=>by
        have:=h.inj p j b o eh h2 h1 h3;simp_all
      .simp_all [FromL.one]
      .simp_all [FromL.one]
      .grind [FromL.mono,Xe]
      .intro p hp;simp at hp;subst hp;exactλ_ _ hh=>hh
      simp_all
     grind
    grind
   grind
  .rename_i id lo hi;obtain⟨v,rfl,⟨_,g1,g2,g3,hv⟩,_⟩:=hc.single;subst hv;split at hf
   .rename_i e' xs aZ;obtain⟨zs,br,hf⟩:=Xy.1 hf;have hf:=And.intro (Prod.mk.inj hf).1 (Prod.mk.inj (Prod.mk.inj hf).2);obtain⟨rfl,rfl,rfl⟩:=hf;obtain⟨he,hy⟩:=Way br;subst he;simp only at hy;subst hy;have aC:Live objs id:=⟨_,aZ,by simp⟩;have aw:OwnL w (TyRel G w e') e'.size (ν id) xs (φ id):=h.ob _ _ aZ;refine⟨[⟨(ν id).part lo hi,φ id⟩],⟨_,rfl,by rw[Wlz],Wm6 (WcZ hg (Same.refl _ w) (λ_ _ hh=>hh) aw) g1 g2⟩,Xbg _ _,?_,?_,by simp,WxC (by simp_all)⟩
    .simp_all [FromL.one]
    simp_all
   grind
  .simp only[Option.some.injEq,Prod.mk.injEq]at hf;obtain⟨rfl,rfl,rfl⟩:=hf;obtain⟨v,rfl,hv,_⟩:=hc.single;simp only[CellRel]at hv;subst hv;exact⟨[⟨⟨none,0,0,0,e.size⟩,λ_ _=>False⟩],⟨_,rfl,rfl,rfl,rfl,rfl⟩,Xbg _ _,λp hp b o hh=>by simp_all,by simp,by simp,WxC (by simp_all)⟩
  grind
 | .slice e,cs,vs,d,m,l,hc,hl,aP,hf=>by
  simp only[Waz]at hf;split at hf
  .rename_i id;obtain⟨v,rfl,⟨_,hv⟩,_⟩:=hc.single;subst hv;obtain⟨⟨ys,l'⟩,ho,hf⟩:=Xy.1 hf;simp only[Prod.mk.injEq]at hf;obtain⟨rfl,rfl,rfl⟩:=hf;unfold Wwf at ho;split at ho
   .rename_i e' xs aZ;obtain⟨zs,br,ho⟩:=Xy.1 ho;have ho:=Prod.mk.inj ho;obtain⟨rfl,rfl⟩:=ho;obtain⟨he,hy⟩:=Way br;subst he;simp only at hy;subst hy;have aC:Live objs id:=⟨_,aZ,by simp⟩;have aw:OwnL w (TyRel G w e') e'.size (ν id) xs (φ id):=h.ob _ _ aZ;refine⟨[],⟨rfl,_,rfl,Wjb hg (hl id (by simp) aC) aw⟩,List.Pairwise.nil,by simp,by simp,?_,Leaf.none rfl⟩;simp_all
   .rename_i e' xs i p aZ;split at ho
    .rename_i zs cs' br fS;split at ho
     .rename_i d' l'' mC;simp only[Option.some.injEq,Prod.mk.injEq]at ho;obtain⟨rfl,rfl⟩:=ho;obtain⟨he,hy⟩:=Way br;subst he;simp only at hy;subst hy;have aC:Live objs id:=⟨_,aZ,by simp⟩;have eh:Live objs p:=⟨_,fS,by simp⟩;obtain⟨lv,hole⟩:p<nx/\Wh0 w (TyRel G w e') e'.size (ν id) (ν p) xs i (φ id):=h.ob _ _ aZ;obtain⟨b,us,hb,hrow,hmem,bz,eG⟩:WcG G ν nx w p (φ p) (.box cs'):=h.ob _ _ fS;obtain⟨ns,t1,t2,t3,t4,t5,_⟩:=Wal h hg e'.ro cs' us d' [] l'' bz (hl.mono (λi hi=>Xe _ (Xe _ hi))) Xcx mC;obtain⟨t6,_⟩:=(Wbf e'.ro d' us ns (WoD e')).1 t1;have cH:=Enc_len _ _ _ t6;rw[WbN]at cH;rw[←bz.1,cH]at eG;refine⟨[],⟨rfl,_,rfl,Wrw hg hole t6 hb hmem eG (hl id (by simp) aC) (hl p (by simp) eh)⟩,List.Pairwise.nil,by simp,by simp,?_,Leaf.none rfl⟩;simp_all
     grind
    grind
   grind
  .rename_i id lo hi;obtain⟨v,rfl,⟨_,g1,g2,g3,hv⟩,_⟩:=hc.single;subst hv;split at hf
   .rename_i e' xs aZ;obtain⟨zs,br,hf⟩:=Xy.1 hf;have hf:=And.intro (Prod.mk.inj hf).1 (Prod.mk.inj (Prod.mk.inj hf).2);obtain⟨rfl,rfl,rfl⟩:=hf;obtain⟨he,hy⟩:=Way br;subst he;simp only at hy;subst hy;have aC:Live objs id:=⟨_,aZ,by simp⟩;have aw:OwnL w (TyRel G w e') e'.size (ν id) xs (φ id):=h.ob _ _ aZ;have hsl:=Wjb hg (hl id (by simp) aC) aw;refine⟨[],⟨rfl,_,rfl,?_⟩,List.Pairwise.nil,by simp,by simp,?_,Leaf.none rfl⟩
    .refine Wq3 (n:=e'.size) (λx c hc=>by grind [WbN,Enc_len]) hsl (by rw[WgD];exact aw.1) aw.2.1 g1 g2 g3 (λhb=>?_);cases uz:(ν id).blk with
     |none=>simp_all
     |some b=>
      have:=aw.2.2;simp only[uz]at this;exact⟨by rw[←aw.1];omega,this.2.1⟩
    simp_all
   grind
  .simp only[Option.some.injEq,Prod.mk.injEq]at hf;obtain⟨rfl,rfl,rfl⟩:=hf;obtain⟨v,rfl,hv,_⟩:=hc.single;simp only[CellRel]at hv;subst hv;exact⟨[],⟨rfl,_,rfl,.inl ⟨rfl,rfl⟩⟩,List.Pairwise.nil,by simp,by simp,by simp,Leaf.none rfl⟩
  .rename_i c _ _ _;cases ee:WjL (.slice e) c with
   |none=>simp_all
   |some x=>
    simp only[ee,Xbz,Option.some.injEq,Prod.mk.injEq]at hf;obtain⟨rfl,rfl,rfl⟩:=hf;obtain⟨v,rfl,hv,_⟩:=hc.single;exact⟨[],⟨rfl,Wgo hg hv ee⟩,List.Pairwise.nil,by simp,by simp,by simp,Leaf.none rfl⟩
  grind
 | .int k,cs,vs,d,m,l,hc,hl,aP,hf=>by
  simp only[Waz]at hf;split at hf
  .rename_i c;cases ee:WjL (.int k) c with
   |none=>simp_all
   |some x=>
    simp only[ee,Xbz,Option.some.injEq,Prod.mk.injEq]at hf;obtain⟨rfl,rfl,rfl⟩:=hf;obtain⟨v,rfl,hv,_⟩:=hc.single;exact⟨[],⟨rfl,Wgo hg hv ee⟩,List.Pairwise.nil,by simp,by simp,by simp,Leaf.none rfl⟩
  grind
 | .bool,cs,vs,d,m,l,hc,hl,aP,hf=>by
  simp only[Waz]at hf;split at hf
  .rename_i c;cases ee:WjL .bool c with
   |none=>simp_all
   |some x=>
    simp only[ee,Xbz,Option.some.injEq,Prod.mk.injEq]at hf;obtain⟨rfl,rfl,rfl⟩:=hf;obtain⟨v,rfl,hv,_⟩:=hc.single;exact⟨[],⟨rfl,Wgo hg hv ee⟩,List.Pairwise.nil,by simp,by simp,by simp,Leaf.none rfl⟩
  grind
 | .str,cs,vs,d,m,l,hc,hl,aP,hf=>by
  simp only[Waz]at hf;split at hf
  .rename_i c;cases ee:WjL .str c with
   |none=>simp_all
   |some x=>
    simp only[ee,Xbz,Option.some.injEq,Prod.mk.injEq]at hf;obtain⟨rfl,rfl,rfl⟩:=hf;obtain⟨v,rfl,hv,_⟩:=hc.single;exact⟨[],⟨rfl,Wgo hg hv ee⟩,List.Pairwise.nil,by simp,by simp,by simp,Leaf.none rfl⟩
  grind
theorem WnR(h:HRel w0 F G ν objs nx w){t:Ty}{cs:List Cell}{vs:List Value}{d:t.den}(hc:CellsRel G ν nx cs vs)(ht:t.data=true)(hf:Waz t cs objs=some (d,[],[])):Enc G t d vs:=by
 obtain⟨φ,h⟩:=h;obtain⟨ns,h1,_⟩:=Wal (G':=G) h (λ_ _ _ hh=>hh) t cs vs d [] [] hc (λid bv=>by simp at bv) Xcx hf
 grind [Wbf]
end
end Go.Sx
namespace Go.Sx
set_option linter.unusedVariables false
set_option linter.unusedSimpArgs false
section
variable{w0:World}{F:CS}{nt:Slots}{G0 G G':GH}{ν ν':Nat->Nu}{φ:Nat->CS}{objs objs':Wak}{nx ah:Nat}{st ae:St}{a:Act}{w w':World}{P:Program}{T:Tab}{Γ:Ctx}
theorem Whq(i:Nat):∀(l:List Nat),Wcy i l=true↔i∈l
 | []=>by simp[Wcy]
 |j::l=>by
  simp only[Wcy,Bool.or_eq_true,Whq i l,Xq];simp_all
open Classical in
noncomputable def Wr0(G:GH)(w:World)(S:CS):GH:=λb o=>if S b o then w.cell? ⟨b,o,none⟩else G b o
theorem Wtt{S:CS}{b o:Nat}(h:S b o):Wr0 G w S b o=w.cell? ⟨b,o,none⟩:=by unfold Wr0;rw[Wb h]
theorem Wdk{S:CS}{b o:Nat}(h:¬S b o):Wr0 G w S b o=G b o:=by unfold Wr0;rw[Wa h]
theorem WiK(S:CS):Froz (Wr0 G w S) w S:=λb o v hs hv=>by grind [Wtt]
theorem HR.addG_le(h:HR w0 F G ν φ objs nx w)(l:List Nat):GLe G (Wr0 G w (FromL φ objs l)):=λb o v hv=>by
 by_cases hs:FromL φ objs l b o
 .obtain⟨i,_,h1,h2⟩:=hs;rw[h.gf i b o h1 h2]at hv;cases hv
 grind [Wdk]
theorem HR.addG_w(h:HR w0 F G ν φ objs nx w)(l:List Nat):∀b o v,Wr0 G w (FromL φ objs l) b o=some v->w.cell? ⟨b,o,none⟩=some v:=λb o v hv=>by
 by_cases hs:FromL φ objs l b o
 .grind [Wtt]
 .rw[Wdk hs]at hv;exact h.g b o v hv
theorem HRel.freezeL(h:HRel w0 F G ν objs nx w)(gx:GExt w0.heap.size F G0 G)(l:List Nat):∃G1,GLe G G1/\HRel w0 F G1 ν (Sx.kill objs l) nx w/\GExt w0.heap.size F G0 G1/\
  ∀id∈l,∀(e:Ty) (xs:List e.den),look objs id=some (.arr e xs)->WjH G1 (Enc G1 e.ro) (WcH e xs) (ν id).hdr:=by
 obtain⟨φ,h⟩:=h;have ga:=h.addG_le l;refine⟨Wr0 G w (FromL φ objs l),ga,⟨φ,?_⟩,⟨λb o v hv=>ga b o v (gx.le b o v hv),λb o v hv=>?_⟩,λid bv e xs ho=>?_⟩
 .exact{
   g:=h.addG_w l
   ob:=λj ob hj=>by
    by_cases hd:ob= .dead
    .subst hd;trivial
    .obtain⟨hj,hn⟩:=WeH l j ob hj hd;exact WdJ ga (Same.refl _ w) (λ_ _ hh=>hh) (λ_ _=>rfl) (Xm _) (h.lt j ⟨ob,hj,hd⟩) ob (h.ob j ob hj)
   gf:=λj b o hj hp=>by
    obtain⟨hj,hn⟩:=WdA hj;rw[Wdk (λ⟨i,hi,h1,h2⟩=>hn (by rw[h.inj j i b o hj h1 hp h2];exact hi))];exact h.gf j b o hj hp
   inj:=λj j' b o hj hj'=>h.inj j j' b o (WdA hj).1 (WdA hj').1
   own:=λj b o hj=>h.own j b o (WdA hj).1
   lt:=λj hj=>h.lt j (WdA hj).1
   bl:=λj b o hj=>h.bl j b o (WdA hj).1
   le:=h.le}
 .by_cases hs:FromL φ objs l b o
  .obtain⟨i,_,h1,h2⟩:=hs;exact .inr (h.own i b o h1 h2)
  .rw[Wdk hs]at hv;exact gx.new b o v hv
 .exact Wjb ga ((WiK _).mono (FromL.one bv ⟨_,ho,by simp⟩)) (h.ob _ _ ho)
structure Frz(w0:World)(F:CS)(nt:Slots)(G0 G:GH)(ν:Nat->Nu)(st:St)(l:List Nat)(a:Act)(w:World)(G1:GH):Prop where
 le:GLe G G1
 rel:Rel w0 F nt G0 G1 ν {env:=st.env,objs:=kill st.objs l,nx:=st.nx} a w
 sl:∀id∈l,∀(e:Ty) (xs:List e.den),look st.objs id=some (.arr e xs)->WjH G1 (Enc G1 e.ro) (WcH e xs) (ν id).hdr
theorem Rel.frz(h:Rel w0 F nt G0 G ν st a w)(l:List Nat):∃G1,Frz w0 F nt G0 G ν st l a w G1:=by
 obtain⟨G1,h1,h2,h3,h4⟩:=h.h.freezeL h.gx l;exact⟨G1,h1,h.on h1 (λ_ _=>rfl) (Xm _) h2 h3,h4⟩
theorem Frz.cell{l:List Nat}{G1:GH}(h:Frz w0 F nt G0 G ν st l a w G1):∀(c:Cell) (v:Value),CellRel G ν st.nx c v->CellRel G1 ν st.nx (WkY st.objs l c) v:=by
 have mono:=λc v (hc:CellRel G ν st.nx c v)=>CellRel.mono (G':=G1) (ν':=ν) (ah:=st.nx) h.le (λ_ _=>rfl) (Xm _) c v hc;intro c v hc;cases c with
 |own id=>
  simp only[WkY];cases he:Wcy id l with
  |false=>simp_all
  |true=>
   simp only[We];have hm:=(Whq id l).1 he;split
   .rename_i e xs ho;obtain⟨_,hv⟩:=hc;rw[hv];exact⟨_,rfl,h.sl id hm e xs ho⟩
   .trivial
 |vw id lo hi=>exact mono _ v hc
 |val t d=>exact mono _ v hc
 |nils=>exact mono _ v hc
 |aptr id=>exact mono _ v hc
 |ptr id off=>exact mono _ v hc
 |eptr id i off=>exact mono _ v hc
 |rptr t d off=>exact mono _ v hc
 |clos f caps=>exact mono _ v hc
 |junk=>trivial
theorem Frz.val{l:List Nat}{G1:GH}(h:Frz w0 F nt G0 G ν st l a w G1):∀(x:AVal) (v:Value),AValRel G ν st.nx x v->AValRel G1 ν st.nx (Whv st.objs l x) v
 | .s (.one c),v,hx=>⟨h.cell c v hx.1,hx.2⟩
 | .s (.agg cs),v,⟨vs,he,h1,h2⟩=>by
  refine⟨vs,he,by simp[h1],λj c u hc hu=>?_⟩;rw[Xas]at hc;obtain⟨d,hd,rfl⟩:=Xy.1 hc;exact⟨h.cell d u (h2 j d u hd hu).1,(h2 j d u hd hu).2⟩
 | .tup xs,v,hx=>AValRel.mono h.le (λ_ _=>rfl) (Xm _) (.tup xs) v hx
end
end Go.Sx
