/- The abstract machine, part 1: a reflective interpreter of the program's code over data, with its soundness over the model. -/
import Derived.WalkKit
import Derived.LoopN
import Derived.KernelRfl
import Derived.ProofKit
import Derived.OpenShut
import Derived.JoinedCond
open Nat renaming beq→Xbj,blt→Xev,succ_mul→Xbq,add_comm→Xcj,add_assoc→Xan,lt_of_lt_of_le→Xbe,mul_le_mul_right→Xaz,min_eq_left→Xbw,le_refl→Xl,add_zero→Xat,eq_of_beq_eq_true→Xbt,add_mul→Xcp,zero_le→Xbk,le_trans→Xck,le_succ→Xdj,lt_succ_self→Xbl,zero_add→Xbd
open List renaming length→Xa,getD→Xc,append→Xf,replicate→Xag,length_append→Xs,length_cons→Xt,drop_drop→Xds,take_length_add_append→Xfa,drop_left→Xfx,getElem?_append→Xaq,getElem?_take→Xbb,getElem?_drop→Xbc,mem_append_left→Xj,mem_append_right→Xg,take_append_drop→Xcm,set_eq_take_append_cons_drop→Xeh,getElem?_eq_some_iff→Xr,mem_cons_of_mem→Xe,mem_map_of_mem→Xal,mem_cons_self→Xh,mem_singleton→Xab,length_take→Xau,length_drop→Xcu,mem_cons→Xm,map_append→Xn,mem_append→Xk,getElem?_append_left→Xav,getElem?_append_right→Xas,pairwise_cons→Xy,getElem?_eq_getElem→Xq,mapM_cons→Xew,map_cons→Xaj,getElem?_map→Xak,eq_nil_of_length_eq_zero→Xx,length_map→Xz,map_nil→Xbh,map_toArray→Xdt,mem_map→Xu,pairwise_append→Xaa,length_set→Xad,pairwise_singleton→Xba,nodup_cons→Xae,nodup_nil→Xcw
open Bool renaming and_eq_true→Xi
open Array renaming getElem?_toList→Xda,ext'→Xfz,getElem?_setIfInBounds_ne→Xeo,length_toList→Xap
open Option renaming map_some→Xbu,map_eq_some_iff→Xw
namespace Go.Sx
inductive Ty where
 |int (k:IntKind)|bool|str|slice (e:Ty)|own (e:Ty)|prod (a b:Ty)
 deriving DecidableEq
def Ty.den:Ty->Type
 | .int _=>Int
 | .bool=>Bool
 | .str=>List UInt8
 | .slice e=>List e.den
 | .own e=>List e.den
 | .prod a b=>a.den×b.den
def Ty.size:Ty->Nat
 | .prod a b=>a.size+b.size
 |_=>1
def Ty.dflt:(t:Ty)->t.den
 | .int _=>(0:Int)
 | .bool=>false
 | .str=>([]:List UInt8)
 | .slice e=>([]:List e.den)
 | .own e=>([]:List e.den)
 | .prod a b=>(a.dflt,b.dflt)
def Ty.noRo:Ty->Bool
 | .slice _=>false
 | .own e=>e.noRo
 | .prod a b=>a.noRo&&b.noRo
 |_=>true
def Ty.ro:Ty->Ty
 | .own e=>.slice e.ro
 | .slice e=>.slice e
 | .prod a b=>.prod a.ro b.ro
 | .int k=>.int k
 | .bool=>.bool
 | .str=>.str
theorem WcG:∀t:Ty,t.ro.den=t.den
 | .own e=>congrArg List (WcG e)
 | .slice _=>rfl
 | .prod a b=>by show(a.ro.den×b.ro.den)=(a.den×b.den);rw[WcG a,WcG b]
 | .int _| .bool| .str=>rfl
def WpB(t:Ty)(d:t.den):t.ro.den:=cast (WcG t).symm d
def Wby(t:Ty)(l:List t.den):List t.ro.den:=cast (congrArg List (WcG t).symm) l
def Wix(t t':Ty)(d:t.den):Option t'.den:=
 if h:t=t' then some (h▸d)else none
def Wej(e e':Ty)(l:List e.den):Option (List e'.den):=
 if h:e=e' then some (h▸l)else none
inductive Cell where
 |val (t:Ty) (d:t.den)
 |nils
 |own (id:Nat)
 |vw (id lo hi:Nat)
 |aptr (id:Nat)
 |ptr (id off:Nat)
 |eptr (id i off:Nat)
 |rptr (t:Ty) (d:t.den) (off:Nat)
 |clos (f:FuncId) (caps:List Nat)
 |junk
inductive AV where
 |one (c:Cell)
 |agg (cs:List Cell)
inductive AVal where
 |s (x:AV)
 |tup (xs:List AV)
inductive Ob where
 |box (cs:List Cell)
 |arr (e:Ty) (xs:List e.den)
 |hole (e:Ty) (xs:List e.den) (i p:Nat)
 |dead
abbrev WS:=List (Nat×Ob)
structure St where
 env:List (Nat×AVal)
 objs:WS
 nx:Nat
universe u
def Wc{α:Type u}:List (Nat×α)->Nat->Option α
 | [],_=>none
 |(k,v)::l,i=>match Xbj k i with|true=>some v|false=>Wc l i
abbrev GH:=Nat->Nat->Option Value
abbrev CS:=Nat->Nat->Prop
def CS.disj(A B:CS):Prop:=∀b o,A b o->B b o->False
def CS.le(A B:CS):Prop:=∀b o,A b o->B b o
def rng(b lo n:Nat):CS:=λb' o=>b'=b/\lo<=o/\o<lo+n
def Sep(l:List CS):Prop:=l.Pairwise CS.disj
structure Nu where
 blk:Option Nat
 off:Nat
 len:Nat
 cap:Nat
 esz:Nat
def Nu.hdr(n:Nu):Value:=match n.blk with
 |none=>.slice none 0 0
 |some b=>.slice (some ⟨b,n.off,none⟩) n.len n.cap
def Nu.vhdr(n:Nu)(lo hi:Nat):Value:=match n.blk with
 |none=>.slice none 0 0
 |some b=>.slice (some ⟨b,if n.cap=lo then n.off else n.off+lo*n.esz,none⟩) (hi-lo) (n.cap-lo)
structure Pc where
 nu:Nu
 fp:CS
def WdA(G:GH)(b off:Nat)(cs:List Value):Prop:=∀(j:Nat) (v:Value),cs[j]?=some v->G b (off+j)=some v
def EncL{α:Type}(R:α->List Value->Prop):List α->List Value->Prop
 | [],cs=>cs= []
 |x::l,cs=>∃c1 c2,cs=c1++c2/\R x c1/\EncL R l c2
def WgF{α:Type}(G:GH)(R:α->List Value->Prop)(l:List α)(v:Value):Prop:=
 (v= .slice none 0 0/\l= [])\/
 (∃b off cap cs,v= .slice (some ⟨b,off,none⟩) l.length cap/\l.length<=cap/\cap<=maxLen/\EncL R l cs/\WdA G b off cs)\/
 ∃a cap,v= .slice (some a) 0 cap/\l= []
def Enc(G:GH):(t:Ty)->t.den->List Value->Prop
 | .int k,n,cs=>cs= [.int k n]
 | .bool,b,cs=>cs= [.bool b]
 | .str,s,cs=>cs= [.string ⟨List.toArray s⟩]
 | .slice e,l,cs=>∃v,cs= [v]/\WgF G (Enc G e) l v
 | .own _,_,_=>False
 | .prod a b,d,cs=>∃c1 c2,cs=c1++c2/\Enc G a d.1 c1/\Enc G b d.2 c2
def CellRel(G:GH)(ν:Nat->Nu)(nx:Nat):Cell->Value->Prop
 | .val t d,v=>Enc G t d [v]
 | .nils,v=>v= .slice none 0 0
 | .own id,v=>id<nx/\v=(ν id).hdr
 | .vw id lo hi,v=>id<nx/\lo<=hi/\hi<=(ν id).len/\((ν id).blk=none->hi=0)/\v=(ν id).vhdr lo hi
 | .aptr id,v=>id<nx/\∃b,(ν id).blk=some b/\v= .pointer (some ⟨b,(ν id).off,none⟩)
 | .ptr id off,v=>id<nx/\∃b,(ν id).blk=some b/\v= .pointer (some ⟨b,(ν id).off+off,none⟩)
 | .eptr id i off,v=>id<nx/\i<(ν id).len/\∃b,(ν id).blk=some b/\v= .pointer (some ⟨b,(ν id).off+(i*(ν id).esz+off),none⟩)
 | .rptr t d off,v=>∃b o cs,v= .pointer (some ⟨b,o+off,none⟩)/\Enc G t d cs/\WdA G b o cs
 | .clos f caps,v=>∃vs:List Value,v= .func (.func f) #[] vs.toArray/\vs.length=caps.length/\
   ∀(j id:Nat) (u:Value),caps[j]?=some id->vs[j]?=some u->id<nx/\u.oneCell'=true/\∃b,(ν id).blk=some b/\u= .pointer (some ⟨b,(ν id).off+0,none⟩)
 | .junk,_=>True
def CellsRel(G:GH)(ν:Nat->Nu)(nx:Nat)(cs:List Cell)(vs:List Value):Prop:=
 vs.length=cs.length/\∀(j:Nat) (c:Cell) (v:Value),cs[j]?=some c->vs[j]?=some v->CellRel G ν nx c v/\v.oneCell'=true
def AvRel(G:GH)(ν:Nat->Nu)(nx:Nat):AV->Value->Prop
 | .one c,v=>CellRel G ν nx c v/\v.oneCell'=true
 | .agg cs,v=>∃vs:List Value,v= .agg vs.toArray/\CellsRel G ν nx cs vs
def Wn9(G:GH)(ν:Nat->Nu)(nx:Nat)(xs:List AV)(vs:List Value):Prop:=
 vs.length=xs.length/\∀(j:Nat) (x:AV) (v:Value),xs[j]?=some x->vs[j]?=some v->AvRel G ν nx x v
def AValRel(G:GH)(ν:Nat->Nu)(nx:Nat):AVal->Value->Prop
 | .s x,v=>AvRel G ν nx x v
 | .tup xs,v=>∃vs:List Value,v= .tuple vs.toArray/\Wn9 G ν nx xs vs
def Row(w:World)(b n:Nat):Prop:=∃vs T,w.heap[b]?=some (.cells vs T (0,0))/\n<=vs.size
def Mem(w:World)(b o:Nat)(vs:List Value):Prop:=∀(j:Nat) (v:Value),vs[j]?=some v->w.cell? ⟨b,o+j,none⟩=some v
def EncP{α:Type}(R:α->List Value->List Pc->Prop):List α->List Value->List Pc->Prop
 | [],cs,ps=>cs= []/\ps= []
 |x::l,cs,ps=>∃c1 c2 p1 p2,cs=c1++c2/\ps=p1++p2/\R x c1 p1/\EncP R l c2 p2
def OwnL{α:Type}(w:World)(R:α->List Value->List Pc->Prop)(n:Nat)(nu:Nu)(xs:List α)(S:CS):Prop:=
 xs.length=nu.len/\nu.esz=n/\match nu.blk with
  |none=>xs= []
  |some b=>xs.length<=nu.cap/\nu.cap<=maxLen/\Row w b (nu.off+nu.cap*n)/\∃cs ps,EncP R xs cs ps/\Mem w b nu.off cs/\
    Sep (rng b nu.off (nu.cap*n)::ps.map Pc.fp)/\∀s∈rng b nu.off (nu.cap*n)::ps.map Pc.fp,CS.le s S
def TyRel(G:GH)(w:World):(t:Ty)->t.den->List Value->List Pc->Prop
 | .own e,xs,vs,ns=>∃p:Pc,ns= [p]/\vs= [p.nu.hdr]/\OwnL w (TyRel G w e) e.size p.nu xs p.fp
 | .prod a b,d,vs,ns=>∃v1 v2 n1 n2,vs=v1++v2/\ns=n1++n2/\TyRel G w a d.1 v1 n1/\TyRel G w b d.2 v2 n2
 | .int k,d,vs,ns=>ns= []/\Enc G (.int k) d vs
 | .bool,d,vs,ns=>ns= []/\Enc G .bool d vs
 | .str,d,vs,ns=>ns= []/\Enc G .str d vs
 | .slice e,d,vs,ns=>ns= []/\Enc G (.slice e) d vs
def Wfm{α:Type}(w:World)(R:α->List Value->List Pc->Prop)(n:Nat)(nu np:Nu)(xs:List α)(i:Nat)(S:CS):Prop:=
 xs.length=nu.len/\nu.esz=n/\i<xs.length/\∃b,nu.blk=some b/\np.blk=some b/\np.off=nu.off+i*n/\xs.length<=nu.cap/\nu.cap<=maxLen/\Row w b (nu.off+nu.cap*n)/\
  ∃c1 c2 p1 p2,EncP R (xs.take i) c1 p1/\EncP R (xs.drop (i+1)) c2 p2/\Mem w b nu.off c1/\Mem w b (nu.off+(i+1)*n) c2/\
   Sep (rng b nu.off (i*n)::rng b (nu.off+(i+1)*n) ((nu.cap-(i+1))*n)::(p1++p2).map Pc.fp)/\
   ∀s∈rng b nu.off (i*n)::rng b (nu.off+(i+1)*n) ((nu.cap-(i+1))*n)::(p1++p2).map Pc.fp,CS.le s S
def Wbx(G:GH)(ν:Nat->Nu)(nx:Nat)(w:World)(id:Nat)(S:CS):Ob->Prop
 | .box cs=>∃b vs,(ν id).blk=some b/\Row w b ((ν id).off+cs.length)/\Mem w b (ν id).off vs/\CellsRel G ν nx cs vs/\CS.le (rng b (ν id).off cs.length) S
 | .arr e xs=>OwnL w (TyRel G w e) e.size (ν id) xs S
 | .hole e xs i p=>p<nx/\Wfm w (TyRel G w e) e.size (ν id) (ν p) xs i S
 | .dead=>True
def Live(objs:WS)(id:Nat):Prop:=∃ob,Wc objs id=some ob/\ob≠ .dead
structure WLe(F:CS)(w w':World):Prop where
 size:w.heap.size<=w'.heap.size
 row:∀(b:Nat) (vs:Array Value) (T:TypeId),w.heap[b]?=some (Obj.cells vs T (0,0))->∃vs':Array Value,w'.heap[b]?=some (Obj.cells vs' T (0,0))/\vs'.size=vs.size
 cell:∀(b o:Nat),b<w.heap.size->¬F b o->w'.cell? ⟨b,o,none⟩=w.cell? ⟨b,o,none⟩
 whole:∀(b:Nat),b<w.heap.size->(∀o,¬F b o)->w'.heap[b]?=w.heap[b]?
 os:w'.os=w.os
 output:w'.output=w.output
 tape:w'.tape=w.tape
structure HR(w0:World)(F:CS)(G:GH)(ν:Nat->Nu)(φ:Nat->CS)(objs:WS)(nx:Nat)(w:World):Prop where
 g:∀b o v,G b o=some v->w.cell? ⟨b,o,none⟩=some v
 ob:∀id ob,Wc objs id=some ob->Wbx G ν nx w id (φ id) ob
 gf:∀id b o,Live objs id->φ id b o->G b o=none
 inj:∀id bn b o,Live objs id->Live objs bn->φ id b o->φ bn b o->id=bn
 own:∀id b o,Live objs id->φ id b o->w0.heap.size<=b\/F b o
 lt:∀id,Live objs id->id<nx
 bl:∀id b o,Live objs id->φ id b o->b<w.heap.size
 le:WLe F w0 w
def HRel(w0:World)(F:CS)(G:GH)(ν:Nat->Nu)(objs:WS)(nx:Nat)(w:World):Prop:=∃φ,HR w0 F G ν φ objs nx w
structure GExt(B:Nat)(F:CS)(G G':GH):Prop where
 le:∀b o v,G b o=some v->G' b o=some v
 new:∀b o v,G' b o=some v->G b o=some v\/B<=b\/F b o
structure Slots where
 n:Nat
 kept:List (Nat×Value)
def Slots.Ok(s:Slots)(d:Nat):Prop:=d<s.n/\∀p∈s.kept,p.1≠d
structure Rel(w0:World)(F:CS)(nt:Slots)(G0:GH)(G:GH)(ν:Nat->Nu)(st:St)(a:Act)(w:World):Prop where
 defers:a.defers= []
 ntm:a.tmps.size=nt.n
 par:∀p∈nt.kept,a.tmps[p.1]?=some p.2
 env:∀i x,Wc st.env i=some x->∃v,a.tmps[i]?=some v/\AValRel G ν st.nx x v
 h:HRel w0 F G ν st.objs st.nx w
 gx:GExt w0.heap.size F G0 G
end Go.Sx
namespace Go.Sx
set_option linter.unusedVariables false
inductive Shape where
 |basic|slice (e:TypeId)|struct (fs:List (Nat×TypeId))|ptr (e:TypeId)|arr (n:Nat) (e:TypeId)
structure TE where
 ty:Ty
 agg:Bool
 shape:Shape
abbrev Tab:=List (TypeId×TE)
def TE.plain(te:TE):Bool:=match te.shape with
 | .arr _ _=>false
 |_=>true
def Wf(k:IntKind)(a b:Int):Int:=k.wrap (a+b)
def WN(k:IntKind)(a b:Int):Int:=k.wrap (a-b)
def Wia(k:IntKind)(a b:Int):Int:=k.wrap (a*b)
def Wri(k:IntKind)(a b:Int):Int:=k.wrap (a.tdiv b)
def WgB(a b:Int):Int:=a.tmod b
def Wpr(k:IntKind)(a b:Int):Int:=k.wrap (BitVec.ofInt k.bits a&&&BitVec.ofInt k.bits b).toNat
def ior(k:IntKind)(a b:Int):Int:=k.wrap (BitVec.ofInt k.bits a|||BitVec.ofInt k.bits b).toNat
def Wqs(k:IntKind)(a b:Int):Int:=k.wrap (BitVec.ofInt k.bits a^^^BitVec.ofInt k.bits b).toNat
def Wrb(k:IntKind)(a b:Int):Int:=k.wrap (BitVec.ofInt k.bits a&&& ~~~BitVec.ofInt k.bits b).toNat
def Wq5(k:IntKind)(a b:Int):Int:=k.wrap (a*2^(min b.toNat k.bits))
def Woe(k:IntKind)(a b:Int):Int:=a.fdiv (2^(min b.toNat k.bits))
def Wrh(a b:List UInt8):Bool:=!decide (((a.length+b.length:Nat):Int)>IntKind.i64.max)
def We{α:Type}(l:List α):Int:=(l.length:Int)
def inb(i:Int)(n:Nat):Bool:=decide (0<=i)&&decide (i<(n:Int))
def WB(n:Nat):Bool:=decide (n<=1073741824)
def Wol(l:List Int):List UInt8:=l.map λn=>UInt8.ofNat n.toNat
def ieq(a b:Int):Bool:=a==b
def beq(a b:Bool):Bool:=a==b
def seq(a b:List UInt8):Bool:=a==b
def inz(b:Int):Bool:=!decide (b=0)
def inn(b:Int):Bool:=!decide (b<0)
def one(t:Ty)(d:t.den):AVal:=.s (.one (.val t d))
def WqZ(op:BinOp)(k:IntKind)(a b:Int):Option (Bool×AVal):=
 match op with
 | .add=>some (true,one (.int k) (Wf k a b))
 | .sub=>some (true,one (.int k) (WN k a b))
 | .mul=>some (true,one (.int k) (Wia k a b))
 | .quo=>some (inz b,one (.int k) (Wri k a b))
 | .rem=>some (inz b,one (.int k) (WgB a b))
 | .and=>some (true,one (.int k) (Wpr k a b))
 | .or=>some (true,one (.int k) (ior k a b))
 | .xor=>some (true,one (.int k) (Wqs k a b))
 | .andNot=>some (true,one (.int k) (Wrb k a b))
 | .eql=>some (true,one .bool (a==b))
 | .neq=>some (true,one .bool (a !=b))
 | .lss=>some (true,one .bool (decide (a<b)))
 | .leq=>some (true,one .bool (decide (a<=b)))
 | .gtr=>some (true,one .bool (decide (a>b)))
 | .geq=>some (true,one .bool (decide (a>=b)))
 |_=>none
def Wq1(op:BinOp)(a b:List UInt8):Option (Bool×AVal):=
 match op with
 | .add=>some (Wrh a b,one .str (a++b))
 | .eql=>some (true,one .bool (seq a b))
 | .neq=>some (true,one .bool (!seq a b))
 |_=>none
def WhT(te:TE)(c d:Cell):Option Bool:=
 match te,c,d with
 |⟨.int _,false,.basic⟩,.val (.int k) a,.val (.int k') b=>if k=k' then some (ieq a b)else none
 |⟨.bool,false,.basic⟩,.val .bool a,.val .bool b=>some (beq a b)
 |⟨.str,false,.basic⟩,.val .str a,.val .str b=>some (seq a b)
 |_,_,_=>none
def WbR(T:Tab):List TypeId->List Cell->List Cell->Option Bool
 | [],[],[]=>some true
 |t::ts,c::cs,d::ds=>match Wc T t with
  |some te=>match WhT te c d,WbR T ts cs ds with
   |some x,some y=>some (x&&y)
   |_,_=>none
  |none=>none
 |_,_,_=>none
def binOp(T:Tab)(op:BinOp)(t:TypeId)(x y:AVal):Option (Bool×AVal):=
 match x,y with
 | .s (.one (.val (.int k) a)),.s (.one (.val (.int k') b))=>
  match op with
  | .shl=>some (inn b,one (.int k) (Wq5 k a b))
  | .shr=>some (inn b,one (.int k) (Woe k a b))
  |_=>if k=k' then WqZ op k a b else none
 | .s (.one (.val .str a)),.s (.one (.val .str b))=>Wq1 op a b
 | .s (.one (.val .bool a)),.s (.one (.val .bool b))=>
  match Wc T t with
  |some ⟨.bool,false,.basic⟩=>
   match op with
   | .eql=>some (true,one .bool (beq a b))
   | .neq=>some (true,one .bool (!beq a b))
   |_=>none
  |_=>none
 | .s (.agg cs),.s (.agg ds)=>
  match Wc T t with
  |some ⟨_,true,.struct fs⟩=>
   if decide (fs.map (·.1)=List.range fs.length)then
    match op,WbR T (fs.map (·.2)) cs ds with
    | .eql,some b=>some (true,one .bool b)
    | .neq,some b=>some (true,one .bool (!b))
    |_,_=>none
   else none
  |_=>none
 |_,_=>none
def unOp(op:UnOp)(x:AVal):Option (Bool×AVal):=
 match op,x with
 | .not,.s (.one (.val .bool b))=>some (true,one .bool (!b))
 | .neg,.s (.one (.val (.int k) n))=>some (true,one (.int k) (WN k 0 n))
 |_,_=>none
def split:(t:Ty)->t.den->List Cell
 | .prod a b,d=>split a d.1++split b d.2
 | .int k,d=>[.val (.int k) d]
 | .bool,d=>[.val .bool d]
 | .str,d=>[.val .str d]
 | .slice e,d=>[.val (.slice e) d]
 | .own e,d=>[.junk]
def WX:Value->Option Cell
 | .int k n=>some (.val (.int k) n)
 | .bool b=>some (.val .bool b)
 | .string s=>some (.val .str s.data.toList)
 | .slice none 0 0=>some .nils
 | .pointer none=>some .junk
 | .nilFunc=>some .junk
 |_=>none
def Wm3:Value->Option AVal
 | .agg cs=>(cs.toList.mapM WX).map λl=>.s (.agg l)
 |v=>(WX v).map λc=>.s (.one c)
def ev(st:St):Operand->Option AVal
 | .tmp t=>Wc st.env t
 | .const v=>Wm3 v
 | .func f=>some (.s (.one (.clos f [])))
 | .global _=>none
def St.put(st:St)(dst:Option Tmp)(x:AVal):St:=
 match dst with
 |some d=>{st with env:=(d,x)::st.env}
 |none=>st
def sub(agg:Bool)(cs:List Cell)(off n:Nat):Option AVal:=
 if agg then(if off+n<=cs.length then some (.s (.agg ((cs.drop off).take n)))else none)
 else(cs[off]?).map λc=>.s (.one c)
def Wfi(T:Tab)(st:St)(t:TypeId)(x:AVal):Option AVal:=
 match Wc T t with
 |some te=>
  if te.plain then
   match x with
   | .s (.one (.ptr id off))=>match Wc st.objs id with
    |some (.box cs)=>sub te.agg cs off te.ty.size
    |_=>none
   | .s (.one (.eptr id i off))=>match Wc st.objs id with
    |some (.arr e xs)=>sub te.agg (split e (xs.getD i e.dflt)) off te.ty.size
    |_=>none
   | .s (.one (.rptr t' d off))=>sub te.agg (split t' d) off te.ty.size
   |_=>none
  else none
 |none=>none
def Wpv(k:IntKind)(xs:List Int):Nat->Nat->List Cell
 |_,0=>[]
 |i,n+1=>.val (.int k) (xs.getD i (0:Int))::Wpv k xs (i+1) n
def WdY(T:Tab)(st:St)(t:TypeId)(x:AVal):Option (Bool×AVal):=
 match Wc T t with
 |some ⟨.int k,true,.arr n _⟩=>match x with
  | .s (.one (.aptr id))=>match Wc st.objs id with
   |some (.arr (.int k') xs)=>if k'=k then some (decide (Xa xs=n),.s (.agg (Wpv k xs 0 n)))else none
   |_=>none
  |_=>none
 |_=>none
def Wa2(k:IntKind):List Cell->Option (List Int)
 | []=>some []
 | .val (.int k') d::cs=>if k'=k then(Wa2 k cs).map λl=>(d:Int)::l else none
 |_=>none
def asI:AVal->Option Int
 | .s (.one (.val (.int _) n))=>some n
 |_=>none
def asB:AVal->Option Bool
 | .s (.one (.val .bool b))=>some b
 |_=>none
def obL(o:Option Ob):Option (Bool×AVal):=match o with
 |some (.arr _ xs)=>some (true,one (.int .i64) (We xs))
 |some (.hole _ xs _ _)=>some (true,one (.int .i64) (We xs))
 |_=>none
def Wgq(T:Tab)(st:St)(t:TypeId)(x:AVal):Option (Bool×AVal):=
 match Wc T t,x with
 |some ⟨_,false,.slice _⟩,.s (.one (.val (.slice _) l))=>some (true,one (.int .i64) (We l))
 |some ⟨_,false,.slice _⟩,.s (.one .nils)=>some (true,one (.int .i64) (0:Int))
 |some ⟨_,false,.slice _⟩,.s (.one (.own id))=>obL (Wc st.objs id)
 |some ⟨_,false,.slice _⟩,.s (.one (.vw _ lo hi))=>some (true,one (.int .i64) ((hi-lo:Nat):Int))
 |some ⟨.str,false,.basic⟩,.s (.one (.val .str s))=>some (true,one (.int .i64) (We (α:=UInt8) s))
 |_,_=>none
def Weo(T:Tab)(t:TypeId)(f:Nat):Option (Nat×TE):=
 match Wc T t with
 |some ⟨_,_,.struct fs⟩=>match fs[f]? with
  |some (off,ft)=>match Wc T ft with
   |some te=>if te.plain then some (off,te)else none
   |none=>none
  |none=>none
 |_=>none
def Wbk(T:Tab)(st:St)(t:TypeId)(x:AVal)(f:Nat):Option (Bool×AVal):=
 match Weo T t f,x with
 |some (off,_),.s (.one (.ptr id o))=>match Wc st.objs id with
  |some (.box _)=>some (true,.s (.one (.ptr id (o+off))))
  |_=>none
 |some (off,_),.s (.one (.eptr id i o))=>match Wc st.objs id with
  |some (.arr _ _)=>some (true,.s (.one (.eptr id i (o+off))))
  |_=>none
 |some (off,_),.s (.one (.rptr t' d o))=>some (true,.s (.one (.rptr t' d (o+off))))
 |_,_=>none
def Wj4(T:Tab)(t:TypeId)(x:AVal)(f:Nat):Option (Bool×AVal):=
 match Weo T t f,x with
 |some (off,te),.s (.agg cs)=>(sub te.agg cs off te.ty.size).map λv=>(true,v)
 |_,_=>none
def obI(te:TE)(n:Int)(id:Nat)(o:Option Ob):Option (Bool×AVal):=match o with
 |some (.arr e xs)=>if te.ty=e.ro then some (inb n xs.length,.s (.one (.eptr id n.toNat 0)))else none
 |some (.hole e xs i p)=>if te.ty=e.ro then some (inb n xs.length&&Xbj n.toNat i,.s (.one (.ptr p 0)))else none
 |_=>none
def Wqy(te:TE)(n:Int)(id lo hi:Nat)(o:Option Ob):Option (Bool×AVal):=match o with
 |some (.arr e xs)=>if te.ty=e.ro then some (inb n (hi-lo),.s (.one (.eptr id (lo+n.toNat) 0)))else none
 |_=>none
def Wqw(te:TE)(n:Int)(k:Nat)(id:Nat)(o:Option Ob):Option (Bool×AVal):=match o with
 |some (.arr e xs)=>if te.ty=e then some (inb n k&&decide (xs.length=k),.s (.one (.eptr id n.toNat 0)))else none
 |_=>none
def Wbc(T:Tab)(st:St)(t:TypeId)(x i:AVal):Option (Bool×AVal):=
 match Wc T t,asI i with
 |some ⟨_,_,.slice et⟩,some n=>match Wc T et with
  |some te=>
   if te.plain then match x with
    | .s (.one (.val (.slice e) l))=>if te.ty=e then some (inb n (Xa l),.s (.one (.rptr e (Xc l n.toNat e.dflt) 0)))else none
    | .s (.one .nils)=>some (false,.s (.one .junk))
    | .s (.one (.own id))=>obI te n id (Wc st.objs id)
    | .s (.one (.vw id lo hi))=>Wqy te n id lo hi (Wc st.objs id)
    |_=>none
   else none
  |none=>none
 |some ⟨_,_,.arr k et⟩,some n=>match Wc T et with
  |some te=>
   if te.plain then match x with
    | .s (.one (.aptr id))=>Wqw te n k id (Wc st.objs id)
    |_=>none
   else none
  |none=>none
 |_,_=>none
def Wj6(T:Tab)(t:TypeId)(x i:AVal):Option (Bool×AVal):=
 match Wc T t,x,asI i with
 |some ⟨.str,_,.basic⟩,.s (.one (.val .str s)),some n=>some (inb n (Xa s),one (.int .u8) ((Xc s n.toNat 0).toNat:Int))
 |some ⟨.int k,_,.arr m et⟩,.s (.agg cs),some n=>match Wc T et with
  |some ⟨.int k',false,.basic⟩=>match Wa2 k cs with
   |some l=>if k'=k/\cs.length=m then some (inb n m,one (.int k) (Xc l n.toNat (0:Int)))else none
   |none=>none
  |_=>none
 |_,_,_=>none
def WbG(n:Nat)(lo hi:Option Int):Bool×Nat×Nat:=
 match lo,hi with
 |none,none=>(true,0,n)
 |some l,none=>(decide (0<=l)&&decide (l<=(n:Int)),l.toNat,n)
 |none,some h=>(decide (0<=h)&&decide (h<=(n:Int)),0,h.toNat)
 |some l,some h=>(decide (0<=h)&&decide (h<=(n:Int))&&decide (0<=l)&&decide (l<=h),l.toNat,h.toNat)
def Wpo{α:Type}(l:List α)(lo hi:Option Int):List α:=
 match lo,hi with
 |none,none=>l
 |some a,none=>l.drop a.toNat
 |none,some b=>l.take b.toNat
 |some a,some b=>(l.take b.toNat).drop a.toNat
def Wik(st:St):Option Operand->Option (Option Int)
 |none=>some none
 |some x=>((ev st x).bind asI).map some
def Whn(T:Tab)(st:St)(t:TypeId)(x:AVal)(lo hi:Option Operand):Option (Bool×AVal):=
 match Wc T t,x,Wik st lo,Wik st hi with
 |some ⟨.str,_,.basic⟩,.s (.one (.val .str s)),some l,some h=>some ((WbG (Xa s) l h).1,one .str (Wpo s l h))
 |some ⟨_,_,.slice et⟩,.s (.one (.val (.slice e) xs)),some l,some h=>match Wc T et with
  |some te=>if te.ty=e/\te.plain then some ((WbG (Xa xs) l h).1,one (.slice e) (Wpo xs l h))else none
  |none=>none
 |_,_,_,_=>none
def WoN(st:St):AVal->Option Ob
 | .s (.one (.own id))=>Wc st.objs id
 |_=>none
def WqL(T:Tab)(o:Option Ob)(src dst:TypeId)(x:AVal):Option (Bool×AVal):=
 match Wc T src,Wc T dst,x with
 |some ⟨.int _,false,.basic⟩,some ⟨.int k,false,.basic⟩,.s (.one (.val (.int _) n))=>some (true,one (.int k) (k.wrap n))
 |some ⟨.str,false,.basic⟩,some ⟨.str,false,.basic⟩,.s (.one (.val .str s))=>some (true,one .str s)
 |some ⟨_,_,.slice et⟩,some ⟨.str,false,.basic⟩,.s (.one c)=>
  match Wc T et with
  |some ⟨.int .u8,false,.basic⟩=>match c with
   | .val (.slice (.int .u8)) l=>some (true,one .str (Wol l))
   | .nils=>some (true,one .str ([]:List UInt8))
   | .own _=>match o with
    |some (.arr (.int .u8) xs)=>some (true,one .str (Wol xs))
    |_=>none
   |_=>none
  |_=>none
 |_,_,_=>none
def Wg4(T:Tab)(st:St)(src dst:TypeId)(x:AVal):Option (Bool×AVal):=WqL T (WoN st x) src dst x
def Wma(st:St)(x:AVal):Option (Bool×AVal):=
 match x with
 | .s (.one (.rptr _ _ _))=>some (true,x)
 | .s (.one (.ptr id _))=>match Wc st.objs id with
  |some (.box _)=>some (true,x)
  |_=>none
 | .s (.one (.eptr id _ _))| .s (.one (.aptr id))=>match Wc st.objs id with
  |some (.arr _ _)=>some (true,x)
  |_=>none
 |_=>none
def Weu(st:St):List Operand->Option (List Nat)
 | []=>some []
 |o::l=>match ev st o,Weu st l with
  |some (.s (.one (.ptr id 0))),some r=>some (id::r)
  |_,_=>none
def Wrf(a b:Int):Int:=if b<a then b else a
def Wrg(a b:Int):Int:=if a<b then b else a
def Wmh(T:Tab)(st:St)(op:BinOp)(t:TypeId)(a b:AVal):Option (Bool×AVal):=
 match a,b with
 | .s (.one (.own id)),.s (.one .nils)=>match Wc T t with
  |some ⟨_,false,.slice _⟩=>match Wc st.objs id with
   |some (.arr _ xs)=>match op with
    | .eql=>some (Xev 0 xs.length,one .bool false)
    | .neq=>some (Xev 0 xs.length,one .bool true)
    |_=>none
   |_=>none
  |_=>none
 |_,_=>none
def WV(T:Tab)(st:St):Op->Option (Bool×AVal)
 | .move x| .assign x=>(ev st x).map λv=>(true,v)
 | .pick c a b=>match(ev st c).bind asB with
  |some p=>match ev st a,ev st b with
   |some (.s (.one (.val .bool x))),some (.s (.one (.val .bool y)))=>some (true,one .bool (bif p then x else y))
   |va,vb=>(bif p then va else vb).map λv=>(true,v)
  |none=>none
 | .load t a=>(ev st a).bind λv=>match WdY T st t v with
  |some r=>some r
  |none=>(Wfi T st t v).map λr=>(true,r)
 | .nilCheck x=>(ev st x).bind (Wma st)
 | .binOp op t x y _=>match ev st x,ev st y with
  |some a,some b=>match Wmh T st op t a b with
   |some r=>some r
   |none=>binOp T op t a b
  |_,_=>none
 | .unOp op _ x=>(ev st x).bind (unOp op)
 | .convert src dst x=>(ev st x).bind (Wg4 T st src dst)
 | .slice t x lo hi none=>(ev st x).bind λv=>Whn T st t v lo hi
 | .fieldAddr s x f=>(ev st x).bind λv=>Wbk T st s v f
 | .field t x f=>(ev st x).bind λv=>Wj4 T t v f
 | .indexAddr t x i=>match ev st x,ev st i with
  |some a,some b=>Wbc T st t a b
  |_,_=>none
 | .index t x i=>match ev st x,ev st i with
  |some a,some b=>Wj6 T t a b
  |_,_=>none
 | .extract t ix=>match ev st t with
  |some (.tup xs)=>(xs[ix]?).map λx=>(true,.s x)
  |_=>none
 | .makeFunc (.func f) first captured=>if first.isEmpty then(Weu st captured.toList).map λids=>(true,.s (.one (.clos f ids)))else none
 | .call c=>match c.callee,c.args.toList,c.argTypes.toList with
  | .builtin .len,[x],[t]=>(ev st x).bind (Wgq T st t)
  | .builtin .min,[x,y],[_,_]=>match ev st x,ev st y with
   |some (.s (.one (.val (.int k) a))),some (.s (.one (.val (.int k') b)))=>if k=k' then some (true,one (.int k) (Wrf a b))else none
   |_,_=>none
  | .builtin .max,[x,y],[_,_]=>match ev st x,ev st y with
   |some (.s (.one (.val (.int k) a))),some (.s (.one (.val (.int k') b)))=>if k=k' then some (true,one (.int k) (Wrg a b))else none
   |_,_=>none
  |_,_,_=>none
 |_=>none
def Wc7:Ty->List Cell
 | .prod a b=>Wc7 a++Wc7 b
 | .int k=>[.val (.int k) (0:Int)]
 | .bool=>[.val .bool false]
 | .str=>[.val .str ([]:List UInt8)]
 | .slice _=>[.nils]
 | .own _=>[.junk]
def Ty.data:Ty->Bool
 | .own _=>false
 | .prod a b=>a.data&&b.data
 |_=>true
def unfold:(t:Ty)->t.den->Nat->List Cell×WS×Nat
 | .prod a b,d,nx=>
  let x:=unfold a d.1 nx
  let y:=unfold b d.2 x.2.2
  (x.1++y.1,x.2.1++y.2.1,y.2.2)
 | .own e,d,nx=>([.own nx],[(nx,.arr e d)],nx+1)
 | .int k,d,nx=>([.val (.int k) d],[],nx)
 | .bool,d,nx=>([.val .bool d],[],nx)
 | .str,d,nx=>([.val .str d],[],nx)
 | .slice e,d,nx=>([.val (.slice e) d],[],nx)
def Wgu(t:Ty)(c:Cell):Option t.den:=
 match c with
 | .val t' d=>Wix t' t d
 |_=>none
def Wom(e:Ty)(objs:WS)(fc:List Cell->Option (e.den×List Nat×List Nat))(id:Nat):Option (List e.den×List Nat):=
 match Wc objs id with
 |some (.arr e' xs)=>(Wej e' e xs).map λys=>(ys,[id])
 |some (.hole e' xs i p)=>match Wej e' e xs,Wc objs p with
  |some ys,some (.box cs)=>match fc cs with
   |some (d,m,[])=>some (ys.set i d,id::p::m)
   |_=>none
  |_,_=>none
 |_=>none
def Wpw(e:Ty)(objs:WS)(fc:List Cell->Option (e.den×List Nat×List Nat))(id:Nat):Option (List e.den×List Nat):=
 match Wc objs id with
 |some (.arr e' xs)=>(Wej e'.ro e (Wby e' xs)).map λys=>(ys,[id])
 |some (.hole e' xs i p)=>match Wej e'.ro e (Wby e' xs),Wc objs p with
  |some ys,some (.box cs)=>match fc cs with
   |some (d,[],l)=>some (ys.set i d,id::p::l)
   |_=>none
  |_,_=>none
 |_=>none
def WZ:(t:Ty)->List Cell->WS->Option (t.den×List Nat×List Nat)
 | .prod a b,cs,objs=>match WZ a (cs.take a.size) objs,WZ b (cs.drop a.size) objs with
  |some (x,m,r),some (y,m',r')=>some ((x,y),m++m',r++r')
  |_,_=>none
 | .own e,cs,objs=>match cs with
  | [.own id]=>(Wom e objs (λcs=>WZ e cs objs) id).map λp=>(p.1,p.2,[])
  | [.vw id lo hi]=>match Wc objs id with
   |some (.arr e' xs)=>(Wej e' e xs).map λys=>((ys.take hi).drop lo,[id],[])
   |_=>none
  | [.nils]=>some (([]:List e.den),[],[])
  |_=>none
 | .slice e,cs,objs=>match cs with
  | [.own id]=>(Wpw e objs (λcs=>WZ e cs objs) id).map λp=>(p.1,[],p.2)
  | [.vw id lo hi]=>match Wc objs id with
   |some (.arr e' xs)=>(Wej e'.ro e (Wby e' xs)).map λys=>((ys.take hi).drop lo,[],[id])
   |_=>none
  | [.nils]=>some (([]:List e.den),[],[])
  | [c]=>(Wgu (.slice e) c).map λd=>(d,[],[])
  |_=>none
 | .int k,cs,_=>match cs with
  | [c]=>(Wgu (.int k) c).map λd=>(d,[],[])
  |_=>none
 | .bool,cs,_=>match cs with
  | [c]=>(Wgu .bool c).map λd=>(d,[],[])
  |_=>none
 | .str,cs,_=>match cs with
  | [c]=>(Wgu .str c).map λd=>(d,[],[])
  |_=>none
def Wba(i:Nat):List Nat->Bool
 | []=>false
 |j::l=>Xbj i j||Wba i l
def WaQ:List Nat->Bool
 | []=>true
 |i::l=>!Wba i l&&WaQ l
def eqN:List Nat->List Nat->Bool
 | [],[]=>true
 |i::l,j::m=>Xbj i j&&eqN l m
 |_,_=>false
def WeT(l m:List Nat):Bool:=l.all λi=>!Wba i m
def kill(objs:WS):List Nat->WS
 | []=>objs
 |i::l=>(i,.dead)::kill objs l
def cellsOf(agg:Bool):AVal->Option (List Cell)
 | .s (.one c)=>if agg then none else some [c]
 | .s (.agg cs)=>if agg then some cs else none
 | .tup _=>none
inductive PTy where
 |v (t:Ty) (agg:Bool)
 |box (t:Ty)
 |mut (e:Ty)
 |clos (g:FuncId) (n:Nat)
 |kv (t:Ty) (agg:Bool)
 |rp (t:Ty)
 |boxal (t:Ty) (lf:Nat)
 |vj (t:Ty)
def Ty.owns:Ty->Nat
 | .own _=>1
 | .prod a b=>a.owns+b.owns
 |_=>0
def Wdz:List PTy->Type
 | []=>Unit
 | .v t _::ps=>t.den×Wdz ps
 | .box t::ps=>t.den×Wdz ps
 | .mut e::ps=>List e.den×Wdz ps
 | .clos _ _::ps=>Wdz ps
 | .kv t _::ps=>t.den×Wdz ps
 | .rp t::ps=>t.den×Wdz ps
 | .vj _::ps=>Wdz ps
 | .boxal t _::ps=>t.den×Nat×Wdz ps
def Wd3:List PTy->Type
 | []=>Unit
 | .v _ _::ps=>Wd3 ps
 | .box t::ps=>t.den×Wd3 ps
 | .mut e::ps=>List e.den×Wd3 ps
 | .clos _ _::ps=>Wd3 ps
 | .kv t _::ps=>t.den×Wd3 ps
 | .rp _::ps=>Wd3 ps
 | .vj _::ps=>Wd3 ps
 | .boxal t _::ps=>t.den×Wd3 ps
def WeW:List PTy->Type
 | []=>Unit
 | .v t _::rs=>t.den×WeW rs
 | .box t::rs=>t.den×WeW rs
 | .mut _::rs=>WeW rs
 | .clos _ _::rs=>WeW rs
 | .kv _ _::rs=>WeW rs
 | .rp _::rs=>WeW rs
 | .vj t::rs=>t.den×WeW rs
 | .boxal _ _::rs=>WeW rs
structure Kp where
 id:Nat
 off:Nat
def kp0(l:List Nat):List Kp:=l.map λi=>⟨i,0⟩
structure Args(ps:List PTy) where
 d:Wdz ps
 moved:List Nat
 lent:List Nat
 kept:List Kp
 all:List Nat
def Waz:Ty->Nat->Option Nat
 | .own _,n=>match n with
  |0=>some 0
  |_+1=>none
 | .prod a b,n=>if n<a.owns then Waz a n else(Waz b (n-a.owns)).map (a.size+ ·)
 | .int _,_=>none
 | .bool,_=>none
 | .str,_=>none
 | .slice _,_=>none
def Wn2(objs:WS):Cell->AVal->Option Nat
 | .own r,.s (.one (.ptr p off))=>match off,Wc objs r with
  |0,some (.hole _ _ i p')=>if Xbj p p' then some i else none
  |_,_=>none
 | .own r,.s (.one (.eptr r' i off))=>match off,Wc objs r with
  |0,some (.arr _ _)=>if Xbj r r' then some i else none
  |_,_=>none
 |_,_=>none
def Wmw:Cell->Bool
 | .vw _ _ _=>false
 |_=>true
def WpF:AVal->Bool
 | .s (.one c)=>Wmw c
 | .s (.agg cs)=>cs.all Wmw
 | .tup _=>true
def WiS(objs:WS)(t:Ty)(m:List Nat)(x:AVal):Bool:=decide (m.length=t.owns)&&WpF x&&m.all λid=>match Wc objs id with
 |some (.arr _ _)=>true
 |_=>false
def Wg9(l:List Nat):List AVal:=l.map λid=>.s (.one (.ptr id 0))
def WP:(ps:List PTy)->List AVal->WS->Option (Args ps)
 | [],xs,_=>match xs with
  | []=>some ⟨(),[],[],[],[]⟩
  |_=>none
 | .v t agg::ps,xs,objs=>match xs with
  |x::xs=>match(cellsOf agg x).bind λcs=>WZ t cs objs,WP ps xs objs with
   |some (d,m,r),some A=>some ⟨(d,A.d),m++A.moved,r++A.lent,A.kept,m++A.all⟩
   |_,_=>none
  |_=>none
 | .box t::ps,xs,objs=>match xs with
  | .s (.one (.ptr id off))::xs=>match Wc objs id with
   |some (.box cs)=>match WZ t ((cs.drop off).take t.size) objs,WP ps xs objs with
    |some (d,m,[]),some A=>some ⟨(d,A.d),m++A.moved,A.lent,⟨id,off⟩::A.kept,id::(m++A.all)⟩
    |_,_=>none
   |_=>none
  |_=>none
 | .mut e::ps,xs,objs=>match xs with
  | .s (.one (.own id))::xs=>match Wc objs id with
   |some (.arr e' ys)=>match Wej e' e ys,WP ps xs objs with
    |some d,some A=>some ⟨(d,A.d),A.moved,A.lent,⟨id,0⟩::A.kept,id::A.all⟩
    |_,_=>none
   |_=>none
  |_=>none
 | .clos g n::ps,xs,objs=>match xs with
  | .s (.one (.clos g' caps))::xs=>if g'=g/\caps.length=n then(WP ps (Wg9 caps++xs) objs).map λA=>⟨A.d,A.moved,A.lent,A.kept,A.all⟩else none
  |_=>none
 | .kv t agg::ps,xs,objs=>match xs with
  |x::xs=>match(cellsOf agg x).bind λcs=>WZ t cs objs,WP ps xs objs with
   |some (d,m,r),some A=>if WiS objs t m x then some ⟨(d,A.d),A.moved,r++A.lent,kp0 m++A.kept,m++A.all⟩else none
   |_,_=>none
  |_=>none
 | .rp t::ps,xs,objs=>match xs with
  | .s (.one (.ptr id off))::xs=>match Wc objs id with
   |some (.box cs)=>match WZ t ((cs.drop off).take t.size) objs,WP ps xs objs with
    |some (d,[],r),some A=>if t.data then some ⟨(d,A.d),A.moved,id::(r++A.lent),A.kept,A.all⟩else none
    |_,_=>none
   |_=>none
  | .s (.one (.rptr t' d off))::xs=>match WZ t (((split t' d).drop off).take t.size) objs,WP ps xs objs with
   |some (d,[],[]),some A=>if t.data then some ⟨(d,A.d),A.moved,A.lent,A.kept,A.all⟩else none
   |_,_=>none
  |_=>none
 | .vj _::_,_,_=>none
 | .boxal t lf::ps,xs,objs=>match xs with
  | .s (.one (.ptr id off))::y::xs=>match Wc objs id with
   |some (.box cs)=>match WZ t ((cs.drop off).take t.size) objs,WP ps xs objs,((Waz t lf).bind λk=>((cs.drop off).take t.size)[k]?).bind λc=>Wn2 objs c y with
    |some (d,m,[]),some A,some i=>some ⟨(d,i,A.d),m++A.moved,A.lent,⟨id,off⟩::A.kept,id::(m++A.all)⟩
    |_,_,_=>none
   |_=>none
  |_=>none
def Wbu:(t:Ty)->t.den->List Nat->WS
 | .own e,d,ids=>match ids with
  |id::_=>[(id,.arr e d)]
  | []=>[]
 | .prod a b,d,ids=>Wbu a d.1 (ids.take a.owns)++Wbu b d.2 (ids.drop a.owns)
 | .int _,_,_=>[]
 | .bool,_,_=>[]
 | .str,_,_=>[]
 | .slice _,_,_=>[]
def WcH(cs:List Cell)(off:Nat)(ds:List Cell):List Cell:=cs.take off++ds++cs.drop (off+ds.length)
def Wfh(o:Option Ob)(off:Nat)(ds:List Cell):Ob:=match o with
 |some (.box cs)=>.box (WcH cs off ds)
 |_=>.dead
def WU:(ps:List PTy)->Wd3 ps->List Kp->WS->Nat->WS×Nat
 | [],_,_,objs,nx=>(objs,nx)
 | .v _ _::ps,o,ids,objs,nx=>WU ps o ids objs nx
 | .box t::ps,o,ids,objs,nx=>match ids with
  |k::ids=>
   let x:=unfold t o.1 nx
   WU ps o.2 ids ((k.id,Wfh (Wc objs k.id) k.off x.1)::(x.2.1++objs)) x.2.2
  | []=>(objs,nx)
 | .mut e::ps,o,ids,objs,nx=>match ids with
  |k::ids=>WU ps o.2 ids ((k.id,.arr e o.1)::objs) nx
  | []=>(objs,nx)
 | .clos _ _::ps,o,ids,objs,nx=>WU ps o ids objs nx
 | .kv t _::ps,o,ids,objs,nx=>WU ps o.2 (ids.drop t.owns) (Wbu t o.1 ((ids.take t.owns).map Kp.id)++objs) nx
 | .rp _::ps,o,ids,objs,nx=>WU ps o ids objs nx
 | .vj _::ps,o,ids,objs,nx=>WU ps o ids objs nx
 | .boxal t _::ps,o,ids,objs,nx=>match ids with
  |k::ids=>
   let x:=unfold t o.1 nx
   WU ps o.2 ids ((k.id,Wfh (Wc objs k.id) k.off x.1)::(x.2.1++objs)) x.2.2
  | []=>(objs,nx)
def Wqv(agg:Bool)(cs:List Cell):AV:=if agg then .agg cs else match cs with
 | [c]=>.one c
 |_=>.agg cs
def WaN:(rs:List PTy)->WeW rs->WS->Nat->List AV×WS×Nat
 | [],_,objs,nx=>([],objs,nx)
 | .v t agg::rs,d,objs,nx=>
  let x:=unfold t d.1 nx
  let y:=WaN rs d.2 (x.2.1++objs) x.2.2
  (Wqv agg x.1::y.1,y.2)
 | .box t::rs,d,objs,nx=>
  let x:=unfold t d.1 (nx+1)
  let y:=WaN rs d.2 ((nx,.box x.1)::(x.2.1++objs)) x.2.2
  (.one (.ptr nx 0)::y.1,y.2)
 | .mut _::rs,d,objs,nx=>WaN rs d objs nx
 | .clos _ _::rs,d,objs,nx=>WaN rs d objs nx
 | .kv _ _::rs,d,objs,nx=>WaN rs d objs nx
 | .rp _::rs,d,objs,nx=>WaN rs d objs nx
 | .vj t::rs,d,objs,nx=>
  let x:=unfold t d.1 nx
  let y:=WaN rs d.2 (x.2.1++objs) x.2.2
  (.agg (x.1++ [.junk])::y.1,y.2)
 | .boxal _ _::rs,d,objs,nx=>WaN rs d objs nx
def WqO:List AV->AVal
 | [x]=>.s x
 |xs=>.tup xs
structure Sig where
 ps:List PTy
 rs:List PTy
 fn:(R:Type)->Wdz ps->(Wd3 ps×WeW rs->Option R)->Option R
 run:Wdz ps->Option (Wd3 ps×WeW rs)
 law:∀(R:Type) (d:Wdz ps) (k:Wd3 ps×WeW rs->Option R),fn R d k=(run d).bind k
noncomputable def Sig.of(ps:List PTy)(rs:List PTy)(run:Wdz ps->Option (Wd3 ps×WeW rs)):Sig:=⟨ps,rs,λ_ d k=>(run d).bind k,run,λ_ _ _=>rfl⟩
theorem Sig.law'(s:Sig){R:Type}(d:Wdz s.ps)(k:Wd3 s.ps×WeW s.rs->Option R)(r:R)(h:s.fn R d k=some r):∃o,s.run d=some o/\k o=some r:=by
 rw[s.law]at h;cases hr:s.run d with
 |none=>rw[hr]at h;cases h
 |some o=>rw[hr]at h;exact⟨o,rfl,h⟩
def PTy.fresh:PTy->Bool
 | .v _ _=>true
 | .box t=>t.noRo
 | .mut e=>e.noRo
 | .clos _ _=>true
 | .kv t _=>t.noRo
 | .rp _=>true
 | .vj _=>true
 | .boxal t _=>t.noRo
def PTy.freshR:PTy->Bool
 | .v t _=>t.noRo
 | .box t=>t.noRo
 | .mut _=>true
 | .clos _ _=>true
 | .kv _ _=>true
 | .rp _=>true
 | .vj t=>t.noRo
 | .boxal _ _=>true
def Sig.fresh(s:Sig):Bool:=s.rs.all PTy.freshR&&s.ps.all PTy.fresh
abbrev Ctx:=List (FuncId×Sig)
def evs(st:St):List Operand->Option (List AVal)
 | []=>some []
 |o::l=>match ev st o,evs st l with
  |some x,some xs=>some (x::xs)
  |_,_=>none
abbrev KV(R:Type):=AVal->WS->Nat->Option R
def WdG{R:Type}(sg:Sig)(st:St)(xs:List AVal)(k:KV R):Option R:=
 match WP sg.ps xs st.objs with
 |some A=>
  if WaQ A.all&&WeT A.lent A.all&&(sg.fresh||A.lent.isEmpty)then
   sg.fn R A.d λo=>
    let p:=WU sg.ps o.1 A.kept (kill st.objs A.moved) st.nx
    let q:=WaN sg.rs o.2 p.1 p.2
    k (WqO q.1) q.2.1 q.2.2
  else none
 |none=>none
def Wig(objs:WS)(ids:List Nat):Cell->Cell
 | .own id=>bif Wba id ids then(match Wc objs id with
  |some (.arr e xs)=>.val (.slice e.ro) (Wby e xs)
  |_=>.junk)else .own id
 | .vw id lo hi=>.vw id lo hi
 | .val t d=>.val t d
 | .nils=>.nils
 | .aptr id=>.aptr id
 | .ptr id off=>.ptr id off
 | .eptr id i off=>.eptr id i off
 | .rptr t d off=>.rptr t d off
 | .clos f caps=>.clos f caps
 | .junk=>.junk
def Wfb(objs:WS)(ids:List Nat):AVal->AVal
 | .s (.one c)=>.s (.one (Wig objs ids c))
 | .s (.agg cs)=>.s (.agg (cs.map (Wig objs ids)))
 | .tup xs=>.tup xs
def Wnu:Cell->List Nat
 | .own id=>[id]
 | .vw _ _ _=>[]
 | .val _ _=>[]
 | .nils=>[]
 | .aptr _=>[]
 | .ptr _ _=>[]
 | .eptr _ _ _=>[]
 | .rptr _ _ _=>[]
 | .clos _ _=>[]
 | .junk=>[]
def WnA:AVal->List Nat
 | .s (.one c)=>Wnu c
 | .s (.agg cs)=>cs.flatMap Wnu
 | .tup _=>[]
def Wop:Ty->List Cell->List Nat
 | .prod a b,cs=>Wop a (cs.take a.size)++Wop b (cs.drop a.size)
 | .slice _,cs=>match cs with
  |c::_=>Wnu c
  | []=>[]
 | .own _,_=>[]
 | .int _,_=>[]
 | .bool,_=>[]
 | .str,_=>[]
def We1(e:Ty):AVal->List Nat
 | .s (.one c)=>Wop e [c]
 | .s (.agg cs)=>Wop e cs
 | .tup _=>[]
def WdM(objs:WS)(p v:AVal):List Nat:=match p with
 | .s (.one (.eptr id _ _))=>match Wc objs id with
  |some (.arr e _)=>bif e.data then WnA v else We1 e v
  |_=>[]
 |_=>[]
def WhA(ps:List (Nat×AVal)):List Nat:=ps.flatMap λp=>WnA p.2
def WcC(objs:WS)(l:List Nat):WS:=kill objs l
def Wh2(objs:WS)(ps:List (Nat×AVal)):List (Nat×AVal):=ps.map λp=>(p.1,Wfb objs (WhA ps) p.2)
def Wjg{R:Type}(sg:Sig)(st:St)(xs:List AVal)(k:KV R):Option R:=
 bif sg.fresh then WdG sg st xs k else match WP sg.ps xs st.objs with
  |some A=>match A.lent with
   | []=>WdG sg st xs k
   |_=>WdG sg {env:=st.env,objs:=kill st.objs A.lent,nx:=st.nx} (xs.map (Wfb st.objs A.lent)) k
  |none=>none
def St.new(st:St)(dst:Option Tmp)(ob:Ob)(x:AVal):St:=
 {env:=st.env,objs:=(st.nx,ob)::st.objs,nx:=st.nx+1:St}.put dst x
def St.turn(st:St)(id:Nat)(ob:Ob):St:={st with objs:=(id,ob)::st.objs}
def WeK:AVal->Option (List Cell)
 | .s (.one c)=>some [c]
 | .s (.agg cs)=>some cs
 | .tup _=>none
def WbN(T:Tab)(st:St)(t:TypeId)(x v:AVal):Option St:=
 match Wc T t,x,WeK v with
 |some te,.s (.one (.ptr id off)),some ds=>match Wc st.objs id with
  |some (.box cs)=>if decide (te.ty.size=ds.length)&&te.plain&&decide (off+ds.length<=cs.length)then some (st.turn id (.box (WcH cs off ds)))else none
  |_=>none
 |some te,.s (.one (.eptr id i off)),some ds=>match Wc st.objs id with
  |some (.arr e xs)=>
   if decide (te.ty.size=ds.length)&&te.plain&&decide (off+ds.length<=e.size)&&e.data then
    match WZ e (WcH (split e (xs.getD i e.dflt)) off ds) st.objs with
    |some (d,[],[])=>some (st.turn id (.arr e (xs.set i d)))
    |_=>none
   else if decide (te.ty.size=ds.length)&&te.plain&&decide (off=0)&&decide (ds.length=e.size)then
    match WZ e ds st.objs with
    |some (d,m,[])=>if WaQ (id::m)then some {env:=st.env,objs:=(id,.arr e (xs.set i d))::kill st.objs m,nx:=st.nx}else none
    |_=>none
   else none
  |_=>none
 |_,_,_=>none
def Wp6(st:St)(e:Ty):AVal->Option (List e.den)
 | .s (.one (.val (.slice e') d))=>Wej e' e d
 | .s (.one .nils)=>some []
 | .s (.one (.own id))=>match Wc st.objs id with
  |some (.arr e' xs)=>Wej e' e xs
  |_=>none
 | .s (.one (.vw id lo hi))=>match Wc st.objs id with
  |some (.arr e' xs)=>(Wej e' e xs).map λys=>(ys.take hi).drop lo
  |_=>none
 |_=>none
def Wpb(st:St)(e:Ty):AVal->Option (List e.den×List Nat)
 | .s (.one .nils)=>some ([],[])
 | .s (.one (.own id))=>match Wc st.objs id with
  |some (.arr e' xs)=>(Wej e' e xs).map λys=>(ys,[id])
  |_=>none
 |_=>none
def Wrk(st:St):AVal->Option Ty
 | .s (.one (.own id))=>match Wc st.objs id with
  |some (.arr e _)=>some e
  |_=>none
 |_=>none
def Wdb{R:Type}(st:St)(te:Ty)(s x:AVal)(k:KV R):Option R:=
 match s with
 | .s (.one .nils)=>match Wrk st x with
  |some e=>if e.ro=te then match Wpb st e x with
    |some (l,m)=>bif WB l.length then k (.s (.one (.own st.nx))) ((st.nx,.arr e l)::kill st.objs m) (st.nx+1)else none
    |none=>none
   else none
  |none=>none
 | .s (.one (.own id))=>match Wc st.objs id with
  |some (.arr e xs)=>if e.ro=te then match Wpb st e x with
    |some (l,m)=>if WaQ (id::m)then(bif WB (xs.length+l.length)then k (.s (.one (.own st.nx))) ((st.nx,.arr e (Xf xs l))::kill st.objs (id::m)) (st.nx+1)else none)else none
    |none=>none
   else none
  |_=>none
 |_=>none
def WoF(st:St):AVal->AVal->Bool
 | .s (.one (.own id)),_=>match Wc st.objs id with
  |some (.arr e _)=>e.data
  |_=>true
 | .s (.one .nils),.s (.one (.own id))=>match Wc st.objs id with
  |some (.arr e _)=>e.data
  |_=>true
 |_,_=>true
def Wcy{R:Type}(T:Tab)(st:St)(t t2:TypeId)(s x:AVal)(k:KV R):Option R:=
 match Wc T t,Wc T t2 with
 |some ⟨_,false,.slice et⟩,some _=>match Wc T et with
  |some te=>
   if t=t2/\te.plain/\te.ty.data then
    bif !WoF st s x then Wdb st te.ty s x k else
    match s,Wp6 st te.ty x with
    | .s (.one .nils),some l=>bif WB l.length then k (.s (.one (.own st.nx))) ((st.nx,.arr te.ty l)::st.objs) (st.nx+1)else none
    | .s (.one (.own id)),some l=>match Wc st.objs id with
     |some (.arr e xs)=>match Wix (.own e) (.own te.ty) xs with
      |some ys=>bif WB (Xa ys+l.length)then k (.s (.one (.own st.nx))) ((st.nx,.arr te.ty (Xf ys l))::(id,.dead)::st.objs) (st.nx+1)else none
      |none=>none
     |_=>none
    | .s (.one (.vw id 0 hi)),some l=>match Wc st.objs id with
     |some (.arr e xs)=>match Wix (.own e) (.own te.ty) xs with
      |some ys=>bif WB (hi+l.length)then k (.s (.one (.own st.nx))) ((st.nx,.arr te.ty (Xf (ys.take hi) l))::(id,.dead)::st.objs) (st.nx+1)else none
      |none=>none
     |_=>none
    |_,_=>none
   else none
  |none=>none
 |_,_=>none
def Wi9(T:Tab)(fs:List (Nat×TypeId)):List (Nat×AVal)->List Cell->Option (List Cell)
 | [],cs=>some cs
 |(i,x)::ps,cs=>match fs[i]? with
  |some (off,ft)=>match Wc T ft,WeK x with
   |some te,some ds=>if decide (te.ty.size=ds.length)&&decide (off+ds.length<=cs.length)then Wi9 T fs ps (WcH cs off ds)else none
   |_,_=>none
  |none=>none
def WlL(e:Ty)(objs:WS):List (Nat×AVal)->List e.den->Option (List e.den)
 | [],xs=>some xs
 |(i,x)::ps,xs=>match WeK x with
  |some ds=>match WZ e ds objs with
   |some (d,[],[])=>if i<xs.length then WlL e objs ps (xs.set i d)else none
   |_=>none
  |none=>none
def Wbz(st:St):List (Nat×Operand)->Option (List (Nat×AVal))
 | []=>some []
 |(i,o)::l=>match ev st o,Wbz st l with
  |some x,some xs=>some ((i,x)::xs)
  |_,_=>none
inductive An where
 |nest (e:Ty)
 |view
 |opn
def WqP(A:List (Nat×An))(o:Oper):Option An:=match o.dst with
 |some d=>Wc A d
 |none=>none
def Wb6{R:Type}(st:St)(e:Ty)(ps:List (Nat×AVal))(k:KV R):Option R:=
 match ps with
 | [p]=>if p.1=0 then match WeK (Wfb st.objs (We1 e p.2) p.2)with
  |some ds=>match WZ e ds (WcC st.objs (We1 e p.2))with
   |some (d,m,[])=>if WaQ m then k (.s (.one (.own st.nx))) ((st.nx,.arr e [d])::kill (WcC st.objs (We1 e p.2)) m) (st.nx+1)else none
   |_=>none
  |none=>none
  else none
 |_=>none
def WdF{R:Type}(st:St)(te:Ty)(id:Nat)(l h:Option Int)(k:KV R):Option R:=
 match Wc st.objs id with
 |some (.arr e xs)=>if te=e.ro then bif (WbG (Xa xs) l h).1 then k (.s (.one (.vw id (WbG (Xa xs) l h).2.1 (WbG (Xa xs) l h).2.2))) st.objs st.nx else none else none
 |_=>none
def WmX(o:Option Ob)(n:Nat):Bool:=match o with
 |some (.box cs)=>Xbj cs.length n
 |_=>false
def rxe{R:Type}(T:Tab)(Γ:Ctx)(A:List (Nat×An))(o:Oper)(st:St)(k:KV R):Option R:=
 match o.op with
 | .alloc t=>match Wc T t with
  |some ⟨e,true,.arr n _⟩=>if e.data&&WB n then k (.s (.one (.aptr st.nx))) ((st.nx,.arr e (Xag n e.dflt))::st.objs) (st.nx+1)else none
  |some te=>if te.plain then k (.s (.one (.ptr st.nx 0))) ((st.nx,.box (Wc7 te.ty))::st.objs) (st.nx+1)else none
  |none=>none
 | .box t x=>match Wc T t,(ev st x).bind WeK with
  |some _,some cs=>k (.s (.one (.ptr st.nx 0))) ((st.nx,.box cs)::st.objs) (st.nx+1)
  |_,_=>none
 | .build t parts=>match Wc T t,Wbz st parts.toList with
  |some ⟨ty,true,.struct fs⟩,some ps=>
   if fs.all (λf=>match Wc T f.2 with|some te=>te.plain|none=>false)then
    match Wi9 T fs ps (Wc7 ty)with
    |some cs=>k (.s (.agg cs)) st.objs st.nx
    |none=>none
   else none
  |_,_=>none
 | .buildSlice t n parts=>match Wc T t,Wbz st parts.toList with
  |some ⟨_,false,.slice et⟩,some ps=>match Wc T et with
   |some te=>match WqP A o with
    |some (.nest e)=>if decide (n=1)&&decide (e.ro=te.ty)&&te.plain&&decide (te.ty.size<=16777216)then Wb6 st e ps k else none
    |_=>match WlL te.ty (WcC st.objs (WhA ps)) (Wh2 st.objs ps) (Xag n te.ty.dflt)with
    |some xs=>if decide (n*te.ty.size<=16777216)&&te.ty.data&&te.plain then k (.s (.one (.own st.nx))) ((st.nx,.arr te.ty xs)::WcC st.objs (WhA ps)) (st.nx+1)else none
    |none=>none
   |none=>none
  |_,_=>none
 | .makeSlice t n c=>match Wc T t,(ev st n).bind asI,(ev st c).bind asI with
  |some ⟨_,false,.slice et⟩,some n',some c'=>match Wc T et with
   |some te=>match WqP A o with
    |some (.nest e)=>if decide (e.ro=te.ty)&&te.plain then(bif decide (0<=n')&&decide (n'<=c')&&WB c'.toNat then k (.s (.one (.own st.nx))) ((st.nx,.arr e (Xag n'.toNat e.dflt))::st.objs) (st.nx+1)else none)else none
    |_=>if te.ty.data&&te.plain then(bif decide (0<=n')&&decide (n'<=c')&&WB c'.toNat then k (.s (.one (.own st.nx))) ((st.nx,.arr te.ty (Xag n'.toNat te.ty.dflt))::st.objs) (st.nx+1)else none)else none
   |none=>none
  |_,_,_=>none
 | .store t a x=>match ev st a,ev st x with
  |some p,some v=>match WbN T {env:=st.env,objs:=WcC st.objs (WdM st.objs p v),nx:=st.nx} t p (Wfb st.objs (WdM st.objs p v) v)with
   |some af=>match o.dst with
    |none=>k (.tup []) af.objs af.nx
    |some _=>none
   |none=>none
  |_,_=>none
 | .slice t x lo hi none=>match ev st x with
  |some (.s (.one (.own id)))=>match Wc T t,Wik st lo,Wik st hi with
   |some ⟨_,false,.slice et⟩,some l,some h=>match Wc T et with
    |some te=>match WqP A o with
     |some .view=>if te.plain then WdF st te.ty id l h k else none
     |_=>match l,h,Wc st.objs id with
      |none,some h,some (.arr e xs)=>if te.ty=e.ro/\te.plain then(bif decide (0<=h)&&decide (h<=(xs.length:Int))then k (.s (.one (.own st.nx))) ((st.nx,.arr e (xs.take h.toNat))::(id,.dead)::st.objs) (st.nx+1)else none)else none
      |none,some h,some (.hole e xs i p)=>if te.ty=e.ro/\te.plain/\WmX (Wc st.objs p) e.size then(bif decide (0<=h)&&decide (h<=(xs.length:Int))&&decide (h<=(i:Int))then k (.s (.one (.own st.nx))) ((st.nx,.arr e (xs.take h.toNat))::(id,.dead)::(p,.dead)::st.objs) (st.nx+1)else none)else none
      |_,_,_=>none
    |none=>none
   |_,_,_=>none
  |_=>match WV T st o.op with
   |some (c,v)=>bif c then k v st.objs st.nx else none
   |none=>none
 | .call c=>match c.callee,c.args.toList,c.argTypes.toList with
  | .builtin .append,[s,x],[t,t2]=>match ev st s,ev st x with
   |some sv,some xv=>Wcy T st t t2 sv xv k
   |_,_=>none
  | .builtin .clear,[x],[t]=>match ev st x with
   |some (.s (.one (.vw id lo hi)))=>match Wc T t,Wc st.objs id with
    |some ⟨_,false,.slice et⟩,some (.arr e xs)=>match Wc T et with
     |some te=>if te.ty=e/\te.plain/\e.data then k (.tup []) ((id,.arr e (xs.take lo++Xag (hi-lo) e.dflt++xs.drop hi))::st.objs) st.nx else none
     |none=>none
    |_,_=>none
   |_=>none
  | .builtin _,_,_=>match WV T st o.op with
   |some (c,v)=>bif c then k v st.objs st.nx else none
   |none=>none
  | .value f,args,_=>match ev st f,evs st args with
   |some (.s (.one (.clos g caps))),some xs=>match Wc Γ g with
    |some sg=>Wjg sg st (xs++Wg9 caps) k
    |none=>none
   |_,_=>none
  |_,_,_=>none
 |op=>match WV T st op with
  |some (c,v)=>bif c then k v st.objs st.nx else none
  |none=>none
def rx1{R:Type}(T:Tab)(Γ:Ctx)(A:List (Nat×An))(o:Oper)(st:St)(k:St->Option R):Option R:=
 rxe T Γ A o st λx objs nx=>k (({env:=st.env,objs:=objs,nx:=nx}:St).put o.dst x)
def rxg{R:Type}(T:Tab)(Γ:Ctx)(A:List (Nat×An))(ops:Array Oper)(o:Oper)(st:St)(k:St->Option R):Option R:=
 match o.guard with
 |none=>rx1 T Γ A o st k
 |some (j,want)=>match(ops[j]?).bind (·.dst)with
  |some t=>match Wc st.env t with
   |some (.tup [])=>k (st.put o.dst (.tup []))
   |some x=>match asB x with
    |some b=>bif b
     then(if want then rx1 T Γ A o (st.put (some t) (one .bool true)) k else k ((st.put (some t) (one .bool true)).put o.dst (.tup [])))
     else(if want then k ((st.put (some t) (one .bool false)).put o.dst (.tup []))else rx1 T Γ A o (st.put (some t) (one .bool false)) k)
    |none=>none
   |none=>none
  |none=>none
inductive Ex where
 |normal|exit (id:Nat)|ret
def WjT{R:Type}(f:St->(Ex->St->Option R)->Option R):Nat->St->(Ex->St->Option R)->Option R
 |0,_,_=>none
 |n+1,st,k=>f st λe af=>match e with
  | .normal=>WjT f n af k
  | .exit id=>k (.exit id) af
  | .ret=>k .ret af
inductive Ghost where
 |canon (slots:List Nat)
 |adopt (slot:Nat) (e:Ty)
 |freeze (slot:Nat)
 |adoptC (slot off:Nat) (e:Ty)
 |freezeC (slot off:Nat)
 |nest (dst:Nat) (e:Ty)
 |view (dst:Nat)
 |opn (dst:Nat)
 |unfE (slot:Nat)
 |unfS (slot:Nat) (ix:Option Nat)
 |unfC (slot off:Nat) (ix:Option Nat)
 |empt (slot:Nat) (e:Ty)
 |refold (slot:Nat)
 |solo (slot:Nat)
 |soloC (slot off:Nat)
def Wju:List Ghost->List (Nat×An)
 | []=>[]
 | .nest d e::l=>(d,.nest e)::Wju l
 | .view d::l=>(d,.view)::Wju l
 | .opn d::l=>(d,.opn)::Wju l
 | .canon _::l=>Wju l
 | .adopt _ _::l=>Wju l
 | .freeze _::l=>Wju l
 | .adoptC _ _ _::l=>Wju l
 | .freezeC _ _::l=>Wju l
 | .unfE _::l=>Wju l
 | .unfS _ _::l=>Wju l
 | .unfC _ _ _::l=>Wju l
 | .refold _::l=>Wju l
 | .empt _ _::l=>Wju l
 | .solo _::l=>Wju l
 | .soloC _ _::l=>Wju l
def Waw:Cell->List Nat
 | .own id| .aptr id| .ptr id _| .eptr id _ _| .vw id _ _=>[id]
 | .clos _ caps=>caps
 |_=>[]
def Wdw:AV->List Nat
 | .one c=>Waw c
 | .agg cs=>cs.flatMap Waw
def Wap:AVal->List Nat
 | .s x=>Wdw x
 | .tup xs=>xs.flatMap Wdw
def Whq:Nat->List Nat->List Nat->WS->List Nat
 |0,_,acc,_=>acc
 |n+1,todo,acc,objs=>match todo with
  | []=>acc
  |i::l=>if Wba i acc then Whq n l acc objs else
   match Wc objs i with
   |some (.box cs)=>Whq n (l++cs.flatMap Waw) (acc++ [i]) objs
   |some (.arr _ _)=>Whq n l (acc++ [i]) objs
   |some (.hole _ _ _ p)=>Whq n (l++ [p]) (acc++ [i]) objs
   |_=>Whq n l acc objs
def WnP(i:Nat):List Nat->Option Nat
 | []=>none
 |j::l=>if Xbj i j then some 0 else(WnP i l).map (· +1)
def WjA(m:List Nat):List Nat->Option (List Nat)
 | []=>some []
 |i::l=>match WnP i m,WjA m l with
  |some j,some r=>some (j::r)
  |_,_=>none
def WbP(m:List Nat):Cell->Cell
 | .own id=>match WnP id m with|some j=>.own j|none=>.junk
 | .vw id lo hi=>match WnP id m with|some j=>.vw j lo hi|none=>.junk
 | .aptr id=>match WnP id m with|some j=>.aptr j|none=>.junk
 | .ptr id off=>match WnP id m with|some j=>.ptr j off|none=>.junk
 | .eptr id i off=>match WnP id m with|some j=>.eptr j i off|none=>.junk
 | .clos f caps=>match WjA m caps with|some js=>.clos f js|none=>.junk
 | .val t d=>.val t d
 | .nils=>.nils
 | .rptr t d off=>.rptr t d off
 | .junk=>.junk
def WpZ(m:List Nat):AV->AV
 | .one c=>.one (WbP m c)
 | .agg cs=>.agg (cs.map (WbP m))
def Wj8(m:List Nat):AVal->AVal
 | .s x=>.s (WpZ m x)
 | .tup xs=>.tup (xs.map (WpZ m))
def Woc(m:List Nat):Ob->Ob
 | .box cs=>.box (cs.map (WbP m))
 | .arr e xs=>.arr e xs
 | .hole e xs i p=>match WnP p m with|some j=>.hole e xs i j|none=>.dead
 | .dead=>.dead
def WdX(env:List (Nat×AVal)):List Nat->List (Nat×AVal)
 | []=>[]
 |i::l=>match Wc env i with
  |some x=>(i,x)::WdX env l
  |none=>WdX env l
def Wcw(m:List Nat)(objs:WS):Nat->List Nat->WS
 |_,[]=>[]
 |j,i::l=>match Wc objs i with
  |some ob=>(j,Woc m ob)::Wcw m objs (j+1) l
  |none=>Wcw m objs (j+1) l
def canon(slots:List Nat)(st:St):St:=
 let env:=WdX st.env slots
 let m:=Whq 400 (env.flatMap λp=>Wap p.2) [] st.objs
 {env:=env.map λp=>(p.1,Wj8 m p.2),objs:=Wcw m st.objs 0 m,nx:=m.length}
def WiK(st:St)(r i:Nat):Option St:=
 match Wc st.objs r with
 |some (.arr e xs)=>
  let x:=unfold e (xs.getD i e.dflt) (st.nx+1)
  some {env:=st.env,objs:=(r,.hole e xs i st.nx)::(st.nx,.box x.1)::(x.2.1++st.objs),nx:=x.2.2}
 |_=>none
def Wpx(st:St)(r:Nat):Option Nat->Option (Bool×Nat)
 |none=>match Wc st.objs r with
  |some (.arr _ xs)=>some (inb (WN .i64 (We xs) 1) (Xa xs),(WN .i64 (We xs) 1).toNat)
  |_=>none
 |some s=>match Wc st.objs r,(Wc st.env s).bind asI with
  |some (.arr _ xs),some n=>some (inb n (Xa xs),n.toNat)
  |_,_=>none
def Wlp(st:St)(r:Nat)(ix:Option Nat):Option (Bool×St):=
 match Wpx st r ix with
 |some (c,i)=>(WiK st r i).map λaf=>(c,af)
 |none=>none
def Wjs(p:Nat):WS->Option Nat
 | []=>none
 |(r,.hole _ _ _ p')::l=>if Xbj p p' then some r else Wjs p l
 |(_,.box _)::l=>Wjs p l
 |(_,.arr _ _)::l=>Wjs p l
 |(_,.dead)::l=>Wjs p l
def Wkb(st:St)(p:Nat):Option St:=
 match Wjs p st.objs with
 |some r=>match Wc st.objs r,Wc st.objs p with
  |some (.hole e xs i p'),some (.box cs)=>match WZ e cs st.objs with
   |some (d,m,[])=>if Xbj p p'&&WaQ (r::p::m)then some {env:=st.env,objs:=(r,.arr e (xs.set i d))::kill st.objs (p::m),nx:=st.nx}else none
   |_=>none
  |_,_=>none
 |none=>none
def WdQ(g:Ghost)(st:St):Option (Bool×St):=
 match g with
 | .canon slots=>some (true,canon slots st)
 | .adopt slot e=>match Wc st.env slot with
  |some (.s (.one .nils))=>some (true,st.new (some slot) (.arr e []) (.s (.one (.own st.nx))))
  |some (.s (.one (.own _)))=>some (true,st)
  |_=>none
 | .freeze slot=>match Wc st.env slot with
  |some (.s (.one (.own id)))=>match Wc st.objs id with
   |some (.arr e xs)=>some (true,(st.turn id .dead).put (some slot) (one (.slice e.ro) (Wby e xs)))
   |_=>none
  |_=>none
 | .adoptC slot off e=>match Wc st.env slot with
  |some (.s (.one (.ptr id 0)))=>match Wc st.objs id with
   |some (.box cs)=>match cs[off]? with
    |some .nils=>some (true,{env:=st.env,objs:=(id,.box (cs.set off (.own st.nx)))::(st.nx,.arr e [])::st.objs,nx:=st.nx+1})
    |some (.own _)=>some (true,st)
    |_=>none
   |_=>none
  |_=>none
 | .freezeC slot off=>match Wc st.env slot with
  |some (.s (.one (.ptr id 0)))=>match Wc st.objs id with
   |some (.box cs)=>match cs[off]? with
    |some (.own j)=>match Wc st.objs j with
     |some (.arr e xs)=>some (true,{st with objs:=(id,.box (cs.set off (.val (.slice e.ro) (Wby e xs))))::(j,.dead)::st.objs})
     |_=>none
    |some (.val _ _)=>some (true,st)
    |some .nils=>some (true,st)
    |_=>none
   |_=>none
  |_=>none
 | .nest _ _=>some (true,st)
 | .view _=>some (true,st)
 | .opn _=>some (true,st)
 | .unfE slot=>match Wc st.env slot with
  |some (.s (.one (.eptr r i 0)))=>(WiK st r i).map λaf=>(true,af.put (some slot) (.s (.one (.ptr st.nx 0))))
  |_=>none
 | .unfS slot ix=>match Wc st.env slot with
  |some (.s (.one (.own r)))=>Wlp st r ix
  |_=>none
 | .unfC slot off ix=>match Wc st.env slot with
  |some (.s (.one (.ptr id o)))=>match Wc st.objs id with
   |some (.box cs)=>match cs[o+off]? with
    |some (.own r)=>Wlp st r ix
    |_=>none
   |_=>none
  |_=>none
 | .refold slot=>match Wc st.env slot with
  |some (.s (.one (.ptr p _)))=>(Wkb st p).map λaf=>(true,af)
  |_=>none
 | .empt slot e=>match Wc st.env slot with
  |some (.s (.one (.own id)))=>match Wc st.objs id with
   |some (.arr e' [])=>if e.size=e'.size/\e.ro=e'.ro then some (true,st.turn id (.arr e []))else none
   |_=>none
  |_=>none
 | .solo slot=>match Wc st.env slot with
  |some (.s (.one (.vw id lo hi)))=>match Wc st.objs id with
   |some (.arr e xs)=>some (true,(st.turn id .dead).new (some slot) (.arr e ((xs.take hi).drop lo)) (.s (.one (.own st.nx))))
   |_=>none
  |some (.s (.one (.own _)))=>some (true,st)
  |_=>none
 | .soloC slot off=>match Wc st.env slot with
  |some (.s (.one (.ptr id o)))=>match Wc st.objs id with
   |some (.box cs)=>match cs[o+off]? with
    |some (.vw j lo hi)=>match Wc st.objs j with
     |some (.arr e xs)=>some (true,{env:=st.env,objs:=(id,.box (cs.set (o+off) (.own st.nx)))::(st.nx,.arr e ((xs.take hi).drop lo))::(j,.dead)::st.objs,nx:=st.nx+1})
     |_=>none
    |some (.own _)=>some (true,st)
    |_=>none
   |_=>none
  |_=>none
def WcF:List Ghost->St->Option (Bool×St)
 | [],st=>some (true,st)
 |g::l,st=>match WdQ g st with
  |some (c,af)=>match WcF l af with
   |some (c',bI)=>some (c&&c',bI)
   |none=>none
  |none=>none
def opG(A:List (Nat×An))(o:Oper)(st:St):Option (Bool×St):=match WqP A o,o.dst with
 |some .opn,some d=>match Wc st.env d with
  |some (.tup [])=>some (true,st)
  |_=>WdQ (.unfE d) st
 |some .view,_=>some (true,st)
 |some (.nest _),_=>some (true,st)
 |none,_=>some (true,st)
 |some .opn,none=>some (true,st)
def rxs{R:Type}(T:Tab)(Γ:Ctx)(A:List (Nat×An))(ops:Array Oper):List Oper->St->(St->Option R)->Option R
 | [],st,k=>k st
 |o::l,st,k=>rxg T Γ A ops o st λaf=>match opG A o af with
  |some (c,bI)=>bif c then rxs T Γ A ops l bI k else none
  |none=>none
def WdS:Code->Option Nat
 | .region id _ _=>some id
 | .seq a b=>match WdS a with
  |some i=>some i
  |none=>WdS b
 | .cond _ a b=>match WdS a with
  |some i=>some i
  |none=>WdS b
 | .block _ c=>WdS c
 | .loop c=>(WdS c).map (· +100000)
 |_=>none
def WdK(c:Code):Nat:=match WdS c with
 |some i=>i+100000
 |none=>99999
def Wg3{R:Type}(gs:List Ghost)(f:St->(Ex->St->Option R)->Option R)(st:St)(k:Ex->St->Option R):Option R:=
 f st λe af=>match e with
  | .normal=>match WcF gs af with
   |some (c,bI)=>bif c then k .normal bI else none
   |none=>none
  | .exit id=>k (.exit id) af
  | .ret=>k .ret af
def WR:Op->List Operand
 | .move x| .assign x| .box _ x| .load _ x| .nilCheck x| .unOp _ _ x| .convert _ _ x| .fieldAddr _ x _| .field _ x _| .extract x _=>[x]
 | .pick c a b=>[c,a,b]
 | .build _ ps| .buildSlice _ _ ps=>ps.toList.map (·.2)
 | .store _ a v| .binOp _ _ a v _| .makeSlice _ a v| .indexAddr _ a v| .index _ a v=>[a,v]
 | .makeFunc _ first captured=>first.toList++captured.toList
 | .slice _ x l h m=>x::(l.toList++(h.toList++m.toList))
 | .call c=>(match c.callee with| .value f=>[f]|_=>[])++c.args.toList
 |_=>[]
def Wag(o:Oper):Bool:=match o.op with
 | .alloc _| .box _ _| .buildSlice _ _ _| .makeSlice _ _ _| .store _ _ _| .slice _ _ _ _ _=>true
 | .call c=>match c.callee with
  | .builtin .append=>true
  | .builtin .clear=>true
  | .builtin _=>false
  |_=>true
 |_=>false
def Wqh:Op->Bool
 | .load _ _| .nilCheck _| .binOp _ _ _ _ _| .convert _ _ _| .fieldAddr _ _ _| .indexAddr _ _ _| .call _=>true
 |_=>false
def WcT(st:St):List Operand->List Nat
 | []=>[]
 |x::l=>match ev st x with
  |some v=>Wap v++WcT st l
  |none=>WcT st l
def WbM(o:Oper)(st:St):List Nat:=bif Wqh o.op then WcT st (WR o.op)else []
def We4(l:WS):List Nat:=l.map (·.1)
def Wnp(a b:WS):List Nat:=We4 (b.take (b.length-a.length))
def WqT(x:Nat)(l:List Nat):List Nat:=bif Wba x l then l else x::l
def Wis:List Nat->List Nat->List Nat
 | [],l=>l
 |x::m,l=>Wis m (WqT x l)
def WjE(o:Oper):List Nat:=(o.after.toList.filter (Region.binds .any)).map (·.on)
def WhH(acc:List (List Nat)):List Nat->List Nat->List Nat
 | [],l=>l
 |j::ds,l=>WhH acc ds (Wis (acc.getD j []) (WqT j l))
def WcN:List Oper->List (List Nat)->List (List Nat)
 | [],acc=>acc
 |o::l,acc=>WcN l (acc++ [WhH acc (WjE o) []])
def WbW(B:List (List Nat))(j i:Nat):Bool:=Wba j (B.getD i [])
def Wpc:List Oper->Nat->Bool
 | [],_=>true
 |o::l,n=>(WjE o).all (λd=>Xev d n)&&Wpc l (n+1)
def WmL:Operand->List Nat
 | .tmp t=>[t]
 |_=>[]
def Wb7(ops:Array Oper)(o:Oper):List Nat:=(WR o.op).flatMap WmL++(match o.guard with
 |some (j,_)=>((ops[j]?).bind (·.dst)).toList
 |none=>[])
def Wfe:List Oper->Nat->List (Nat×Nat)
 | [],_=>[]
 |o::l,i=>match o.dst with
  |some d=>(d,i)::Wfe l (i+1)
  |none=>Wfe l (i+1)
def Whs(ops:Array Oper)(B:List (List Nat))(D:List (Nat×Nat)):List Oper->Nat->Bool
 | [],_=>true
 |o::l,i=>(Wb7 ops o).all (λt=>D.all λp=>!Xbj p.1 t||Xbj p.2 i||WbW B p.2 i||WbW B i p.2)&&Whs ops B D l (i+1)
def Wp1(ops:Array Oper)(B:List (List Nat)):Bool:=
 Wpc ops.toList 0&&WaQ ((Wfe ops.toList 0).map (·.1))&&Whs ops B (Wfe ops.toList 0) ops.toList 0
def Wfa:List Oper->Nat->List Nat
 | [],_=>[]
 |o::l,i=>bif Wag o then i::Wfa l (i+1)else Wfa l (i+1)
def WpN(B:List (List Nat)):Nat->List Nat->List (List Nat)
 |0,_=>[[]]
 |n+1,rem=>match rem with
  | []=>[[]]
  |_=>(rem.filter λm=>rem.all λm'=>!WbW B m' m).flatMap λm=>(WpN B n (rem.filter λx=>!Xbj x m)).map (m:: ·)
def Wps(ops:List Oper)(B:List (List Nat))(done:List Nat)(σ:List Nat):Nat->Option Nat:=λi=>match ops with
 | []=>none
 |o::l=>bif !Wba i done&&(B.getD i []).all (λj=>Wba j done)&&(!Wag o||(match σ with|m::_=>Xbj m i| []=>false))then some i else Wps l B done σ (i+1)
def WhD(ops:List Oper)(B:List (List Nat)):Nat->List Nat->List Nat->List Nat
 |0,_,_=>[]
 |n+1,done,σ=>match Wps ops B done σ 0 with
  |some i=>i::WhD ops B n (i::done) (match σ with|m::σ'=>bif Xbj m i then σ' else σ| []=>[])
  |none=>[]
def Wgw(ops:Array Oper):List Nat->List Nat->Bool
 | [],done=>Xbj done.length ops.size
 |i::l,done=>!Wba i done&&(match ops[i]? with|some o=>(WjE o).all (λd=>Wba d done)|none=>false)&&Wgw ops l (i::done)
def Weq{α:Type}:List Nat->(List Nat->α)->α
 | [],k=>k []
 |x::l,k=>Weq l λl'=>k (x::l')
def WkM{α:Type}:List (List Nat)->(List (List Nat)->α)->α
 | [],k=>k []
 |x::l,k=>Weq x λx'=>WkM l λl'=>k (x'::l')
def rdx{R:Type}(T:Tab)(Γ:Ctx)(A:List (Nat×An))(ops:Array Oper)(B:List (List Nat)):List Nat->List (Nat×List Nat)->List (Nat×List Nat)->St->(St->Option R)->Option R
 | [],_,_,st,k=>k st
 |i::l,fl,mu,st,k=>match ops[i]? with
  |some o=>bif Wag o
   then rxg T Γ A ops o st λaf=>Weq (Wnp st.objs af.objs) λids=>
    bif fl.all (λp=>WbW B p.1 i||WeT p.2 ids)then rdx T Γ A ops B l fl ((i,ids)::mu) af k else none
   else Weq (WbM o st) λids=>
    bif mu.all (λp=>WbW B p.1 i||WeT ids p.2)then rxg T Γ A ops o st λaf=>rdx T Γ A ops B l ((i,ids)::fl) mu af k else none
  |none=>none
def WJ{α β:Type}(x:α)(f:α->β):β:=f x
open Classical in
noncomputable def Wmo{α:Type}(a b:Option α):Option α:=if a=b then a else none
noncomputable def Wqp{R:Type}(T:Tab)(Γ:Ctx)(A:List (Nat×An))(ops:Array Oper)(B:List (List Nat))(st:St)(k:St->Option R):List (List Nat)->Option R
 | []=>none
 |σ::l=>
  let a:=Weq (WhD ops.toList B ops.size [] σ) λL=>bif Wgw ops L []&&eqN (L.filter λi=>Wba i σ) σ then rdx T Γ A ops B L [] [] st k else none
  match l with
  | []=>a
  |_=>Wmo a (Wqp T Γ A ops B st k l)
noncomputable def WpM{R:Type}(T:Tab)(Γ:Ctx)(A:List (Nat×An))(ops:Array Oper)(st:St)(k:St->Option R):Option R:=
 WkM (WcN ops.toList []) λB=>bif Wp1 ops B then Wqp T Γ A ops B st k (WpN B ops.size (Wfa ops.toList 0))else none
noncomputable def sx{R:Type}(T:Tab)(Γ:Ctx)(ann:Nat->List Ghost)(N:Nat):Code->St->(Ex->St->Option R)->Option R
 | .skip,st,k=>k .normal st
 | .region id ops draw,st,k=>
  bif draw then WpM T Γ (Wju (ann id)) ops st λaf=>match WcF (ann id) af with
   |some (c,bI)=>bif c then k .normal bI else none
   |none=>none
  else rxs T Γ (Wju (ann id)) ops ops.toList st λaf=>match WcF (ann id) af with
   |some (c,bI)=>bif c then k .normal bI else none
   |none=>none
 | .seq a b,st,k=>sx T Γ ann N a st λe af=>match e with
  | .normal=>sx T Γ ann N b af k
  | .exit id=>k (.exit id) af
  | .ret=>k .ret af
 | .cond c x y,st,k=>match(ev st c).bind asB with
  |some b=>bif b then sx T Γ ann N x st k else sx T Γ ann N y st k
  |none=>none
 | .block id c,st,k=>sx T Γ ann N c st λe af=>match e with
  | .exit bn=>if bn=id then k .normal af else k (.exit bn) af
  | .normal=>k .normal af
  | .ret=>k .ret af
 | .loop c,st,k=>match WcF (ann (WdK c)) st with
  |some (b,af)=>bif b then WjT (Wg3 (ann (WdK c)) λst k=>sx T Γ ann N c st k) N af k else none
  |none=>none
 | .exit id,st,k=>k (.exit id) st
 | .ret,st,k=>k .ret st
 |_,_,_=>none
def WmN:List AVal->List Nat
 | []=>[]
 | .s (.one (.ptr id 0))::l=>id::WmN l
 |_::l=>WmN l
def Ww:(ps:List PTy)->Wdz ps->WS->Nat->List AVal×WS×Nat
 | [],_,objs,nx=>([],objs,nx)
 | .v t agg::ps,d,objs,nx=>
  let x:=unfold t d.1 nx
  let y:=Ww ps d.2 (x.2.1++objs) x.2.2
  (.s (Wqv agg x.1)::y.1,y.2)
 | .box t::ps,d,objs,nx=>
  let x:=unfold t d.1 (nx+1)
  let y:=Ww ps d.2 ((nx,.box x.1)::(x.2.1++objs)) x.2.2
  (.s (.one (.ptr nx 0))::y.1,y.2)
 | .mut e::ps,d,objs,nx=>
  let y:=Ww ps d.2 ((nx,.arr e d.1)::objs) (nx+1)
  (.s (.one (.own nx))::y.1,y.2)
 | .clos g n::ps,d,objs,nx=>
  let y:=Ww ps d objs nx
  (.s (.one (.clos g (WmN (y.1.take n))))::y.1.drop n,y.2)
 | .kv t agg::ps,d,objs,nx=>
  let x:=unfold t d.1 nx
  let y:=Ww ps d.2 (x.2.1++objs) x.2.2
  (.s (Wqv agg x.1)::y.1,y.2)
 | .rp t::ps,d,objs,nx=>
  let y:=Ww ps d.2 objs nx
  (.s (.one (.rptr t d.1 0))::y.1,y.2)
 | .vj _::ps,d,objs,nx=>
  let y:=Ww ps d objs nx
  (.tup []::y.1,y.2)
 | .boxal t lf::ps,d,objs,nx=>
  let x:=unfold t d.1 (nx+1)
  let y:=Ww ps d.2.2 ((nx,.box x.1)::(x.2.1++objs)) x.2.2
  (.s (.one (.ptr nx 0)):: .s (.one (.eptr (nx+1+lf) d.2.1 0))::y.1,y.2)
def WeM:Nat->List AVal->List (Nat×AVal)
 |_,[]=>[]
 |i,x::xs=>(i,x)::WeM (i+1) xs
def WcQ(T:Tab)(st:St):List ResultVar->Option (List AVal)
 | []=>some []
 | .tmp t::rs=>match Wc st.env t,WcQ T st rs with
  |some x,some xs=>some (x::xs)
  |_,_=>none
 | .cell a t::rs=>match(Wc st.env a).bind (Wfi T st t),WcQ T st rs with
  |some x,some xs=>some (x::xs)
  |_,_=>none
structure Outs(α:Type) where
 d:α
 moved:List Nat
 lent:List Nat
def War:(rs:List PTy)->List AVal->WS->Option (Outs (WeW rs))
 | [],xs,_=>match xs with
  | []=>some ⟨(),[],[]⟩
  |_=>none
 | .v t agg::rs,xs,objs=>match xs with
  |x::xs=>match(cellsOf agg x).bind λcs=>WZ t cs objs,War rs xs objs with
   |some (d,m,l),some A=>some ⟨(d,A.d),m++A.moved,l++A.lent⟩
   |_,_=>none
  |_=>none
 | .box t::rs,xs,objs=>match xs with
  | .s (.one (.ptr id 0))::xs=>match Wc objs id with
   |some (.box cs)=>match WZ t cs objs,War rs xs objs with
    |some (d,m,l),some A=>some ⟨(d,A.d),id::(m++A.moved),l++A.lent⟩
    |_,_=>none
   |_=>none
  |_=>none
 | .mut _::_,_,_=>none
 | .clos _ _::_,_,_=>none
 | .kv _ _::_,_,_=>none
 | .rp _::_,_,_=>none
 | .vj t::rs,xs,objs=>match xs with
  | .s (.agg cs)::xs=>if cs.length=t.size+1 then(match WZ t (cs.take t.size) objs,War rs xs objs with
   |some (d,m,l),some A=>some ⟨(d,A.d),m++A.moved,l++A.lent⟩
   |_,_=>none)else none
  |_=>none
 | .boxal _ _::_,_,_=>none
structure OutK(α:Type) where
 d:α
 kept:List Nat
 moved:List Nat
 lent:List Nat
def Wi:List PTy->Nat->Nat->St->List AVal
 | [],_,_,_=>[]
 |_::ps,i,k+1,st=>Wi ps i k st
 | .v _ _::ps,i,0,st=>.tup []::Wi ps (i+1) 0 st
 | .box _::ps,i,0,st=>(Wc st.env i).getD (.tup [])::Wi ps (i+1) 0 st
 | .mut _::ps,i,0,st=>(Wc st.env i).getD (.tup [])::Wi ps (i+1) 0 st
 | .clos _ n::ps,i,0,st=>(Wc st.env i).getD (.tup [])::Wi ps (i+1) n st
 | .kv _ _::ps,i,0,st=>(Wc st.env i).getD (.tup [])::Wi ps (i+1) 0 st
 | .rp _::ps,i,0,st=>.tup []::Wi ps (i+1) 0 st
 | .vj _::ps,i,0,st=>.tup []::Wi ps (i+1) 0 st
 | .boxal _ _::ps,i,0,st=>(Wc st.env i).getD (.tup []):: .tup []::Wi ps (i+2) 0 st
def WK:(ps:List PTy)->List AVal->WS->Option (OutK (Wd3 ps))
 | [],_,_=>some ⟨(),[],[],[]⟩
 | .v _ _::ps,xs,objs=>(WK ps xs.tail objs).map λA=>⟨A.d,A.kept,A.moved,A.lent⟩
 | .box t::ps,xs,objs=>match xs with
  | .s (.one (.ptr id 0))::xs=>match Wc objs id with
   |some (.box cs)=>match WZ t cs objs,WK ps xs objs with
    |some (d,m,l),some A=>some ⟨(d,A.d),id::A.kept,m++A.moved,l++A.lent⟩
    |_,_=>none
   |_=>none
  |_=>none
 | .mut e::ps,xs,objs=>match xs with
  | .s (.one (.own id))::xs=>match Wc objs id with
   |some (.arr e' ys)=>match Wej e' e ys,WK ps xs objs with
    |some d,some A=>some ⟨(d,A.d),id::A.kept,A.moved,A.lent⟩
    |_,_=>none
   |_=>none
  |_=>none
 | .clos g n::ps,xs,objs=>match xs with
  | .s (.one (.clos g' caps))::xs=>if g'=g/\caps.length=n then(WK ps (Wg9 caps++xs) objs).map λA=>⟨A.d,A.kept,A.moved,A.lent⟩else none
  |_=>none
 | .kv t agg::ps,xs,objs=>match xs with
  |x::xs=>match(cellsOf agg x).bind λcs=>WZ t cs objs,WK ps xs objs with
   |some (d,m,l),some A=>if WiS objs t m x then some ⟨(d,A.d),m++A.kept,A.moved,l++A.lent⟩else none
   |_,_=>none
  |_=>none
 | .rp _::ps,xs,objs=>(WK ps xs.tail objs).map λA=>⟨A.d,A.kept,A.moved,A.lent⟩
 | .vj _::_,_,_=>none
 | .boxal t _::ps,xs,objs=>match xs with
  | .s (.one (.ptr id 0))::_::xs=>match Wc objs id with
   |some (.box cs)=>match WZ t cs objs,WK ps xs objs with
    |some (d,m,l),some A=>some ⟨(d,A.d),id::A.kept,m++A.moved,l++A.lent⟩
    |_,_=>none
   |_=>none
  |_=>none
def Wq9{R:Type}(T:Tab)(sg:Sig)(rv:List ResultVar)(k:Wd3 sg.ps×WeW sg.rs->Option R)(e:Ex)(st:St):Option R:=
 match e with
 | .exit _=>none
 |_=>match WcQ T st rv with
  |some xs=>match War sg.rs xs st.objs,WK sg.ps (Wi sg.ps 0 0 st) st.objs with
   |some A,some B=>if WaQ (B.kept++(B.moved++A.moved))&&WeT (A.lent++B.lent) (B.kept++(B.moved++A.moved))then k (B.d,A.d)else none
   |_,_=>none
  |none=>none
noncomputable def den{R:Type}(T:Tab)(Γ:Ctx)(ann:Nat->List Ghost)(N:Nat)(sg:Sig)(f:Func)(d:Wdz sg.ps)(k:Wd3 sg.ps×WeW sg.rs->Option R):Option R:=
 let x:=Ww sg.ps d [] 0
 match f.body,WcF (ann 1000000) {env:=WeM 0 x.1,objs:=x.2.1,nx:=x.2.2}with
 |some c,some (b,st)=>bif b then sx T Γ ann N c st (Wq9 T sg f.results.toList k)else none
 |_,_=>none
def WcK:List PTy->Nat->Nat->List Nat
 | [],_,_=>[]
 |_::ps,i,k+1=>WcK ps i k
 | .v _ _::ps,i,0=>WcK ps (i+1) 0
 | .box _::ps,i,0=>i::WcK ps (i+1) 0
 | .mut _::ps,i,0=>i::WcK ps (i+1) 0
 | .clos _ n::ps,i,0=>i::WcK ps (i+1) n
 | .kv _ _::ps,i,0=>i::WcK ps (i+1) 0
 | .rp _::ps,i,0=>WcK ps (i+1) 0
 | .vj _::ps,i,0=>WcK ps (i+1) 0
 | .boxal _ _::ps,i,0=>i::WcK ps (i+2) 0
def Wa5:List PTy->Nat
 | []=>0
 | .v _ _::ps=>Wa5 ps+1
 | .box _::ps=>Wa5 ps+1
 | .mut _::ps=>Wa5 ps+1
 | .clos _ _::ps=>Wa5 ps+1
 | .kv _ _::ps=>Wa5 ps+1
 | .rp _::ps=>Wa5 ps+1
 | .vj _::ps=>Wa5 ps+1
 | .boxal _ _::ps=>Wa5 ps+2
def Wg7:List PTy->Nat->Bool
 |_,0=>true
 | .box _::ps,n+1=>Wg7 ps n
 |_,_+1=>false
def Wbw:List PTy->Bool
 | []=>true
 | .clos _ n::ps=>Wg7 ps n&&Wbw ps
 | .v _ _::ps=>Wbw ps
 | .box _::ps=>Wbw ps
 | .mut _::ps=>Wbw ps
 | .kv _ _::ps=>Wbw ps
 | .rp _::ps=>Wbw ps
 | .vj _::ps=>Wbw ps
 | .boxal _ _::ps=>Wbw ps
end Go.Sx
namespace Go.Sx
set_option linter.unusedVariables false
theorem EncL_len{α:Type}{R:α->List Value->Prop}{n:Nat}(h:∀x c,R x c->c.length=n):
  ∀(l:List α) (cs:List Value),EncL R l cs->cs.length=l.length*n
 | [],cs,e=>by simp[EncL]at e;simp[e]
 |x::l,cs,e=>by
  obtain⟨c1,c2,rfl,h1,h2⟩:=e;have:=EncL_len h l c2 h2;rw[Xs,h _ _ h1,this,Xt,Xbq,Xcj]
theorem Wi0{α:Type}{R R':α->List Value->Prop}(h:∀x c,R x c->R' x c):
  ∀(l:List α) (cs:List Value),EncL R l cs->EncL R' l cs
 | [],_,e=>e
 |_::l,_,⟨c1,c2,he,h1,h2⟩=>⟨c1,c2,he,h _ _ h1,Wi0 h l c2 h2⟩
theorem Wcu{α:Type}{R:α->List Value->Prop}:∀(l l':List α) (cs cs':List Value),EncL R l cs->EncL R l' cs'->EncL R (l++l') (cs++cs')
 | [],_,cs,cs',e,e'=>by simp[EncL]at e;subst e;simpa using e'
 |x::l,l',_,cs',⟨c1,c2,he,h1,h2⟩,e'=>⟨c1,c2++cs',by simp[he],h1,Wcu l l' c2 cs' h2 e'⟩
theorem EncL_nth{α:Type}{R:α->List Value->Prop}{n:Nat}(h:∀x c,R x c->c.length=n):
  ∀(l:List α) (cs:List Value) (i:Nat) (x:α),EncL R l cs->l[i]?=some x->R x ((cs.drop (i*n)).take n)
 | [],_,_,_,_,hi=>by simp at hi
 |y::l,cs,0,x,⟨c1,c2,he,h1,_⟩,hi=>by
  simp at hi;subst hi;have:=h _ _ h1;simp[he,←this,h1]
 |y::l,cs,i+1,x,⟨c1,c2,he,h1,h2⟩,hi=>by
  have hl:=h _ _ h1;have:=EncL_nth h l c2 i x h2 (by simpa using hi);rw[he,Xbq,Xcj,←Xds,List.drop_left' hl];exact this
theorem Wc5{α:Type}{R:α->List Value->Prop}{n:Nat}(h:∀x c,R x c->c.length=n):
  ∀(l:List α) (cs:List Value) (m:Nat),EncL R l cs->EncL R (l.take m) (cs.take (m*n))
 | [],cs,m,e=>by simp[EncL]at e;simp[e,EncL]
 |x::l,cs,0,_=>by simp[EncL]
 |x::l,cs,m+1,⟨c1,c2,he,h1,h2⟩=>by
  have hl:=h _ _ h1;refine⟨c1,c2.take (m*n),?_,h1,Wc5 h l c2 m h2⟩;rw[he,Xbq,Xcj,←hl,Xfa]
theorem WcU{α:Type}{R:α->List Value->Prop}{n:Nat}(h:∀x c,R x c->c.length=n):
  ∀(l:List α) (cs:List Value) (m:Nat),EncL R l cs->EncL R (l.drop m) (cs.drop (m*n))
 | [],cs,m,e=>by simp[EncL]at e;simp[e,EncL]
 |x::l,cs,0,e=>by simpa using e
 |x::l,cs,m+1,⟨c1,c2,he,h1,h2⟩=>by
  have hl:=h _ _ h1;have:=WcU h l c2 m h2;show EncL R (l.drop m) (cs.drop ((m+1)*n));have e1:(m+1)*n=c1.length+m*n:=by rw[Xbq,hl,Xcj]
  rw[he,e1,←Xds,Xfx];exact this
theorem Why{α:Type}{R:α->List Value->Prop}{n:Nat}(h:∀x c,R x c->c.length=n):
  ∀(l:List α) (cs:List Value) (i:Nat) (x:α) (ds:List Value),EncL R l cs->i<l.length->R x ds->
   EncL R (l.set i x) (cs.take (i*n)++ds++cs.drop (i*n+n))
 | [],_,_,_,_,_,hi,_=>by simp at hi
 |y::l,cs,0,x,ds,⟨c1,c2,he,h1,h2⟩,_,hx=>by
  have hl:=h _ _ h1;refine⟨ds,c2,?_,hx,h2⟩;simp[he,←hl]
 |y::l,cs,i+1,x,ds,⟨c1,c2,he,h1,h2⟩,hi,hx=>by
  have hl:=h _ _ h1;refine⟨c1,_,?_,h1,Why h l c2 i x ds h2 (by simpa using hi) hx⟩;have e1:(i+1)*n=c1.length+i*n:=by rw[Xbq,hl,Xcj]
  rw[he,e1,Xfa,Xan,←Xds,Xfx];simp
theorem Enc_len{G:GH}:∀(t:Ty) (d:t.den) (cs:List Value),Enc G t d cs->cs.length=t.size
 | .int _,_,_,h=>by simp[Enc]at h;simp[h,Ty.size]
 | .bool,_,_,h=>by simp[Enc]at h;simp[h,Ty.size]
 | .str,_,_,h=>by simp[Enc]at h;simp[h,Ty.size]
 | .slice _,_,_,h=>by obtain⟨v,rfl,_⟩:=h;simp[Ty.size]
 | .own _,_,_,h=>h.elim
 | .prod a b,d,_,h=>by
  obtain⟨c1,c2,rfl,h1,h2⟩:=h;rw[Xs,Enc_len a _ _ h1,Enc_len b _ _ h2,Ty.size]
def GLe(G G':GH):Prop:=∀b o v,G b o=some v->G' b o=some v
theorem Wgk{G G':GH}(h:GLe G G'){b o:Nat}{cs:List Value}(hs:WdA G b o cs):WdA G' b o cs:=λj v hj=>h _ _ _ (hs j v hj)
theorem Wau{G G':GH}(h:GLe G G'):∀(t:Ty) (d:t.den) (cs:List Value),Enc G t d cs->Enc G' t d cs
 | .int _,_,_,e=>e
 | .bool,_,_,e=>e
 | .str,_,_,e=>e
 | .slice e,d,cs,hh=>by
  obtain⟨v,hv,hr⟩:=hh;refine⟨v,hv,?_⟩;rcases hr with hr|⟨b,off,cap,cs',h1,h2,h3,h4,h5⟩|hr
  .exact .inl hr
  rotate_left
  .exact .inr (.inr hr)
  .exact .inr<| .inl ⟨b,off,cap,cs',h1,h2,h3,Wi0 (λx c hx=>Wau h e x c hx) _ _ h4,Wgk h h5⟩
 | .own _,_,_,e=>e
 | .prod a b,d,_,⟨c1,c2,he,h1,h2⟩=>⟨c1,c2,he,Wau h a _ _ h1,Wau h b _ _ h2⟩
section
variable{G:GH}{ν:Nat->Nu}{nx:Nat}
theorem CellsRel.nil:CellsRel G ν nx [] []:=⟨rfl,λj c v h=>by simp at h⟩
theorem CellsRel.append{cs cs':List Cell}{vs vs':List Value}(h:CellsRel G ν nx cs vs)(h':CellsRel G ν nx cs' vs'):
  CellsRel G ν nx (cs++cs') (vs++vs'):=by
 refine⟨by simp[h.1,h'.1],λj c v hc hv=>?_⟩;rw[Xaq]at hc hv;rw[h.1]at hv;split at hc
 .rename_i hlt;rw[if_pos hlt]at hv;exact h.2 j c v hc hv
 .rename_i hlt;rw[if_neg hlt]at hv;exact h'.2 _ c v hc hv
theorem CellsRel.take{cs:List Cell}{vs:List Value}(h:CellsRel G ν nx cs vs)(n:Nat):CellsRel G ν nx (cs.take n) (vs.take n):=by
 refine⟨by simp[h.1],λj c v hc hv=>?_⟩;rw[Xbb]at hc hv;split at hc
 .rename_i hlt;rw[if_pos hlt]at hv;exact h.2 j c v hc hv
 .simp at hc
theorem CellsRel.drop{cs:List Cell}{vs:List Value}(h:CellsRel G ν nx cs vs)(n:Nat):CellsRel G ν nx (cs.drop n) (vs.drop n):=by
 refine⟨by simp[h.1],λj c v hc hv=>?_⟩;rw[Xbc]at hc hv;exact h.2 _ c v hc hv
theorem CellsRel.one{c:Cell}{v:Value}(h:CellRel G ν nx c v)(rV:v.oneCell'=true):CellsRel G ν nx [c] [v]:=by
 refine⟨rfl,λj c' v' hc hv=>?_⟩;cases j with
 |zero=>simp at hc hv;subst hc hv;exact⟨h,rV⟩
 |succ j=>simp at hc
theorem W7:∀(t:Ty) (d:t.den) (vs:List Value),Enc G t d vs->CellsRel G ν nx (split t d) vs
 | .int k,d,vs,h=>by have h':=h;simp only[Enc]at h';subst h';exact CellsRel.one h rfl
 | .bool,d,vs,h=>by have h':=h;simp only[Enc]at h';subst h';exact CellsRel.one h rfl
 | .str,d,vs,h=>by have h':=h;simp only[Enc]at h';subst h';exact CellsRel.one h rfl
 | .slice e,d,vs,h=>by
  obtain⟨v,rfl,hr⟩:=h;refine CellsRel.one ⟨v,rfl,hr⟩ ?_;rcases hr with⟨rfl,_⟩|⟨_,_,_,_,rfl,_⟩|⟨_,_,rfl,_⟩<;>rfl
 | .own _,_,_,h=>h.elim
 | .prod a b,d,vs,⟨c1,c2,he,h1,h2⟩=>by
  subst he;exact(W7 a _ _ h1).append (W7 b _ _ h2)
end
def Wn8(nx:Nat)(ν ν':Nat->Nu):Prop:=∀id,id<nx->ν' id=ν id
section
variable{G G':GH}{ν ν':Nat->Nu}{nx ah:Nat}
theorem CellRel.mono(hg:GLe G G')(hn:Wn8 nx ν ν')(hx:nx<=ah):
  ∀(c:Cell) (v:Value),CellRel G ν nx c v->CellRel G' ν' ah c v
 | .val t d,v,h=>Wau hg t d _ h
 | .nils,_,h=>h
 | .own id,v,⟨h1,h2⟩=>⟨Xbe h1 hx,by rw[hn id h1];exact h2⟩
 | .vw id lo hi,v,⟨h1,h2⟩=>⟨Xbe h1 hx,by rw[hn id h1];exact h2⟩
 | .aptr id,v,⟨h1,h2⟩=>⟨Xbe h1 hx,by rw[hn id h1];exact h2⟩
 | .ptr id off,v,⟨h1,h2⟩=>⟨Xbe h1 hx,by rw[hn id h1];exact h2⟩
 | .eptr id i off,v,⟨h1,h2⟩=>⟨Xbe h1 hx,by rw[hn id h1];exact h2⟩
 | .rptr t d off,v,⟨b,o,cs,h1,h2,h3⟩=>⟨b,o,cs,h1,Wau hg t d _ h2,Wgk hg h3⟩
 | .clos f caps,v,⟨vs,h1,h2,h3⟩=>⟨vs,h1,h2,λj id u hc hv=>by
   obtain⟨h4,h6,h5⟩:=h3 j id u hc hv;exact⟨Xbe h4 hx,h6,by rw[hn id h4];exact h5⟩⟩
 | .junk,_,_=>trivial
theorem CellsRel.mono(hg:GLe G G')(hn:Wn8 nx ν ν')(hx:nx<=ah){cs:List Cell}{vs:List Value}(h:CellsRel G ν nx cs vs):CellsRel G' ν' ah cs vs:=
 ⟨h.1,λj c v hc hv=>⟨CellRel.mono hg hn hx c v (h.2 j c v hc hv).1,(h.2 j c v hc hv).2⟩⟩
theorem AvRel.mono(hg:GLe G G')(hn:Wn8 nx ν ν')(hx:nx<=ah):∀(x:AV) (v:Value),AvRel G ν nx x v->AvRel G' ν' ah x v
 | .one c,v,h=>⟨CellRel.mono hg hn hx c v h.1,h.2⟩
 | .agg cs,v,⟨vs,he,h⟩=>⟨vs,he,h.mono hg hn hx⟩
theorem AValRel.mono(hg:GLe G G')(hn:Wn8 nx ν ν')(hx:nx<=ah):∀(x:AVal) (v:Value),AValRel G ν nx x v->AValRel G' ν' ah x v
 | .s x,v,h=>AvRel.mono hg hn hx x v h
 | .tup xs,v,⟨vs,he,hl,h⟩=>⟨vs,he,hl,λj x u lV hu=>AvRel.mono hg hn hx x u (h j x u lV hu)⟩
end
theorem Wgj(nu:Nu):nu.hdr.oneCell'=true:=by unfold Nu.hdr;split<;>rfl
theorem Wk8(nu:Nu)(lo hi:Nat):(nu.vhdr lo hi).oneCell'=true:=by unfold Nu.vhdr;split<;>rfl
section
variable{α:Type}{R R':α->List Value->List Pc->Prop}
theorem Wak{n:Nat}(h:∀x c p,R x c p->c.length=n):∀(l:List α) (cs:List Value) (ps:List Pc),EncP R l cs ps->cs.length=l.length*n
 | [],cs,ps,e=>by simp[e.1]
 |x::l,cs,ps,⟨c1,c2,p1,p2,he,hp,h1,h2⟩=>by
  rw[he,Xs,h _ _ _ h1,Wak h l c2 p2 h2,Xt,Xbq,Xcj]
theorem Wa7{Q:Pc->Prop}(h:∀x c p,(∀q∈p,Q q)->R x c p->R' x c p):∀(l:List α) (cs:List Value) (ps:List Pc),(∀q∈ps,Q q)->EncP R l cs ps->EncP R' l cs ps
 | [],_,_,_,e=>e
 |_::l,_,_,hq,⟨c1,c2,p1,p2,he,hp,h1,h2⟩=>by
  subst hp;exact⟨c1,c2,p1,p2,he,rfl,h _ _ _ (λq hm=>hq q (Xj _ hm)) h1,Wa7 h l c2 p2 (λq hm=>hq q (Xg _ hm)) h2⟩
theorem Wcr:∀(l l':List α) (cs cs':List Value) (ps lW:List Pc),EncP R l cs ps->EncP R l' cs' lW->EncP R (l++l') (cs++cs') (ps++lW)
 | [],_,cs,cs',ps,lW,e,e'=>by obtain⟨rfl,rfl⟩:=e;exact e'
 |x::l,l',_,cs',_,lW,⟨c1,c2,p1,p2,he,hp,h1,h2⟩,e'=>⟨c1,c2++cs',p1,p2++lW,by simp[he],by simp[hp],h1,Wcr l l' c2 cs' p2 lW h2 e'⟩
theorem Whb:∀(l l':List α) (cs:List Value) (ps:List Pc),EncP R (l++l') cs ps->∃c1 c2 p1 p2,cs=c1++c2/\ps=p1++p2/\EncP R l c1 p1/\EncP R l' c2 p2
 | [],l',cs,ps,e=>⟨[],cs,[],ps,rfl,rfl,⟨rfl,rfl⟩,e⟩
 |x::l,l',cs,ps,⟨c1,c2,p1,p2,he,hp,h1,h2⟩=>by
  obtain⟨d1,d2,q1,q2,g1,g2,g3,g4⟩:=Whb l l' c2 p2 h2;exact⟨c1++d1,d2,p1++q1,q2,by simp[he,g1],by simp[hp,g2],⟨c1,d1,p1,q1,rfl,rfl,h1,g3⟩,g4⟩
theorem Wlw{x:α}{cs:List Value}{ps:List Pc}:EncP R [x] cs ps↔R x cs ps:=by
 constructor
 .rintro⟨c1,c2,p1,p2,he,hp,h1,h2,h3⟩;subst h2 h3 he hp;simpa using h1
 .intro h;exact⟨cs,[],ps,[],by simp,by simp,h,rfl,rfl⟩
theorem WcX(l:List α)(cs:List Value)(ps:List Pc)(n:Nat)(h:EncP R l cs ps):∃c1 c2 p1 p2,cs=c1++c2/\ps=p1++p2/\EncP R (l.take n) c1 p1/\EncP R (l.drop n) c2 p2:=
 Whb _ _ _ _ (by rw[Xcm];exact h)
theorem Wky{l:List α}{cs:List Value}{ps:List Pc}{i:Nat}(h:EncP R l cs ps)(d:α)(hi:i<l.length):
  ∃c1 c c2 p1 p p2,cs=c1++(c++c2)/\ps=p1++(p++p2)/\EncP R (l.take i) c1 p1/\R (l.getD i d) c p/\EncP R (l.drop (i+1)) c2 p2:=by
 obtain⟨c1,c',p1,p',h1,h2,h3,h4⟩:=WcX l cs ps i h;have e:l.drop i=l.getD i d::l.drop (i+1):=by
  rw[List.drop_eq_getElem_cons hi];simp[Xc,hi]
 rw[e]at h4;obtain⟨c,c2,p,p2,h5,h6,h7,h8⟩:=h4;exact⟨c1,c,c2,p1,p,p2,by rw[h1,h5],by rw[h2,h6],h3,h7,h8⟩
theorem Wk4{l:List α}{c1 c c2:List Value}{p1 p p2:List Pc}{i:Nat}{x:α}(hi:i<l.length)(h1:EncP R (l.take i) c1 p1)(h:R x c p)(h2:EncP R (l.drop (i+1)) c2 p2):
  EncP R (l.set i x) (c1++(c++c2)) (p1++(p++p2)):=by
 have e:l.set i x=l.take i++(x::l.drop (i+1)):=by
  rw[Xeh,if_pos hi]
 rw[e];exact Wcr _ _ _ _ _ _ h1 ⟨c,c2,p,p2,rfl,rfl,h,h2⟩
end
section
variable{G G':GH}{w w':World}
theorem Wk:∀(t:Ty) (d:t.den) (vs:List Value) (ns:List Pc),TyRel G w t d vs ns->vs.length=t.size
 | .own e,xs,vs,ns,⟨p,_,h,_⟩=>by rw[h];rfl
 | .prod a b,d,vs,ns,⟨v1,v2,n1,n2,h1,h2,h3,h4⟩=>by
  rw[h1,Xs,Wk a _ _ _ h3,Wk b _ _ _ h4];rfl
 | .int k,d,vs,ns,h=>Enc_len _ _ _ h.2
 | .bool,d,vs,ns,h=>Enc_len _ _ _ h.2
 | .str,d,vs,ns,h=>Enc_len _ _ _ h.2
 | .slice e,d,vs,ns,h=>Enc_len _ _ _ h.2
theorem WL:∀(t:Ty) (d:t.den) (vs:List Value) (ns:List Pc),TyRel G w t d vs ns->ns.length=t.owns
 | .own e,xs,vs,ns,⟨nu,h,_⟩=>by rw[h];rfl
 | .prod a b,d,vs,ns,⟨v1,v2,n1,n2,h1,h2,h3,h4⟩=>by rw[h2,Xs,WL a _ _ _ h3,WL b _ _ _ h4];rfl
 | .int k,d,vs,ns,h=>by rw[h.1];rfl
 | .bool,d,vs,ns,h=>by rw[h.1];rfl
 | .str,d,vs,ns,h=>by rw[h.1];rfl
 | .slice e,d,vs,ns,h=>by rw[h.1];rfl
theorem Waq:∀(t:Ty) (d:t.den) (vs:List Value) (ns:List Pc),t.data=true->(TyRel G w t d vs ns↔Enc G t d vs/\ns= [])
 | .own e,xs,vs,ns,h=>by simp[Ty.data]at h
 | .prod a b,d,vs,ns,h=>by
  simp only[Ty.data,Xi]at h;constructor
  .rintro⟨v1,v2,n1,n2,h1,h2,h3,h4⟩;obtain⟨e1,e2⟩:=(Waq a _ _ _ h.1).1 h3;obtain⟨e3,e4⟩:=(Waq b _ _ _ h.2).1 h4;exact⟨⟨v1,v2,h1,e1,e3⟩,by rw[h2,e2,e4];rfl⟩
  .rintro⟨⟨v1,v2,h1,h2,h3⟩,h4⟩;exact⟨v1,v2,[],[],h1,h4,(Waq a _ _ _ h.1).2 ⟨h2,rfl⟩,(Waq b _ _ _ h.2).2 ⟨h3,rfl⟩⟩
 | .int k,d,vs,ns,_=>⟨λh=>⟨h.2,h.1⟩,λh=>⟨h.2,h.1⟩⟩
 | .bool,d,vs,ns,_=>⟨λh=>⟨h.2,h.1⟩,λh=>⟨h.2,h.1⟩⟩
 | .str,d,vs,ns,_=>⟨λh=>⟨h.2,h.1⟩,λh=>⟨h.2,h.1⟩⟩
 | .slice e,d,vs,ns,_=>⟨λh=>⟨h.2,h.1⟩,λh=>⟨h.2,h.1⟩⟩
theorem EncP_data{e:Ty}(he:e.data=true):∀(xs:List e.den) (cs:List Value) (ps:List Pc),EncP (TyRel G w e) xs cs ps↔EncL (Enc G e) xs cs/\ps= []
 | [],cs,ps=>Iff.rfl
 |x::xs,cs,ps=>by
  constructor
  .rintro⟨c1,c2,p1,p2,h1,h2,h3,h4⟩;obtain⟨e1,e2⟩:=(Waq e _ _ _ he).1 h3;obtain⟨e3,e4⟩:=(EncP_data he xs _ _).1 h4;exact⟨⟨c1,c2,h1,e1,e3⟩,by rw[h2,e2,e4];rfl⟩
  .rintro⟨⟨c1,c2,h1,h2,h3⟩,h4⟩;exact⟨c1,c2,[],[],h1,h4,(Waq e _ _ _ he).2 ⟨h2,rfl⟩,(EncP_data he xs _ _).2 ⟨h3,rfl⟩⟩
structure Same(S:CS)(w w':World):Prop where
 row:∀b n,Row w b n->Row w' b n
 cell:∀b o,S b o->w'.cell? ⟨b,o,none⟩=w.cell? ⟨b,o,none⟩
theorem Same.mono{S S':CS}(h:Same S w w')(hl:CS.le S' S):Same S' w w':=⟨h.row,λb o hs=>h.cell b o (hl b o hs)⟩
theorem Mem.same{S:CS}(h:Same S w w'){b o n:Nat}{cs:List Value}(hm:Mem w b o cs)(hn:cs.length<=n)(hs:CS.le (rng b o n) S):Mem w' b o cs:=λj v hj=>by
 have hlt:j<cs.length:=(Xr.1 hj).1;rw[h.cell b (o+j) (hs _ _ ⟨rfl,by omega,by omega⟩)];exact hm j v hj
theorem Wft{α:Type}{R R':α->List Value->List Pc->Prop}{n:Nat}{nu:Nu}{xs:List α}{S S':CS}(hR:∀x c p,R x c p->c.length=n)(h:Same S w w')(hle:CS.le S S')
  (hm:∀x c p,(∀q∈p,CS.le q.fp S)->R x c p->R' x c p) (ho:OwnL w R n nu xs S):OwnL w' R' n nu xs S':=by
 obtain⟨h1,h2,h3⟩:=ho;refine⟨h1,h2,?_⟩;cases hb:nu.blk with
 |none=>simpa [hb]using h3
 |some b=>
  simp only[hb]at h3;obtain⟨h4,h5,h6,cs,ps,h7,h8,h9,bq⟩:=h3;have hl:=Wak hR _ _ _ h7;have iq:xs.length*n<=nu.cap*n:=Xaz _ h4;exact⟨h4,h5,h.row _ _ h6,cs,ps,Wa7 (Q:=λq=>CS.le q.fp S) hm _ _ _ (λq hq=>bq _ (Xe _ (Xal hq))) h7,h8.same h (n:=nu.cap*n) (by omega) (bq _ (Xh ..)),h9,λs hs b o hh=>hle b o (bq s hs b o hh)⟩
theorem W5(hg:GLe G G'):∀(t:Ty) (d:t.den) (vs:List Value) (ns:List Pc),(∀p∈ns,Same p.fp w w')->TyRel G w t d vs ns->TyRel G' w' t d vs ns
 | .own e,xs,vs,ns,hs,⟨p,h1,h2,h3⟩=>by
  subst h1;have jh:=hs p (Xab.2 rfl);exact⟨p,rfl,h2,Wft (λx c q hx=>Wk e x c q hx) jh (λ_ _ hh=>hh) (λx c q hq hx=>W5 hg e x c q (λq' du=>jh.mono (hq q' du)) hx) h3⟩
 | .prod a b,d,vs,ns,hs,⟨v1,v2,n1,n2,h1,h2,h3,h4⟩=>by
  subst h2;exact⟨v1,v2,n1,n2,h1,rfl,W5 hg a _ _ _ (λp hp=>hs p (Xj _ hp)) h3,W5 hg b _ _ _ (λp hp=>hs p (Xg _ hp)) h4⟩
 | .int k,d,vs,ns,_,h=>⟨h.1,Wau hg _ _ _ h.2⟩
 | .bool,d,vs,ns,_,h=>⟨h.1,Wau hg _ _ _ h.2⟩
 | .str,d,vs,ns,_,h=>⟨h.1,Wau hg _ _ _ h.2⟩
 | .slice e,d,vs,ns,_,h=>⟨h.1,Wau hg _ _ _ h.2⟩
theorem Same.refl(S:CS)(w:World):Same S w w:=⟨λ_ _ h=>h,λ_ _ _=>rfl⟩
theorem WbU(hg:GLe G G'){e:Ty}{nu:Nu}{xs:List e.den}{S S':CS}(h:Same S w w')(hle:CS.le S S')(ho:OwnL w (TyRel G w e) e.size nu xs S):OwnL w' (TyRel G' w' e) e.size nu xs S':=
 Wft (λx c q hx=>Wk e x c q hx) h hle (λx c q hq hx=>W5 hg e x c q (λq' du=>h.mono (hq q' du)) hx) ho
theorem Wg6(hg:GLe G G'){e:Ty}{nu np:Nu}{xs:List e.den}{i:Nat}{S S':CS}(h:Same S w w')(hle:CS.le S S')(ho:Wfm w (TyRel G w e) e.size nu np xs i S):Wfm w' (TyRel G' w' e) e.size nu np xs i S':=by
 obtain⟨h1,h2,h3,b,h4,h5,h6,h7,h8,h9,c1,c2,p1,p2,g1,g2,g3,g4,g5,g6⟩:=ho;have l1:=Wak (λx c q hx=>Wk e x c q hx) _ _ _ g1;have l2:=Wak (λx c q hx=>Wk e x c q hx) _ _ _ g2;rw[Xau,Xbw (by omega)]at l1;rw[Xcu]at l2;have iq:(xs.length-(i+1))*e.size<=(nu.cap-(i+1))*e.size:=Xaz _ (by omega);refine⟨h1,h2,h3,b,h4,h5,h6,h7,h8,h.row _ _ h9,c1,c2,p1,p2,?_,?_,?_,?_,g5,λs hs b o hh=>hle b o (g6 s hs b o hh)⟩
 .exact Wa7 (Q:=λq=>CS.le q.fp S) (λx c q hq hx=>W5 hg e x c q (λq' du=>h.mono (hq q' du)) hx) _ _ _ (λq hq=>g6 _ (by simp only[Xm,Xn,Xk];exact .inr (.inr (.inl (Xal hq))))) g1
 .exact Wa7 (Q:=λq=>CS.le q.fp S) (λx c q hq hx=>W5 hg e x c q (λq' du=>h.mono (hq q' du)) hx) _ _ _ (λq hq=>g6 _ (by simp only[Xm,Xn,Xk];exact .inr (.inr (.inr (Xal hq))))) g2
 .exact g3.same h (n:=i*e.size) (by omega) (g6 _ (Xh ..))
 .exact g4.same h (n:=(nu.cap-(i+1))*e.size) (by omega) (g6 _ (Xe _ (Xh ..)))
theorem Wcg(hg:GLe G G'){ν ν':Nat->Nu}{nx ah id:Nat}{S S':CS}(h:Same S w w')(hle:CS.le S S')(hn:Wn8 nx ν ν')(hx:nx<=ah)(bg:id<nx):
  ∀(ob:Ob),Wbx G ν nx w id S ob->Wbx G' ν' ah w' id S' ob
 | .dead,_=>trivial
 | .box cs,⟨b,vs,h1,h2,h3,h4,h5⟩=>by
  refine⟨b,vs,by rw[hn id bg];exact h1,by rw[hn id bg];exact h.row _ _ h2,by rw[hn id bg];exact h3.same h (n:=cs.length) (by rw[h4.1];exact Xl _) h5,h4.mono hg hn hx,by rw[hn id bg];exactλb o hh=>hle b o (h5 b o hh)⟩
 | .arr e xs,ho=>by
  show OwnL w' (TyRel G' w' e) e.size (ν' id) xs S';rw[hn id bg];exact WbU hg h hle ho
 | .hole e xs i p,⟨hp,ho⟩=>by
  show p<ah/\Wfm w' (TyRel G' w' e) e.size (ν' id) (ν' p) xs i S';rw[hn id bg,hn p hp];exact⟨Xbe hp hx,Wg6 hg h hle ho⟩
theorem Wfo{ν:Nat->Nu}{nx:Nat}:∀(t:Ty) (d:t.den) (vs:List Value) (ns:List Pc),TyRel G w t d vs ns->CellsRel G ν nx (split t d) vs
 | .own e,d,vs,ns,⟨p,_,h,_⟩=>by rw[h];exact CellsRel.one trivial (Wgj _)
 | .prod a b,d,vs,ns,⟨v1,v2,n1,n2,h1,h2,h3,h4⟩=>by
  rw[h1];exact(Wfo a _ _ _ h3).append (Wfo b _ _ _ h4)
 | .int k,d,vs,ns,h=>W7 _ _ _ h.2
 | .bool,d,vs,ns,h=>W7 _ _ _ h.2
 | .str,d,vs,ns,h=>W7 _ _ _ h.2
 | .slice e,d,vs,ns,h=>W7 _ _ _ h.2
theorem WmR{A A' B B':Type}(hA:A=A')(hB:B=B')(h:(A×B)=(A'×B'))(d:A×B):cast h d=(cast hA d.1,cast hB d.2):=by
 subst hA hB;rfl
theorem WmU{A A':Type}(hA:A=A')(h:List A=List A')(x:A)(l:List A):cast h (x::l)=cast hA x::cast h l:=by
 subst hA;rfl
theorem Wo9{A A':Type}(hA:A=A')(h:List A=List A'):cast h ([]:List A)= []:=by
 subst hA;rfl
theorem Wkz{A A':Type}(hA:A=A')(h:List A=List A')(l:List A):(cast h l).length=l.length:=by
 subst hA;rfl
theorem Wmt(a b:Ty)(d:(Ty.prod a b).den):WpB (.prod a b) d=(WpB a d.1,WpB b d.2):=WmR (WcG a).symm (WcG b).symm _ d
theorem WlV(e:Ty)(x:e.den)(l:List e.den):Wby e (x::l)=WpB e x::Wby e l:=WmU (WcG e).symm _ x l
theorem Wil(e:Ty):Wby e []= []:=Wo9 (WcG e).symm _
theorem Wec(e:Ty)(l:List e.den):(Wby e l).length=l.length:=Wkz (WcG e).symm _ l
theorem WaV:∀t:Ty,t.ro.size=t.size
 | .prod a b=>by simp only[Ty.ro,Ty.size,WaV a,WaV b]
 | .own _| .slice _| .int _| .bool| .str=>rfl
theorem Wj0:∀t:Ty,t.ro.data=true
 | .prod a b=>by simp only[Ty.ro,Ty.data,Wj0 a,Wj0 b];rfl
 | .own _| .slice _| .int _| .bool| .str=>rfl
def Froz(G:GH)(w:World)(S:CS):Prop:=∀b o v,S b o->w.cell? ⟨b,o,none⟩=some v->G b o=some v
theorem Froz.mono{G:GH}{S S':CS}(h:Froz G w S)(hl:CS.le S' S):Froz G w S':=λb o v hs=>h b o v (hl b o hs)
theorem Mem.stored{b o n:Nat}{cs:List Value}(hm:Mem w b o cs)(hn:cs.length<=n)(hf:Froz G w (rng b o n)):WdA G b o cs:=λj v hj=>by
 have hlt:j<cs.length:=(Xr.1 hj).1;exact hf b (o+j) v ⟨rfl,by omega,by omega⟩ (hm j v hj)
theorem WhK{e:Ty}(hE:∀(x:e.den) (c:List Value) (p:List Pc),(∀q∈p,Froz G' w q.fp)->TyRel G w e x c p->Enc G' e.ro (WpB e x) c):
  ∀(xs:List e.den) (cs:List Value) (ps:List Pc),(∀q∈ps,Froz G' w q.fp)->EncP (TyRel G w e) xs cs ps->EncL (Enc G' e.ro) (Wby e xs) cs
 | [],cs,ps,_,h=>by rw[Wil];exact h.1
 |x::xs,cs,ps,hf,⟨c1,c2,p1,p2,h1,h2,h3,h4⟩=>by
  subst h2;rw[WlV];exact⟨c1,c2,h1,hE x c1 p1 (λq hq=>hf q (Xj _ hq)) h3,WhK hE xs c2 p2 (λq hq=>hf q (Xg _ hq)) h4⟩
theorem WnX{e:Ty}(hE:∀(x:e.den) (c:List Value) (p:List Pc),(∀q∈p,Froz G' w q.fp)->TyRel G w e x c p->Enc G' e.ro (WpB e x) c){nu:Nu}{xs:List e.den}{S:CS}
  (hf:Froz G' w S) (h:OwnL w (TyRel G w e) e.size nu xs S):WgF G' (Enc G' e.ro) (Wby e xs) nu.hdr:=by
 obtain⟨h1,h2,h3⟩:=h;unfold Nu.hdr;cases hb:nu.blk with
 |none=>simp only[hb]at h3;exact .inl ⟨rfl,by rw[h3,Wil]⟩
 |some b=>
  simp only[hb]at h3;obtain⟨h4,h5,h6,cs,ps,h7,h8,h9,bq⟩:=h3;have hl:=Wak (λx c q hx=>Wk e x c q hx) _ _ _ h7;have iq:xs.length*e.size<=nu.cap*e.size:=Xaz _ h4;refine .inr (.inl ⟨b,nu.off,nu.cap,cs,by rw[Wec,h1],by rw[Wec];exact h4,h5,WhK hE xs cs ps (λq hq=>hf.mono (bq _ (Xe _ (Xal hq)))) h7,?_⟩);exact h8.stored (n:=nu.cap*e.size) (by omega) (hf.mono (bq _ (Xh ..)))
theorem Wcl(hg:GLe G G'):∀(t:Ty) (d:t.den) (vs:List Value) (ns:List Pc),(∀p∈ns,Froz G' w p.fp)->TyRel G w t d vs ns->Enc G' t.ro (WpB t d) vs
 | .own e,xs,vs,ns,hf,⟨p,h1,h2,h3⟩=>by
  subst h1;exact⟨_,h2,WnX (λx c q hq hx=>Wcl hg e x c q hq hx) (hf p (Xab.2 rfl)) h3⟩
 | .prod a b,d,vs,ns,hf,⟨v1,v2,n1,n2,h1,h2,h3,h4⟩=>by
  subst h2;rw[Wmt];exact⟨v1,v2,h1,Wcl hg a _ _ _ (λp hp=>hf p (Xj _ hp)) h3,Wcl hg b _ _ _ (λp hp=>hf p (Xg _ hp)) h4⟩
 | .int k,d,vs,ns,_,h=>Wau hg (.int k) _ _ h.2
 | .bool,d,vs,ns,_,h=>Wau hg .bool _ _ h.2
 | .str,d,vs,ns,_,h=>Wau hg .str _ _ h.2
 | .slice e,d,vs,ns,_,h=>Wau hg (.slice e) _ _ h.2
theorem WfC(hg:GLe G G'){e:Ty}{nu:Nu}{xs:List e.den}{S:CS}(hf:Froz G' w S)(h:OwnL w (TyRel G w e) e.size nu xs S):WgF G' (Enc G' e.ro) (Wby e xs) nu.hdr:=
 WnX (λx c q hq hx=>Wcl hg e x c q hq hx) hf h
theorem WmM{b:Nat}{vs:Array Value}{T:TypeId}(h:w.heap[b]?=some (Obj.cells vs T (0,0))){o:Nat}{cs:List Value}(hc:∀j v,cs[j]?=some v->vs.toList[o+j]?=some v):Mem w b o cs:=λj v hj=>by
 rw[cell_of_row w b _ vs T (0,0) h];have:=hc j v hj;simpa using this
theorem Mem.left{b o:Nat}{c1 c2:List Value}(h:Mem w b o (c1++c2)):Mem w b o c1:=λj v hj=>h j v (by rw[Xav (Xr.1 hj).1];exact hj)
theorem Mem.right{b o n:Nat}{c1 c2:List Value}(h:Mem w b o (c1++c2))(hn:c1.length=n):Mem w b (o+n) c2:=λj v hj=>by
 have:=h (n+j) v (by rw[Xas (by omega),hn,Nat.add_sub_cancel_left];exact hj);rw[Xan];exact this
theorem Mem.app{b o n:Nat}{c1 c2:List Value}(h1:Mem w b o c1)(h2:Mem w b (o+n) c2)(hn:c1.length=n):Mem w b o (c1++c2):=λj v hj=>by
 rw[Xaq]at hj;split at hj
 .exact h1 j v hj
 .rename_i hlt;have:=h2 (j-c1.length) v hj;rw[hn]at this hlt;rw[show o+j=o+n+(j-n) by omega];exact this
theorem WmI{e:Ty}{nu:Nu}{xs:List e.den}{S:CS}{b i:Nat}(h:OwnL w (TyRel G w e) e.size nu xs S)(hb:nu.blk=some b)(hi:i<xs.length):
  ∃c p,TyRel G w e (xs.getD i e.dflt) c p/\Mem w b (nu.off+i*e.size) c:=by
 obtain⟨h1,h2,h3⟩:=h;simp only[hb]at h3;obtain⟨h4,h5,h6,cs,ps,h7,h8,h9,bq⟩:=h3;obtain⟨c1,c,c2,p1,p,p2,g1,g2,g3,g4,g5⟩:=Wky h7 e.dflt hi;refine⟨c,p,g4,?_⟩;rw[g1]at h8;have hl:=Wak (λx c q hx=>Wk e x c q hx) _ _ _ g3;rw[Xau,Xbw (by omega)]at hl;exact(h8.right hl).left
theorem Wca{e:Ty}(he:e.data=true){nu:Nu}{xs:List e.den}{S:CS}{b:Nat}(h:OwnL w (TyRel G w e) e.size nu xs S)(hb:nu.blk=some b):
  xs.length=nu.len/\xs.length<=nu.cap/\nu.cap<=maxLen/\Row w b (nu.off+nu.cap*e.size)/\∃cs,EncL (Enc G e) xs cs/\Mem w b nu.off cs/\CS.le (rng b nu.off (nu.cap*e.size)) S:=by
 obtain⟨h1,h2,h3⟩:=h;simp only[hb]at h3;obtain⟨h4,h5,h6,cs,ps,h7,h8,h9,bq⟩:=h3;exact⟨h1,h4,h5,h6,cs,((EncP_data he xs cs ps).1 h7).1,h8,bq _ (Xh ..)⟩
theorem Wi3{e:Ty}(he:e.data=true){nu:Nu}{xs:List e.den}{S:CS}{b:Nat}{cs:List Value}(hb:nu.blk=some b)(h1:xs.length=nu.len)(h2:nu.esz=e.size)(h4:xs.length<=nu.cap)(h5:nu.cap<=maxLen)
  (h6:Row w b (nu.off+nu.cap*e.size)) (h7:EncL (Enc G e) xs cs) (h8:Mem w b nu.off cs) (h9:CS.le (rng b nu.off (nu.cap*e.size)) S):OwnL w (TyRel G w e) e.size nu xs S:=by
 refine⟨h1,h2,?_⟩;simp only[hb];exact⟨h4,h5,h6,cs,[],(EncP_data he xs cs []).2 ⟨h7,rfl⟩,h8,Xy.2 ⟨by simp,List.Pairwise.nil⟩,λs hs=>by simp at hs;subst hs;exact h9⟩
theorem Wbp{e:Ty}{nu:Nu}{xs:List e.den}{S:CS}(h:OwnL w (TyRel G w e) e.size nu xs S)(hb:nu.blk=none):xs= []:=by
 obtain⟨h1,h2,h3⟩:=h;simpa only[hb]using h3
end
end Go.Sx
namespace Go.Sx
set_option linter.unusedVariables false
set_option linter.unusedSimpArgs false
def WaS:Ty->List Value
 | .prod a b=>WaS a++WaS b
 | .int k=>[.int k 0]
 | .bool=>[.bool false]
 | .str=>[.string ⟨#[]⟩]
 | .slice _=>[.slice none 0 0]
 | .own _=>[.pointer none]
def rep{α:Type}(l:List α):Nat->List α
 |0=>[]
 |n+1=>l++rep l n
def TE.cells(te:TE):List Value:=match te.shape with
 | .arr n _=>rep (WaS te.ty) n
 |_=>WaS te.ty
def TE.size(te:TE):Nat:=match te.shape with
 | .arr n _=>n*te.ty.size
 |_=>te.ty.size
structure TEok(P:Program)(T:Tab)(t:TypeId)(te:TE):Prop where
 und:match te.shape with
  | .basic=>te.agg=false/\(match te.ty with
   | .int k=>P.underlying t=some (.int k)
   | .bool=>P.underlying t=some .bool
   | .str=>P.underlying t=some .string
   |_=>False)
  | .slice e=>te.agg=false/\P.underlying t=some (.slice e)/\∃cS,Wc T e=some cS/\te.ty= .slice cS.ty
  | .struct fs=>te.agg=true/\∃fields:Array Field,P.underlying t=some (.struct fields)/\fields.toList.map (λf=>(f.offset,f.type))=fs/\
    (∀f∈fields,f.name≠ "_")∧P.stoodInHeld t=false∧P.eqGuardType P.depth t=false
  | .ptr e=>te.agg=false/\P.underlying t=some (.pointer e)
  | .arr n e=>te.agg=true/\P.underlying t=some (.array n e)/\∃cS,Wc T e=some cS/\cS.ty=te.ty/\∀m f,cS.shape≠ .arr m f
 info:∃i z,P.info? t=some i/\i.size=te.size/\i.zero=some z/\z.cells.toList=te.cells/\i.bytes<=4096
def WW(P:Program)(T:Tab):Prop:=∀t te,Wc T t=some te->TEok P T t te
theorem WaR:∀t:Ty,0<t.size
 | .prod a b=>by have:=WaR a;simp[Ty.size];omega
 | .int _| .bool| .str| .slice _| .own _=>by simp[Ty.size]
section
variable{P:Program}{T:Tab}{w:World}
theorem Wa{t:TypeId}{d:TypeDesc}(h:P.underlying t=some d):(underlying t).run P w= .ok d w:=by
 simp[underlying,h]
theorem We3{t:TypeId}{i:TypeInfo}(h:P.info? t=some i):(typeInfo t).run P w= .ok i w:=by
 simp[typeInfo,h]
theorem WlU{t:TypeId}{i:TypeInfo}(h:P.info? t=some i):(sizeOf t).run P w= .ok i.size w:=by
 simp[sizeOf,We3 h]
theorem TEok.sizeOf{t:TypeId}{te:TE}(h:TEok P T t te):(sizeOf t).run P w= .ok te.size w:=by
 obtain⟨i,z,hi,hs,_⟩:=h.info;rw[WlU hi,hs]
theorem TEok.isAgg{t:TypeId}{te:TE}(h:TEok P T t te):(isAgg t).run P w= .ok te.agg w:=by
 have hu:=h.und;obtain⟨ty,agg,shape⟩:=te;cases shape with
 |basic=>
  obtain⟨ha,hu⟩:=hu;cases ty<;>simp only at hu<;>first|exact hu.elim|(simp[Go.isAgg,Wa hu];exact ha)
 |slice e=>obtain⟨ha,hu,_⟩:=hu;simp[Go.isAgg,Wa hu];exact ha
 |struct fs=>obtain⟨ha,f,hu,_⟩:=hu;simp[Go.isAgg,Wa hu];exact ha
 |ptr e=>obtain⟨ha,hu⟩:=hu;simp[Go.isAgg,Wa hu];exact ha
 |arr n e=>obtain⟨ha,hu,_⟩:=hu;simp[Go.isAgg,Wa hu];exact ha
end
theorem Wao(b o j:Nat):(⟨b,o,none⟩:Addr).add j=⟨b,o+j,none⟩:=by
 unfold Addr.add;split
 .rename_i h;subst h;rfl
 .rfl
section
variable{P:Program}{T:Tab}{w:World}{G:GH}{ν:Nat->Nu}{objs:WS}{nx:Nat}
theorem WH{te:TE}(h:te.plain=true):te.size=te.ty.size:=by
 unfold TE.plain at h;unfold TE.size;split at h<;>simp_all
theorem WeQ{t:TypeId}{te:TE}(bh:TEok P T t te)(dI:te.plain=true){b o off:Nat}{cs:List Cell}{us:List Value}{x:AVal}
  (hc:CellsRel G ν nx cs us) (hm:∀(j:Nat) (v:Value),us[j]?=some v->w.cell? ⟨b,o+j,none⟩=some v)
  (hs:sub te.agg cs off te.ty.size=some x):
  ∃v,(loadVar t ⟨b,o+off,none⟩).run P w= .ok v w/\AValRel G ν nx x v:=by
 have hsz:te.size=te.ty.size:=WH dI;unfold sub at hs;simp only[loadVar,Sem.run_bind,bh.isAgg,Result.andThen_ok];cases ha:te.agg with
 |true=>
  simp only[ha,if_true]at hs⊢;split at hs
  .rename_i hle;injection hs with hs;subst hs;have hlen:((us.drop off).take te.ty.size).length=te.ty.size:=by simp[hc.1];omega
   have hr:=run_loadCells_list (P:=P) w ⟨b,o+off,none⟩ ((us.drop off).take te.ty.size) (λj v hj=>by
    rw[Wao,Xan];rw[Xbb]at hj;split at hj
    .rw[Xbc]at hj;exact hm _ _ hj
    .simp at hj)
   rw[hlen]at hr;refine⟨.agg ((us.drop off).take te.ty.size).toArray,?_,_,rfl,(hc.drop off).take _⟩;simp[bh.sizeOf,hsz,hr]
  .simp at hs
 |false=>
  simp only[ha]at hs⊢;cases aX:cs[off]? with
  |none=>simp[aX]at hs
  |some c=>
   simp[aX]at hs;subst hs;have hlt:off<us.length:=by rw[hc.1];exact(Xr.1 aX).1
   have hu:us[off]?=some us[off]:=Xq hlt;refine⟨us[off],?_,hc.2 off c _ aX hu⟩;simp[hm _ _ hu]
end
section
variable{w0:World}{F:CS}{nt:Slots}{G0 G:GH}{ν:Nat->Nu}{st:St}{a:Act}{w:World}{P:Program}{T:Tab}
theorem Wnl{G:GH}:∀(t:Ty) (d:t.den) (v:Value),Enc G t d [v]->v.oneCell'=true
 | .int _,_,_,h=>by simp[Enc]at h;simp[h,Value.oneCell']
 | .bool,_,_,h=>by simp[Enc]at h;simp[h,Value.oneCell']
 | .str,_,_,h=>by simp[Enc]at h;simp[h,Value.oneCell']
 | .slice _,_,_,h=>by
  obtain⟨v,hv,hr⟩:=h;simp at hv;subst hv;rcases hr with⟨rfl,_⟩|⟨_,_,_,_,rfl,_⟩|⟨_,_,rfl,_⟩<;>rfl
 | .own _,_,_,h=>h.elim
 | .prod a b,d,v,h=>by
  have:=Enc_len _ _ _ h;have h1:=WaR a;have h2:=WaR b;simp[Ty.size]at this;omega
theorem Ws{t:Ty}{d:t.den}{v:Value}(h:Enc G t d [v]):AValRel G ν st.nx (one t d) v:=
 ⟨h,Wnl t d v h⟩
theorem Wex:∀(v:Value) (c:Cell),WX v=some c->CellRel G ν st.nx c v/\v.oneCell'=true
 | .int k n,c,h=>by simp[WX]at h;subst h;exact⟨rfl,rfl⟩
 | .bool b,c,h=>by simp[WX]at h;subst h;exact⟨rfl,rfl⟩
 | .string s,c,h=>by simp[WX]at h;subst h;exact⟨by simp[CellRel,Enc],rfl⟩
 | .slice none 0 0,c,h=>by simp[WX]at h;subst h;exact⟨rfl,rfl⟩
 | .slice none 0 (n+1),c,h=>by simp[WX]at h
 | .slice none (n+1) _,c,h=>by simp[WX]at h
 | .slice (some _) _ _,c,h=>by simp[WX]at h
 | .pointer none,c,h=>by simp[WX]at h;subst h;exact⟨trivial,rfl⟩
 | .nilFunc,c,h=>by simp[WX]at h;subst h;exact⟨trivial,rfl⟩
 | .float _ _,_,h| .complex _ _ _,_,h| .pointer (some _),_,h| .map _,_,h| .chan _,_,h| .func _ _ _,_,h| .iface _ _,_,h| .nilIface,_,h| .agg _,_,h| .tuple _,_,h=>by simp[WX]at h
theorem Wlk:∀(vs:List Value) (cs:List Cell),vs.mapM WX=some cs->CellsRel G ν st.nx cs vs
 | [],cs,h=>by simp at h;subst h;exact CellsRel.nil
 |v::vs,cs,h=>by
  simp only[Xew,Option.bind_eq_bind,Option.bind_eq_some_iff]at h;obtain⟨c,hc,ds,hd,he⟩:=h;simp at he;subst he;obtain⟨h1,h2⟩:=Wex (G:=G) (ν:=ν) (st:=st) v c hc;exact(CellsRel.one h1 h2).append (Wlk vs ds hd)
theorem Wr(h:Rel w0 F nt G0 G ν st a w):∀(x:Operand) (av:AVal),ev st x=some av->AValRel G ν st.nx av (a.eval x)
 | .tmp t,av,he=>by
  obtain⟨v,hv,hr⟩:=h.env t av he;simpa [Act.eval,hv]using hr
 | .const v,av,he=>by
  simp only[ev,Wm3]at he;split at he
  .rename_i cs;cases hm:cs.toList.mapM WX with
   |none=>simp[hm]at he
   |some l=>
    simp[hm]at he;subst he;exact⟨cs.toList,by simp[Act.eval],Wlk _ _ hm⟩
  .cases hm:WX v with
   |none=>simp[hm]at he
   |some c=>
    simp[hm]at he;subst he;obtain⟨h1,h2⟩:=Wex (G:=G) (ν:=ν) (st:=st) v c hm;exact⟨h1,h2⟩
 | .func f,av,he=>by
  simp[ev]at he;subst he;exact⟨⟨[],rfl,rfl,λj id u hj=>by simp at hj⟩,rfl⟩
 | .global g,av,he=>by simp[ev]at he
theorem WdR(av:AVal)(v:Value)(n:Int)(h:AValRel G ν st.nx av v)(he:asI av=some n):∃k,v= .int k n:=by
 unfold asI at he;split at he
 .rename_i k m;injection he with he;subst he;obtain⟨h1,_⟩:=h;simp[CellRel,Enc]at h1;exact⟨k,h1⟩
 .simp at he
theorem Wj2(av:AVal)(v:Value)(b:Bool)(h:AValRel G ν st.nx av v)(he:asB av=some b):v= .bool b:=by
 unfold asB at he;split at he
 .injection he with he;subst he;obtain⟨h1,_⟩:=h;simpa [CellRel,Enc]using h1
 .simp at he
def Gives(P:Program)(G:GH)(ν:Nat->Nu)(st:St)(w:World)(s:Sem Value)(r:AVal):Prop:=∃v,s.run P w= .ok v w/\AValRel G ν st.nx r v
theorem Gives.one{s:Sem Value}{t:Ty}{d:t.den}{v:Value}(hr:s.run P w= .ok v w)(h:Enc G t d [v]):Gives P G ν st w s (Sx.one t d):=⟨v,hr,Ws h⟩
theorem WlY{op:BinOp}{k:IntKind}{x y:Int}{r:AVal}(t:TypeId)(hs:op≠ .shl)(cg:op≠ .shr)(h:WqZ op k x y=some (true,r)):
  Gives P G ν st w (Go.binOp op t (.int k x) (.int k y)) r:=by
 cases op<;>simp[WqZ,inz]at h<;>first
  |exact absurd rfl hs
  |exact absurd rfl cg
  |(subst h;exact⟨_,by simp only[Go.binOp,ne_eq,not_true_eq_false,if_false,↓reduceIte,Op.intArith,Op.intBits,Op.intCmp]<;>rfl,Ws rfl⟩)
  |(obtain⟨hz,rfl⟩:=h;exact⟨_,by simp[Go.binOp,Op.intDiv,hz,Wri,WgB]<;>rfl,Ws rfl⟩)
theorem Wf7{op:BinOp}{k yk:IntKind}{x y:Int}{r:AVal}(t:TypeId)(h:(op= .shl/\(true,r)=(inn y,Sx.one (.int k) (Wq5 k x y)))\/(op= .shr/\(true,r)=(inn y,Sx.one (.int k) (Woe k x y)))):
  Gives P G ν st w (Go.binOp op t (.int k x) (.int yk y)) r:=by
 rcases h with⟨rfl,h⟩|⟨rfl,h⟩<;>simp[inn]at h<;>obtain⟨hn,rfl⟩:=h
 .exact⟨_,by simp[Go.binOp,Op.shift,Int.not_lt.2 hn,Wq5]<;>rfl,Ws rfl⟩
 .exact⟨_,by simp[Go.binOp,Op.shift,Int.not_lt.2 hn,Woe]<;>rfl,Ws rfl⟩
theorem WlD{op:BinOp}{x y:List UInt8}{r:AVal}(t:TypeId)(h:Wq1 op x y=some (true,r)):
  Gives P G ν st w (Go.binOp op t (.string ⟨x.toArray⟩) (.string ⟨y.toArray⟩)) r:=by
 cases op<;>simp[Wq1]at h
 .obtain⟨hf,rfl⟩:=h;simp[Wrh]at hf;refine⟨.string ⟨(x++y).toArray⟩,?_,Ws rfl⟩;have e:(ByteArray.mk x.toArray++ByteArray.mk y.toArray)=⟨(x++y).toArray⟩:=by
   apply ByteArray.ext;simp
  have hsz:¬((((ByteArray.mk x.toArray).size+(ByteArray.mk y.toArray).size:Nat):Int)>IntKind.i64.max):=by
   have hm:IntKind.i64.max=9223372036854775807:=by decide
   simp only[ByteArray.size,List.size_toArray,hm];omega
  simp only[Go.binOp,Op.stringOp,if_neg hsz,e];rfl
 .subst h;exact⟨_,by simp[Go.binOp,Op.stringOp]<;>rfl,Ws rfl⟩
 .subst h;exact⟨_,by simp[Go.binOp,Op.stringOp]<;>rfl,Ws rfl⟩
theorem WqK(x y:List UInt8):((ByteArray.mk x.toArray).toList==(ByteArray.mk y.toArray).toList)=seq x y:=by simp[seq]
theorem Wii{te:TE}{c d:Cell}{b:Bool}{u v:Value}{t:TypeId}(bh:TEok P T t te)(hc:CellRel G ν st.nx c u)(hd:CellRel G ν st.nx d v)
  (h:WhT te c d=some b) (n:Nat):(Op.equalIn (n+1) t u v).run P w= .ok b w/\te.agg=false:=by
 have hu:=bh.und;unfold WhT at h;split at h
 .split at h
  .rename_i hk;subst hk;injection h with h;subst h;simp only[CellRel,Enc,List.cons.injEq,and_true]at hc hd;subst hc hd;exact⟨run_equalIn_int w n t _ _ _ _ hu.2,rfl⟩
  .simp at h
 .injection h with h;subst h;simp only[CellRel,Enc,List.cons.injEq,and_true]at hc hd;subst hc hd;exact⟨run_equalIn_bool' w n t _ _ hu.2,rfl⟩
 .injection h with h;subst h;simp only[CellRel,Enc,List.cons.injEq,and_true]at hc hd;subst hc hd;exact⟨(run_equalIn_string w n t _ _ hu.2).trans (congrArg (Result.ok · w) (WqK _ _)),rfl⟩
 .simp at h
theorem Wle{t:TypeId}{te:TE}(bh:TEok P T t te)(ha:te.agg=false)(cs:Array Value)(off:Nat)(v:Value)(h:cs[off]?=some v):(part t cs off).run P w= .ok v w:=by
 simp only[part,Sem.run_bind,bh.isAgg,Result.andThen_ok,ha];simp[h]
theorem Wdy(hT:WW P T)(n:Nat)(xs ys:Array Value):∀(fields:List Field) (k:Nat) (cs ds:List Cell) (b:Bool),
  (∀f∈fields,f.name≠ "_")→fields.map (·.offset)=List.range' k fields.length→
  (∀(j:Nat) (c:Cell),cs[j]?=some c->∃v,xs[k+j]?=some v/\CellRel G ν st.nx c v)->
  (∀(j:Nat) (c:Cell),ds[j]?=some c->∃v,ys[k+j]?=some v/\CellRel G ν st.nx c v)->
  WbR T (fields.map (·.type)) cs ds=some b->(Op.eqFields (n+1) xs ys fields).run P w= .ok b w
 | [],k,[],[],b,_,_,_,_,h=>by simp[WbR]at h;subst h;rfl
 |f::fs,k,c::cs,d::ds,b,hn,ho,hx,hy,h=>by
  simp only[Xaj,WbR]at h;cases hl:Wc T f.type with
  |none=>simp[hl]at h
  |some te=>
   simp only[hl]at h;cases h1:WhT te c d with
   |none=>simp[h1]at h
   |some p=>
    cases h2:WbR T (fs.map (·.type)) cs ds with
    |none=>simp[h1,h2]at h
    |some q=>
     simp[h1,h2]at h;subst h;obtain⟨u,hu,tY⟩:=hx 0 c rfl;obtain⟨v,hv,tZ⟩:=hy 0 d rfl;obtain⟨he,ha⟩:=Wii (w:=w) (hT _ _ hl) tY tZ h1 n;simp only[Xaj,Xt,List.range'_succ,List.cons.injEq]at ho;have ih:=Wdy hT n xs ys fs (k+1) cs ds q (λf hf=>hn f (Xe _ hf)) ho.2
      (λj c hj=>by have:=hx (j+1) c (by simpa using hj);rwa [Xan,Xcj 1 j])
      (λj c hj=>by have:=hy (j+1) c (by simpa using hj);rwa [Xan,Xcj 1 j]) h2
     simp only[Op.eqFields,if_pos (hn f (Xh ..)),Sem.run_bind,ho.1];rw[Xat]at hu hv;rw[Wle (hT _ _ hl) ha xs k u hu,Result.andThen_ok,Wle (hT _ _ hl) ha ys k v hv,Result.andThen_ok,he,Result.andThen_ok];cases p
     .simp
     .simpa using ih
 | [],_,_::_,_,_,_,_,_,_,h=>by simp[WbR]at h
 | [],_,[],_::_,_,_,_,_,_,h=>by simp[WbR]at h
 |_::_,_,[],_,_,_,_,_,_,h=>by simp[WbR]at h
 |_::_,_,_::_,[],_,_,_,_,_,h=>by simp[WbR]at h
theorem Wa9{op:BinOp}{t:TypeId}{x y:Operand}{u v:Value}(hu:∀cs,u≠ .agg cs)(hn:u≠ .nilIface):(eqGuard op t x y u v).run P w= .ok () w:=by
 unfold eqGuard;cases op<;>simp<;>cases u<;>cases v<;>first|rfl|exact absurd rfl hn|exact absurd rfl (hu _)
theorem Wj9(hT:WW P T){op:BinOp}{t:TypeId}{x y:AVal}{u v:Value}{r:AVal}(ox oy:Operand)(hx:AValRel G ν st.nx x u)(hy:AValRel G ν st.nx y v)
  (h:Sx.binOp T op t x y=some (true,r)):Gives P G ν st w (do eqGuard op t ox oy u v;Go.binOp op t u v) r:=by
 unfold Sx.binOp at h;split at h
 .rename_i k m k' m';obtain⟨hx,_⟩:=hx;obtain⟨hy,_⟩:=hy;simp only[CellRel,Enc,List.cons.injEq,and_true]at hx hy;subst hx hy;have hg:(eqGuard op t ox oy (.int k m) (.int k' m')).run P w= .ok () w:=Wa9 (by simp) (by simp)
  suffices hh:Gives P G ν st w (Go.binOp op t (.int k m) (.int k' m')) r by
   obtain⟨z,h1,h2⟩:=hh;exact⟨z,by simp[hg,h1],h2⟩
  split at h
  .injection h with h;exact Wf7 t (.inl ⟨rfl,h.symm⟩)
  .injection h with h;exact Wf7 t (.inr ⟨rfl,h.symm⟩)
  .split at h
   .rename_i hk;subst hk;exact WlY t (by assumption) (by assumption) h
   .simp at h
 .rename_i m m';obtain⟨hx,_⟩:=hx;obtain⟨hy,_⟩:=hy;simp only[CellRel,Enc,List.cons.injEq,and_true]at hx hy;subst hx hy;obtain⟨z,h1,h2⟩:=WlD (w:=w) (P:=P) (G:=G) (ν:=ν) (st:=st) t h;exact⟨z,by simp[Wa9,h1],h2⟩
 .rename_i m m';obtain⟨hx,_⟩:=hx;obtain⟨hy,_⟩:=hy;simp only[CellRel,Enc,List.cons.injEq,and_true]at hx hy;subst hx hy;split at h
  .rename_i hl;have hu:=(hT _ _ hl).und;simp only[true_and]at hu;have key:(Op.equalIn 10000 t (.bool m) (.bool m')).run P w= .ok (beq m m') w:=run_equalIn_bool' w 9999 t m m' hu;split at h<;>simp at h
   .subst h;exact⟨.bool (beq m m'),by simp[Wa9,Go.binOp,Op.equal,Op.maxDepth,key],Ws rfl⟩
   .subst h;exact⟨.bool (!beq m m'),by simp[Wa9,Go.binOp,Op.equal,Op.maxDepth,key],Ws rfl⟩
  .simp at h
 .rename_i cs ds;obtain⟨us,rfl,aX⟩:=hx;obtain⟨vs,rfl,ff⟩:=hy;split at h
  .rename_i fs hl;obtain⟨_,fields,hu,cJ,ua,ch,jZ⟩:=(hT _ _ hl).und;split at h
   .rename_i hr;have hr:=of_decide_eq_true hr;have rW:P.fieldsOf t=fields:=by simp[Program.fieldsOf,hu]
    have key:∀b,WbR T (fs.map (·.2)) cs ds=some b->(Op.equalIn 10000 t (.agg us.toArray) (.agg vs.toArray)).run P w= .ok b w:=λb hb=>by
     rw[run_equalIn_struct w 9999 t _ _ (by rw[rW];exact hu) ch,rW];refine Wdy (G:=G) (ν:=ν) (st:=st) hT 9998 us.toArray vs.toArray fields.toList 0 cs ds b (λf hf=>ua f (by simpa using hf)) ?_ ?_ ?_ ?_
     .rw[←cJ]at hr;simpa [List.range_eq_range',Function.comp_def]using hr
     .intro j c hj;have hlt:j<us.length:=by rw[aX.1];exact(Xr.1 hj).1
      exact⟨us[j],by simp[hlt],(aX.2 j c _ hj (Xq hlt)).1⟩
     .intro j c hj;have hlt:j<vs.length:=by rw[ff.1];exact(Xr.1 hj).1
      exact⟨vs[j],by simp[hlt],(ff.2 j c _ hj (Xq hlt)).1⟩
     .rw[←cJ]at hb;simpa [Function.comp_def]using hb
    split at h
    .rename_i b hb;simp at h;subst h;exact⟨.bool b,by simp[run_eqGuard_agg w _ t ox oy _ _ jZ,run_eql_struct,key b hb],Ws rfl⟩
    .rename_i b hb;simp at h;subst h;exact⟨.bool (!b),by simp[run_eqGuard_agg w _ t ox oy _ _ jZ,run_neq_struct,key b hb],Ws rfl⟩
    .simp at h
   .simp at h
  .simp at h
 .simp at h
end
end Go.Sx
namespace Go.Sx
set_option linter.unusedVariables false
set_option linter.unusedSimpArgs false
section
variable{w0:World}{F:CS}{nt:Slots}{G0 G:GH}{ν:Nat->Nu}{st:St}{a:Act}{w:World}{P:Program}{T:Tab}
theorem HRel.g{objs:WS}{nx:Nat}(h:HRel w0 F G ν objs nx w){b o:Nat}{v:Value}(hg:G b o=some v):w.cell? ⟨b,o,none⟩=some v:=by
 obtain⟨φ,h⟩:=h;exact h.g b o v hg
theorem HRel.obj{objs:WS}{nx:Nat}(h:HRel w0 F G ν objs nx w){id:Nat}{ob:Ob}(ho:Wc objs id=some ob):∃S,Wbx G ν nx w id S ob:=by
 obtain⟨φ,h⟩:=h;exact⟨φ id,h.ob id ob ho⟩
theorem WeG{k:IntKind}{n:Int}{v:Value}(h:AValRel G ν st.nx (.s (.one (.val (.int k) n))) v):v= .int k n:=by
 obtain⟨h,_⟩:=h;simpa [CellRel,Enc]using h
theorem WhB{n:Bool}{v:Value}(h:AValRel G ν st.nx (.s (.one (.val .bool n))) v):v= .bool n:=by
 obtain⟨h,_⟩:=h;simpa [CellRel,Enc]using h
theorem WhF{s:List UInt8}{v:Value}(h:AValRel G ν st.nx (.s (.one (.val .str s))) v):v= .string ⟨s.toArray⟩:=by
 obtain⟨h,_⟩:=h;simpa [CellRel,Enc]using h
theorem WlR{op:UnOp}{x:AVal}{u:Value}{r:AVal}(hx:AValRel G ν st.nx x u)(h:Sx.unOp op x=some (true,r)):Gives P G ν st w (Op.unary op u) r:=by
 unfold Sx.unOp at h;split at h
 .have:=WhB hx;subst this;simp at h;subst h;exact⟨_,rfl,Ws rfl⟩
 .have:=WeG hx;subst this;simp at h;subst h;exact⟨_,rfl,Ws rfl⟩
 .simp at h
theorem Wp2{id:Nat}{e:Ty}{xs:List e.den}{nx:Nat}{S:CS}(h:Wbx G ν nx w id S (.arr e xs)):∃a c,(ν id).hdr= .slice a xs.length c:=by
 obtain⟨hlen,_,ax⟩:=h;unfold Nu.hdr;cases hb:(ν id).blk with
 |none=>simp only[hb]at ax;subst ax;exact⟨_,_,rfl⟩
 |some b=>rw[hlen];exact⟨_,_,rfl⟩
theorem WoD{id:Nat}{e:Ty}{xs:List e.den}{i p nx:Nat}{S:CS}(h:Wbx G ν nx w id S (.hole e xs i p)):∃a c,(ν id).hdr= .slice a xs.length c:=by
 obtain⟨_,hlen,_,_,b,hb,_⟩:=h;unfold Nu.hdr;simp only[hb];rw[hlen];exact⟨_,_,rfl⟩
theorem WpK{t ty:TypeId}(hu:P.underlying t=some .string)(s:List UInt8):(Builtin.len_ #[t] ty #[.string ⟨s.toArray⟩]).run P w= .ok (.int .i64 (We s)) w:=by
 have h1:(Builtin.len_ #[t] ty #[.string ⟨s.toArray⟩]).run P w= .ok (goInt (ByteArray.mk s.toArray).size) w:=by
  simp only[Builtin.len_];simp[Wa hu]
 rw[h1];rfl
theorem WkF(hT:WW P T)(hh:HRel w0 F G ν st.objs st.nx w){t ty:TypeId}{x:AVal}{u:Value}{r:AVal}(hx:AValRel G ν st.nx x u)(h:Wgq T st t x=some (true,r)):
  Gives P G ν st w (Builtin.len_ #[t] ty #[u]) r:=by
 unfold Wgq at h;split at h
 .rename_i te e l _ hl;simp at h;subst h;have hu:=(hT _ _ hl).und.2.1;obtain⟨⟨v,hv,hr⟩,_⟩:=hx;simp at hv;subst hv;rcases hr with⟨rfl,co⟩|⟨b,off,cap,cs,rfl,_⟩|⟨a,cap,rfl,co⟩
  rotate_left 2
  .exact⟨_,by simp[Builtin.len_,Wa hu]<;>rfl,Ws (by rw[co];rfl)⟩
  .exact⟨_,by simp[Builtin.len_,Wa hu]<;>rfl,Ws (by rw[co];rfl)⟩
  .exact⟨_,by simp[Builtin.len_,Wa hu]<;>rfl,Ws rfl⟩
 .rename_i te e _ hl;simp at h;subst h;have hu:=(hT _ _ hl).und.2.1;obtain⟨hv,_⟩:=hx;simp only[CellRel]at hv;subst hv;exact⟨_,by simp[Builtin.len_,Wa hu]<;>rfl,Ws rfl⟩
 .rename_i te e id hl;have hu:=(hT _ _ hl).und.2.1;obtain⟨⟨_,hv⟩,_⟩:=hx;subst hv;unfold obL at h;split at h
  .rename_i e' xs ho;simp at h;subst h;obtain⟨S,ax⟩:=hh.obj ho;obtain⟨a,c,hd⟩:=Wp2 ax;rw[hd];exact⟨.int .i64 (We xs),by simp[Builtin.len_,Wa hu]<;>rfl,Ws rfl⟩
  .rename_i e' xs i p ho;simp at h;subst h;obtain⟨S,ax⟩:=hh.obj ho;obtain⟨a,c,hd⟩:=WoD ax;rw[hd];exact⟨.int .i64 (We xs),by simp[Builtin.len_,Wa hu]<;>rfl,Ws rfl⟩
  .simp at h
 .rename_i te e id lo hi hl;simp only[Option.some.injEq,Prod.mk.injEq,true_and]at h;subst h;have hu:=(hT _ _ hl).und.2.1;obtain⟨⟨_,h1,h2,h3,hv⟩,_⟩:=hx;subst hv;unfold Nu.vhdr;cases hb:(ν id).blk with
  |none=>
   have h0:=h3 hb;have e0:hi-lo=0:=by omega
   rw[e0];exact⟨_,by simp[Builtin.len_,Wa hu]<;>rfl,Ws rfl⟩
  |some b=>exact⟨.int .i64 ((hi-lo:Nat):Int),by simp[Builtin.len_,Wa hu]<;>rfl,Ws rfl⟩
 .rename_i s hl;simp at h;subst h;have hu:=(hT _ _ hl).und.2;have:=WhF hx;subst this;exact⟨.int .i64 (We (α:=UInt8) s),WpK hu s,Ws rfl⟩
 .simp at h
theorem Wco(hT:WW P T){t:TypeId}{f off:Nat}{te:TE}(h:Weo T t f=some (off,te)):
  ∃(fields:Array Field) (fd:Field),P.underlying t=some (.struct fields)/\fields[f]?=some fd/\fd.offset=off/\TEok P T fd.type te/\te.plain=true:=by
 unfold Weo at h;split at h
 .rename_i fs hl;obtain⟨_,fields,hu,cJ,_⟩:=(hT _ _ hl).und;split at h
  .rename_i o ft hf;split at h
   .rename_i cS co;split at h
    .rename_i hp;injection h with h;injection h with h1 h2;subst h1 h2;rw[←cJ]at hf;simp only[Xak,Xda]at hf;cases d6:fields[f]? with
     |none=>simp[d6]at hf
     |some fd=>
      simp[d6]at hf;obtain⟨h1,h2⟩:=hf;subst h1 h2;exact⟨fields,fd,hu,d6,rfl,hT _ _ co,hp⟩
    .simp at h
   .simp at h
  .simp at h
 .simp at h
theorem Wd0{t:TypeId}{f off:Nat}{te:TE}{b o:Nat}{fields:Array Field}{fd:Field}(hu:P.underlying t=some (.struct fields))(hf:fields[f]?=some fd)(ho:fd.offset=off)
  (bh:TEok P T fd.type te) (hp:te.plain=true):(Instr.fieldAt t (.pointer (some ⟨b,o,none⟩)) f).run P w= .ok (.pointer (some ⟨b,o+off,none⟩)) w:=by
 have hsz:te.size≠0:=by rw[WH hp];have:=WaR te.ty;omega
 simp[Instr.fieldAt,Wa hu,hf,Instr.sureAddr,fieldPlace,bh.sizeOf,hsz,Wao,ho]
theorem WeJ(hT:WW P T)(hh:HRel w0 F G ν st.objs st.nx w){t:TypeId}{f:Nat}{x:AVal}{u:Value}{r:AVal}(hx:AValRel G ν st.nx x u)(h:Wbk T st t x f=some (true,r)):
  Gives P G ν st w (Instr.fieldAt t u f) r:=by
 unfold Wbk at h;split at h
 .rename_i off te id o hf;obtain⟨fields,fd,hu,d6,ho,bh,hp⟩:=Wco hT hf;split at h
  .simp at h;subst h;obtain⟨⟨h1,b,hb,rfl⟩,_⟩:=hx;exact⟨_,Wd0 hu d6 ho bh hp,⟨h1,b,hb,by rw[Xan]⟩,rfl⟩
  .simp at h
 .rename_i off te id i o hf;obtain⟨fields,fd,hu,d6,ho,bh,hp⟩:=Wco hT hf;split at h
  .simp at h;subst h;obtain⟨⟨h1,h2,b,hb,rfl⟩,_⟩:=hx;exact⟨_,Wd0 hu d6 ho bh hp,⟨h1,h2,b,hb,by rw[Xan,Xan]⟩,rfl⟩
  .simp at h
 .rename_i off te t' d o hf;obtain⟨fields,fd,hu,d6,ho,bh,hp⟩:=Wco hT hf;simp at h;subst h;obtain⟨⟨b,o',cs,rfl,h1,h2⟩,_⟩:=hx;exact⟨_,Wd0 hu d6 ho bh hp,⟨b,o',cs,by rw[Xan],h1,h2⟩,rfl⟩
 .simp at h
theorem Whv(hT:WW P T){t:TypeId}{f:Nat}{x:AVal}{u:Value}{r:AVal}(hx:AValRel G ν st.nx x u)(h:Wj4 T t x f=some (true,r)):
  Gives P G ν st w (Instr.field t u f) r:=by
 unfold Wj4 at h;split at h
 .rename_i off te cs hf;obtain⟨fields,fd,hu,d6,ho,bh,hp⟩:=Wco hT hf;obtain⟨us,rfl,aX⟩:=hx;cases hs:sub te.agg cs off te.ty.size with
  |none=>simp[hs]at h
  |some y=>
   simp[hs]at h;subst h;unfold sub at hs;simp only[Gives,Instr.field,Sem.run_bind,Wa hu,Result.andThen_ok,d6,asAgg,Sem.run_pure,part,bh.isAgg];cases ha:te.agg with
   |true=>
    simp only[ha,if_true]at hs⊢;split at hs
    .rename_i hle;injection hs with hs;subst hs;refine⟨.agg ((us.drop off).take te.ty.size).toArray,?_,_,rfl,(aX.drop off).take _⟩;simp[bh.sizeOf,WH hp,ho]
    .simp at hs
   |false=>
    simp only[ha]at hs⊢;cases hc:cs[off]? with
    |none=>simp[hc]at hs
    |some c=>
     simp[hc]at hs;subst hs;have hlt:off<us.length:=by rw[aX.1];exact(Xr.1 hc).1
     refine⟨us[off],?_,aX.2 off c _ hc (Xq hlt)⟩;simp[ho,hlt]
 .simp at h
end
end Go.Sx
namespace Go.Sx
set_option linter.unusedVariables false
set_option linter.unusedSimpArgs false
section
variable{w0:World}{F:CS}{nt:Slots}{G0 G:GH}{ν:Nat->Nu}{st:St}{a:Act}{w:World}{P:Program}{T:Tab}
theorem Wjq{α:Type}{R:α->List Value->Prop}{n:Nat}(h:∀x c,R x c->c.length=n)(l:List α)(cs:List Value)(i:Nat)(d:α)(he:EncL R l cs)(hi:i<l.length):
  R (l.getD i d) ((cs.drop (i*n)).take n):=EncL_nth h l cs i _ he (by simp[Xc,hi])
theorem Wcq{i:Int}{n:Nat}(h:inb i n=true):0<=i/\i<n:=by simpa [inb]using h
theorem Wck{t et:TypeId}{te:TE}{k:IntKind}{n:Int}{b off len cap:Nat}(hu:P.underlying t=some (.slice et))(bh:TEok P T et te)(hp:te.plain=true)(h0:0<=n)(h1:n<len):
  (Instr.indexAt t (.slice (some ⟨b,off,none⟩) len cap) (.int k n)).run P w= .ok (.pointer (some ⟨b,off+n.toNat*te.ty.size,none⟩)) w:=by
 simp[Instr.indexAt,asIntOf,Wa hu,h0,h1,bh.sizeOf,WH hp,Wao]
theorem Wmy(hT:WW P T)(hh:HRel w0 F G ν st.objs st.nx w){t et:TypeId}{te:TE}{k:IntKind}{n:Int}{id:Nat}{u:Value}{r:AVal}(hu:P.underlying t=some (.slice et))(bh:TEok P T et te)(hp:te.plain=true)
  (hx:AValRel G ν st.nx (.s (.one (.own id))) u) (h:obI te n id (Wc st.objs id)=some (true,r)):Gives P G ν st w (Instr.indexAt t u (.int k n)) r:=by
 obtain⟨⟨bg,hv⟩,_⟩:=hx;subst hv;unfold obI at h;split at h
 .rename_i e xs ax;split at h
  .rename_i he;simp only[Option.some.injEq,Prod.mk.injEq]at h;obtain⟨hb,rfl⟩:=h;obtain⟨h0,h1⟩:=Wcq hb;obtain⟨S,hlen,bw,ho⟩:=hh.obj ax;unfold Nu.hdr;cases aM:(ν id).blk with
   |none=>simp only[aM]at ho;subst ho;simp at h1;omega
   |some b=>
    refine⟨.pointer (some ⟨b,(ν id).off+n.toNat*te.ty.size,none⟩),Wck hu bh hp h0 (by rw[←hlen];exact h1),⟨bg,by omega,b,aM,?_⟩,rfl⟩;rw[bw,he,WaV,Xat]
  .simp at h
 .rename_i e xs i p ax;split at h
  .rename_i he;simp only[Option.some.injEq,Prod.mk.injEq,Xi]at h;obtain⟨⟨hb,hi⟩,rfl⟩:=h;obtain⟨h0,h1⟩:=Wcq hb;have hi:=Xbt hi;obtain⟨S,kB,hlen,bw,hlt,b,aM,mF,ub,ho⟩:=hh.obj ax;unfold Nu.hdr;simp only[aM];refine⟨.pointer (some ⟨b,(ν id).off+n.toNat*te.ty.size,none⟩),Wck hu bh hp h0 (by rw[←hlen];exact h1),⟨kB,b,mF,?_⟩,rfl⟩;rw[ub,he,WaV,Xat,hi]
  .simp at h
 .simp at h
theorem Wmb(hT:WW P T)(hh:HRel w0 F G ν st.objs st.nx w){t et:TypeId}{te:TE}{k:IntKind}{n:Int}{id lo hi:Nat}{u:Value}{r:AVal}(hu:P.underlying t=some (.slice et))(bh:TEok P T et te)(hp:te.plain=true)
  (hx:AValRel G ν st.nx (.s (.one (.vw id lo hi))) u) (h:Wqy te n id lo hi (Wc st.objs id)=some (true,r)):Gives P G ν st w (Instr.indexAt t u (.int k n)) r:=by
 obtain⟨⟨bg,g1,g2,g3,hv⟩,_⟩:=hx;subst hv;unfold Wqy at h;split at h
 .rename_i e xs ax;split at h
  .rename_i he;simp only[Option.some.injEq,Prod.mk.injEq]at h;obtain⟨hb,rfl⟩:=h;obtain⟨h0,h1⟩:=Wcq hb;obtain⟨S,hlen,bw,ho⟩:=hh.obj ax;unfold Nu.vhdr;cases aM:(ν id).blk with
   |none=>have:=g3 aM;omega
   |some b=>
    simp only[aM]at ho;have hne:(ν id).cap≠lo:=by omega
    rw[if_neg hne];refine⟨.pointer (some ⟨b,(ν id).off+lo*(ν id).esz+n.toNat*te.ty.size,none⟩),Wck hu bh hp h0 h1,⟨bg,by omega,b,aM,?_⟩,rfl⟩;rw[bw,he,WaV,Xat,Xcp,Xan]
  .simp at h
 .simp at h
theorem WlN(hT:WW P T)(hh:HRel w0 F G ν st.objs st.nx w){t et:TypeId}{te:TE}{k:IntKind}{n:Int}{m id:Nat}{u:Value}{r:AVal}(hu:P.underlying t=some (.array m et))(bh:TEok P T et te)(hp:te.plain=true)
  (hx:AValRel G ν st.nx (.s (.one (.aptr id))) u) (h:Wqw te n m id (Wc st.objs id)=some (true,r)):Gives P G ν st w (Instr.indexAt t u (.int k n)) r:=by
 obtain⟨⟨bg,b,aM,hv⟩,_⟩:=hx;subst hv;unfold Wqw at h;split at h
 .rename_i e xs ax;split at h
  .rename_i he;simp only[Option.some.injEq,Prod.mk.injEq,Xi,decide_eq_true_eq]at h;obtain⟨⟨hb,hm⟩,rfl⟩:=h;obtain⟨h0,h1⟩:=Wcq hb;obtain⟨S,hlen,bw,ho⟩:=hh.obj ax;refine⟨.pointer (some ⟨b,(ν id).off+n.toNat*e.size,none⟩),?_,⟨bg,by omega,b,aM,by rw[bw,Xat]⟩,rfl⟩;have:((0:Int)<=n/\n<(m:Int)):=⟨h0,h1⟩;simp only[Instr.indexAt,asIntOf,Sem.run_bind,Sem.run_pure,Result.andThen_ok,Wa hu,Instr.sureAddr,if_pos this,bh.sizeOf,WH hp,Wao,he]
  .simp at h
 .simp at h
theorem WeZ(hT:WW P T)(hh:HRel w0 F G ν st.objs st.nx w){t:TypeId}{x i:AVal}{u v:Value}{r:AVal}(hx:AValRel G ν st.nx x u)(hi:AValRel G ν st.nx i v)
  (h:Wbc T st t x i=some (true,r)):Gives P G ν st w (Instr.indexAt t u v) r:=by
 unfold Wbc at h;split at h
 .rename_i ty ag et n hl hn;obtain⟨k,rfl⟩:=WdR _ _ _ hi hn;have hu:=(hT _ _ hl).und.2.1;split at h
  .rename_i te hle;split at h
   .rename_i hp;split at h
    .rename_i e l;split at h
     .rename_i he;simp only[Option.some.injEq,Prod.mk.injEq]at h;obtain⟨hb,rfl⟩:=h;obtain⟨h0,h1⟩:=Wcq hb;obtain⟨⟨z,hz,hr⟩,_⟩:=hx;simp at hz;subst hz;rcases hr with⟨rfl,co⟩|⟨b,off,cap,cs,rfl,h2,h3,h4,h5⟩|⟨a,cap,rfl,co⟩
      rotate_left 2
      .rw[co]at h1;simp at h1;omega
      .rw[co]at h1;simp at h1;omega
      .have hlt:n.toNat<Xa l:=by omega
       refine⟨_,Wck hu (hT _ _ hle) hp h0 h1,⟨b,off+n.toNat*e.size,_,?_,Wjq (λx c hc=>Enc_len e x c hc) l cs n.toNat e.dflt h4 hlt,?_⟩,rfl⟩
       .rw[he];rfl
       .intro j v hj;rw[Xbb]at hj;split at hj
        .rw[Xbc]at hj;rw[Xan];exact h5 _ _ hj
        .simp at hj
     .simp at h
    .simp at h
    .exact Wmy hT hh hu (hT _ _ hle) hp hx h
    .exact Wmb hT hh hu (hT _ _ hle) hp hx h
    .simp at h
   .simp at h
  .simp at h
 .rename_i ty ag m et n hl hn;obtain⟨k,rfl⟩:=WdR _ _ _ hi hn;have hu:=(hT _ _ hl).und.2.1;split at h
  .rename_i te hle;split at h
   .rename_i hp;split at h
    .exact WlN hT hh hu (hT _ _ hle) hp hx h
    .simp at h
   .simp at h
  .simp at h
 .simp at h
theorem Wql(s:List UInt8)(n:Nat)(h:n<s.length):(ByteArray.mk s.toArray)[n]?=some (s.getD n 0):=by
 rw[ByteArray.getElem?_lt' _ _ (by simpa [ByteArray.size]using h)];simp[ByteArray.getElem_eq_getElem_data,h]
theorem WgV{k:IntKind}:∀(cs:List Cell) (us:List Value) (l:List Int),Wa2 k cs=some l->CellsRel G ν st.nx cs us->l.length=cs.length/\∀j,j<us.length->us[j]?=some (.int k (Xc l j (0:Int)))
 | [],us,l,h,hc=>by
  simp only[Wa2]at h;injection h with h;subst h;have:=hc.1;simp at this;subst this;exact⟨rfl,λj hj=>by simp at hj⟩
 | .val (.int k') d::cs,us,l,h,hc=>by
  simp only[Wa2]at h;split at h
  .rename_i hk;subst hk;cases hi:Wa2 k' cs with
   |none=>rw[hi]at h;cases h
   |some l'=>
    rw[hi]at h;simp only[Xbu]at h;injection h with h;subst h;cases us with
    |nil=>have:=hc.1;simp at this
    |cons u us=>
     have h0:=(hc.2 0 _ u rfl rfl).1;have hu:u= .int k' d:=by simpa [CellRel,Enc]using h0
     obtain⟨h1,h2⟩:=WgV cs us l' hi ⟨by have:=hc.1;simpa using this,λj c v hj hv=>hc.2 (j+1) c v (by simpa using hj) (by simpa using hv)⟩;refine⟨by show l'.length+1=cs.length+1;rw[h1],λj hj=>?_⟩;cases j with
     |zero=>show some u=some (Value.int k' d);rw[hu]
     |succ j=>exact h2 j (by simpa using hj)
  .cases h
 | .val .bool d::cs,us,l,h,_=>by simp[Wa2]at h
 | .val .str d::cs,us,l,h,_=>by simp[Wa2]at h
 | .val (.slice _) d::cs,us,l,h,_=>by simp[Wa2]at h
 | .val (.own _) d::cs,us,l,h,_=>by simp[Wa2]at h
 | .val (.prod _ _) d::cs,us,l,h,_=>by simp[Wa2]at h
 | .nils::cs,us,l,h,_=>by simp[Wa2]at h
 | .own _::cs,us,l,h,_=>by simp[Wa2]at h
 | .vw _ _ _::cs,us,l,h,_=>by simp[Wa2]at h
 | .aptr _::cs,us,l,h,_=>by simp[Wa2]at h
 | .ptr _ _::cs,us,l,h,_=>by simp[Wa2]at h
 | .eptr _ _ _::cs,us,l,h,_=>by simp[Wa2]at h
 | .rptr _ _ _::cs,us,l,h,_=>by simp[Wa2]at h
 | .clos _ _::cs,us,l,h,_=>by simp[Wa2]at h
 | .junk::cs,us,l,h,_=>by simp[Wa2]at h
theorem WhS(hT:WW P T){t:TypeId}{x i:AVal}{u v:Value}{r:AVal}(hx:AValRel G ν st.nx x u)(hi:AValRel G ν st.nx i v)
  (h:Wj6 T t x i=some (true,r)):Gives P G ν st w (Instr.index t u v) r:=by
 unfold Wj6 at h;split at h
 .rename_i s n hl hn;obtain⟨k,rfl⟩:=WdR _ _ _ hi hn;have:=WhF hx;subst this;have hu:=(hT _ _ hl).und.2;simp only[Option.some.injEq,Prod.mk.injEq]at h;obtain⟨hb,rfl⟩:=h;obtain⟨h0,h1⟩:=Wcq hb;have hlt:n.toNat<Xa s:=by omega
  refine⟨.int .u8 ((Xc s n.toNat 0).toNat:Int),?_,Ws rfl⟩;simp only[Instr.index,asIntOf,Sem.run_bind,Sem.run_pure,Result.andThen_ok,Wa hu,if_pos h0,Wql s n.toNat hlt]
 .rename_i k ag m et cs n hl hn;split at h
  .rename_i k' hle;split at h
   .rename_i l mG;split at h
    .rename_i hc;obtain⟨rfl,hm⟩:=hc;obtain⟨kk,rfl⟩:=WdR _ _ _ hi hn;obtain⟨us,rfl,aX⟩:=hx;simp only[Option.some.injEq,Prod.mk.injEq]at h;obtain⟨hb,rfl⟩:=h;obtain⟨h0,h1⟩:=Wcq hb;obtain⟨hlen,dv⟩:=WgV _ _ _ mG aX;have hu:=(hT _ _ hl).und.2.1;have mH:=hT _ _ hle;have cT:(Go.isAgg et).run P w= .ok false w:=mH.isAgg;have hsz:(Go.sizeOf et).run P w= .ok 1 w:=mH.sizeOf;have hlt:n.toNat<us.length:=by rw[aX.1];omega
     have hC:us[n.toNat]?=some (.int k' (Xc l n.toNat (0:Int))):=dv _ hlt;refine⟨.int k' (Xc l n.toNat (0:Int)),?_,Ws rfl⟩;simp only[Instr.index,asIntOf,Sem.run_bind,Sem.run_pure,Result.andThen_ok,Wa hu,h0,h1,and_self,if_true,hsz,part,cT,Nat.mul_one];simp[hC]
    .simp at h
   .simp at h
  .simp at h
 .simp at h
theorem Wel{k:IntKind}{n:Int}{y:Nat}{c:BoundsCode}(h0:0<=n)(h1:n<=y):(Instr.sliceBound (.int k n) y c).run P w= .ok n.toNat w:=by
 simp[Instr.sliceBound,asIntOf,h0,h1]
inductive BRel:Option Int->Option Value->Prop where
 |none:BRel .none .none
 |some (k:IntKind) (n:Int):BRel (.some n) (.some (.int k n))
theorem WbX(h:Rel w0 F nt G0 G ν st a w)(o:Option Operand)(r:Option Int)(he:Wik st o=some r):BRel r (o.map a.eval):=by
 cases o with
 |none=>simp[Wik]at he;subst he;exact .none
 |some x=>
  simp only[Wik]at he;cases hv:ev st x with
  |none=>simp[hv]at he
  |some av=>
   simp only[hv,Option.bind_some]at he;cases hi:asI av with
   |none=>simp[hi]at he
   |some n=>
    simp[hi]at he;subst he;obtain⟨k,hk⟩:=WdR _ _ _ (Wr h x av hv) hi;simp only[Xbu,hk];exact .some k n
theorem WbH{isSlice:Bool}{n cap:Nat}{lo hi:Option Int}{vl vh:Option Value}(hl:BRel lo vl)(hh:BRel hi vh)(hc:n<=cap)(hb:(WbG n lo hi).1=true):
  (Instr.sliceBounds isSlice n cap vl vh none).run P w= .ok ((WbG n lo hi).2.1,(WbG n lo hi).2.2,cap) w/\(WbG n lo hi).2.1<=(WbG n lo hi).2.2/\(WbG n lo hi).2.2<=n:=by
 cases hl<;>cases hh<;>simp only[WbG,Xi,decide_eq_true_eq]at hb⊢
 .simp[Instr.sliceBounds]
 .rename_i k h;refine⟨?_,by omega,by omega⟩;simp only[Instr.sliceBounds,Sem.run_bind,Sem.run_pure,Result.andThen_ok];rw[Wel hb.1 (by omega)];rfl
 .rename_i k l;refine⟨?_,by omega,by omega⟩;simp only[Instr.sliceBounds,Sem.run_bind,Sem.run_pure,Result.andThen_ok];rw[Wel hb.1 (by omega)];rfl
 .rename_i k l k' h;obtain⟨⟨⟨h1,h2⟩,h3⟩,h4⟩:=hb;refine⟨?_,by omega,by omega⟩;simp only[Instr.sliceBounds,Sem.run_bind,Sem.run_pure,Result.andThen_ok];rw[Wel h1 (by omega)];simp only[Result.andThen_ok];rw[Wel h3 (by omega)];rfl
theorem Whk{α:Type}(l:List α)(lo hi:Option Int):Wpo l lo hi=(l.take (WbG l.length lo hi).2.2).drop (WbG l.length lo hi).2.1:=by
 cases lo<;>cases hi<;>simp[Wpo,WbG]
theorem WpS(s:List UInt8)(l h:Nat):(ByteArray.mk s.toArray).extract l h=⟨((s.take h).drop l).toArray⟩:=by
 apply ByteArray.ext;rw[ByteArray.data_extract];simp[List.extract_eq_take_drop,List.drop_take]
theorem WmP{t:TypeId}{lo hi:Option Int}{vl vh:Option Value}(hu:P.underlying t=some .string)(s:List UInt8)(hl:BRel lo vl)(hh:BRel hi vh)(hb:(WbG s.length lo hi).1=true):
  (Instr.sliceAt t (.string ⟨s.toArray⟩) vl vh none).run P w= .ok (.string ⟨(Wpo s lo hi).toArray⟩) w:=by
 have hsz:(ByteArray.mk (List.toArray s)).size=Xa s:=by simp[ByteArray.size]
 obtain⟨hr,h3,h4⟩:=WbH (P:=P) (w:=w) (isSlice:=false) (cap:=Xa s) hl hh (Xl _) hb;simp only[Instr.sliceAt,Instr.slice,Sem.run_bind,Wa hu,Result.andThen_ok,Option.isSome_none,Bool.false_eq_true,if_false,Sem.run_pure,hsz,hr,WpS,Whk]
theorem WoO{t et:TypeId}{te:TE}{lo hi:Option Int}{vl vh:Option Value}{α:Type}{R:α->List Value->Prop}{n:Nat}(hR:∀x c,R x c->c.length=n)(hu:P.underlying t=some (.slice et))(bh:TEok P T et te)(hp:te.plain=true)(hn:te.ty.size=n)
  (xs:List α) {v:Value} (hx:WgF G R xs v) (hl:BRel lo vl) (hh:BRel hi vh) (hb:(WbG xs.length lo hi).1=true):
  ∃v',(Instr.sliceAt t v vl vh none).run P w= .ok v' w/\WgF G R (Wpo xs lo hi) v':=by
 rcases hx with⟨rfl,bo⟩|⟨b,off,cap,cs,rfl,h3,h4,h5,h6⟩|⟨a,cap,rfl,bo⟩
 rotate_left 2
 .subst bo;obtain⟨hr,h3,h4⟩:=WbH (P:=P) (w:=w) (isSlice:=true) (cap:=cap) hl hh (Xbk _) hb;have e1:(WbG 0 lo hi).2.2=0:=by omega
  have e2:(WbG 0 lo hi).2.1=0:=by omega
  rw[e1,e2]at hr;refine⟨.slice (some a) 0 cap,?_,.inr (.inr ⟨a,cap,rfl,?_⟩)⟩
  .simp only[Instr.sliceAt,Instr.slice,Sem.run_bind,Wa hu,Result.andThen_ok,hr,bh.sizeOf,Sem.run_pure,Xbu];simp[Addr.add]
  .rw[Whk];simp
 .subst bo;obtain⟨hr,h3,h4⟩:=WbH (P:=P) (w:=w) (isSlice:=true) (cap:=0) hl hh (Xl _) hb;refine⟨.slice none 0 0,?_,.inl ⟨rfl,?_⟩⟩
  .have e1:(WbG 0 lo hi).2.2=0:=by omega
   have e2:(WbG 0 lo hi).2.1=0:=by omega
   rw[e1,e2]at hr;simp[Instr.sliceAt,Instr.slice,Wa hu,hr,bh.sizeOf]
  .rw[Whk];simp
 .obtain⟨hr,h7,h8⟩:=WbH (P:=P) (w:=w) (isSlice:=true) (cap:=cap) hl hh h3 hb;have mI:=Whk xs lo hi;generalize (WbG xs.length lo hi).2.1=p at*;generalize (WbG xs.length lo hi).2.2=q at*;have hsz:te.size=n:=by rw[WH hp,hn]
  have hlen:(Wpo xs lo hi).length=q-p:=by rw[mI];simp;omega
  refine⟨.slice (some (if cap=p then⟨b,off,none⟩else⟨b,off+p*n,none⟩)) (q-p) (cap-p),?_,.inr (.inl ?_)⟩
  .simp only[Instr.sliceAt,Instr.slice,Sem.run_bind,Wa hu,Result.andThen_ok,hr,bh.sizeOf,Sem.run_pure,hsz,Xbu,Wao];split<;>rfl
  .by_cases hc:cap=p
   .have h0:Wpo xs lo hi= []:=Xx (by omega);refine⟨b,off,cap-p,[],?_,by omega,by omega,?_,λj v hj=>by simp at hj⟩
    .rw[if_pos hc];rw[hlen]
    .rw[h0];rfl
   .refine⟨b,off+p*n,cap-p,(cs.take (q*n)).drop (p*n),?_,by omega,by omega,?_,?_⟩
    .rw[if_neg hc,hlen]
    .rw[mI];exact WcU hR _ _ p (Wc5 hR _ _ q h5)
    .intro j v hj;rw[Xbc,Xbb]at hj;split at hj
     .rw[Xan];exact h6 _ _ hj
     .simp at hj
theorem Wh6(hT:WW P T){t:TypeId}{x:AVal}{u:Value}{vl vh:Option Value}{lo hi:Option Operand}{r:AVal}(hx:AValRel G ν st.nx x u)
  (hl:∀l,Wik st lo=some l->BRel l vl) (hh:∀l,Wik st hi=some l->BRel l vh)
  (h:Whn T st t x lo hi=some (true,r)):Gives P G ν st w (Instr.sliceAt t u vl vh none) r:=by
 unfold Whn at h;split at h
 .rename_i s l h' mJ h1 h2;have:=WhF hx;subst this;simp only[Option.some.injEq,Prod.mk.injEq]at h;obtain⟨hb,rfl⟩:=h;exact⟨_,WmP (hT _ _ mJ).und.2 s (hl _ h1) (hh _ h2) hb,Ws rfl⟩
 .rename_i ty ag et e xs l h' mJ h1 h2;have hu:=(hT _ _ mJ).und.2.1;split at h
  .rename_i te hle;split at h
   .rename_i ud;obtain⟨he,hp⟩:=ud;simp only[Option.some.injEq,Prod.mk.injEq]at h;obtain⟨hb,rfl⟩:=h;obtain⟨⟨z,hz,hr⟩,_⟩:=hx;simp at hz;subst hz;obtain⟨v',h3,h4⟩:=WoO (P:=P) (T:=T) (w:=w) (λx c hc=>Enc_len e x c hc) hu (hT _ _ hle) hp (by rw[he]) xs hr (hl _ h1) (hh _ h2) hb;exact⟨v',h3,Ws ⟨v',rfl,h4⟩⟩
   .simp at h
  .simp at h
 .simp at h
end
end Go.Sx
namespace Go.Sx
set_option linter.unusedVariables false
set_option linter.unusedSimpArgs false
section
variable{w0:World}{F:CS}{nt:Slots}{G0 G:GH}{ν:Nat->Nu}{st:St}{a:Act}{w:World}{P:Program}{T:Tab}
theorem WfB{k:IntKind}:∀(l:List Int) (cs:List Value),EncL (Enc G (.int k)) l cs->cs=l.map (Value.int k)
 | [],cs,h=>h
 |x::l,cs,⟨c1,c2,he,h1,h2⟩=>by
  have:=WfB l c2 h2;simp only[Enc]at h1;rw[he,h1,this];rfl
theorem Wiy{t e:TypeId}{dst:TypeId}(hs:P.underlying t=some (.slice e))(he:P.underlying e=some (.int .u8))(hd:P.underlying dst=some .string){b off cap:Nat}(l:List Int)
  (hm:∀j v,(l.map (Value.int .u8))[j]?=some v->w.cell? ⟨b,off+j,none⟩=some v):
  (convert t dst (.slice (some ⟨b,off,none⟩) l.length cap)).run P w= .ok (.string ⟨(Wol l).toArray⟩) w:=by
 rw[run_convert_bytes_string w t dst e _ _ _ hs he hd];have h1:=run_loadCells_list (P:=P) w ⟨b,off,none⟩ (l.map (Value.int .u8)) (λj v hj=>by rw[Wao];exact hm j v hj);rw[Xz]at h1;rw[run_bytesToString w _ _ _ l h1,foldl_push_bytes];congr 2;apply ByteArray.ext;simp[Wol]
theorem Wf2{t e:TypeId}{dst:TypeId}(hs:P.underlying t=some (.slice e))(he:P.underlying e=some (.int .u8))(hd:P.underlying dst=some .string)(l c:Nat):
  (convert t dst (.slice none l c)).run P w= .ok (.string ⟨#[]⟩) w:=by
 rw[run_convert_bytes_string w t dst e _ _ _ hs he hd];rfl
theorem WlW{t e:TypeId}{dst:TypeId}(hs:P.underlying t=some (.slice e))(he:P.underlying e=some (.int .u8))(hd:P.underlying dst=some .string)(a:Addr)(c:Nat):
  (convert t dst (.slice (some a) 0 c)).run P w= .ok (.string ⟨#[]⟩) w:=by
 rw[run_convert_bytes_string w t dst e _ _ _ hs he hd];have h1:=run_loadCells_list (P:=P) w a ([].map (Value.int .u8)) (λj v hj=>by simp at hj);simp only[Xbh,List.length_nil]at h1;rw[run_bytesToString w _ _ _ [] (by simpa using h1),foldl_push_bytes];rfl
theorem WiF(hT:WW P T)(hh:HRel w0 F G ν st.objs st.nx w){src dst:TypeId}{x:AVal}{u:Value}{r:AVal}(hx:AValRel G ν st.nx x u)
  (h:Wg4 T st src dst x=some (true,r)):Gives P G ν st w (convert src dst u) r:=by
 unfold Wg4 WqL at h;split at h
 .rename_i k0 k k1 n h1 h2;have:=WeG hx;subst this;have hs:=(hT _ _ h1).und.2;have hd:=(hT _ _ h2).und.2;simp at h;subst h;exact⟨.int k (k.wrap n),by simp[convert,Wa hs,Wa hd,Conv.intToInt],Ws rfl⟩
 .rename_i s h1 h2;have:=WhF hx;subst this;have hs:=(hT _ _ h1).und.2;have hd:=(hT _ _ h2).und.2;simp at h;subst h;exact⟨_,by simp[convert,Wa hs,Wa hd]<;>rfl,Ws rfl⟩
 .rename_i ty ag et c h1 h2;have hs:=(hT _ _ h1).und.2.1;have hd:=(hT _ _ h2).und.2;split at h
  .rename_i h3;have he:=(hT _ _ h3).und.2;split at h
   .rename_i l;simp at h;subst h;obtain⟨⟨z,hz,hr⟩,_⟩:=hx;simp at hz;subst hz;rcases hr with⟨rfl,bo⟩|⟨b,off,cap,cs,rfl,h4,h5,h6,h7⟩|⟨a,cap,rfl,bo⟩
    rotate_left 2
    .refine⟨_,WlW hs he hd a _,Ws ?_⟩;rw[bo];rfl
    .refine⟨_,Wf2 hs he hd _ _,Ws ?_⟩;rw[bo];rfl
    .have aX:=WfB _ _ h6;exact⟨_,Wiy hs he hd l (λj v hj=>hh.g (h7 j v (by rw[aX];exact hj))),Ws rfl⟩
   .simp at h;subst h;obtain⟨hv,_⟩:=hx;simp only[CellRel]at hv;subst hv;exact⟨_,Wf2 hs he hd _ _,Ws rfl⟩
   .rename_i id;split at h
    .rename_i xs ax;simp at h;subst h;obtain⟨⟨bg,hv⟩,_⟩:=hx;subst hv;obtain⟨S,ho⟩:=hh.obj ax;unfold Nu.hdr;cases aM:(ν id).blk with
     |none=>
      have hn:=Wbp ho aM;refine⟨_,Wf2 hs he hd _ _,Ws ?_⟩;rw[hn];rfl
     |some b=>
      obtain⟨hlen,h4,h5,h6,cs,h7,h8,h9⟩:=Wca (e:=.int .u8) rfl ho aM;have aX:=WfB _ _ h7;simp only[←hlen];exact⟨_,Wiy hs he hd xs (λj v hj=>h8 j v (by rw[aX];exact hj)),Ws rfl⟩
    .simp at h
   .simp at h
  .simp at h
 .simp at h
theorem Wqd{x:Operand}{o:Oper}(ho:o.op= .nilCheck x){ρ:Operand->Value}{p:Addr}(h:ρ x= .pointer (some p)):(execOp ρ o).run P w= .ok (.value (.pointer (some p))) w:=by
 simp[execOp,ho,h]
theorem WnS{x r:AVal}{u:Value}(hx:AValRel G ν st.nx x u)(h:Wma st x=some (true,r)):r=x/\∃p,u= .pointer (some p):=by
 unfold Wma at h;split at h
 .simp at h;subst h;obtain⟨⟨b,o,cs,rfl,_⟩,_⟩:=hx;exact⟨rfl,_,rfl⟩
 .split at h
  .simp at h;subst h;obtain⟨⟨_,b,_,rfl⟩,_⟩:=hx;exact⟨rfl,_,rfl⟩
  .simp at h
 .split at h
  .simp at h;subst h;obtain⟨⟨_,_,b,_,rfl⟩,_⟩:=hx;exact⟨rfl,_,rfl⟩
  .simp at h
 .split at h
  .simp at h;subst h;obtain⟨⟨_,b,_,rfl⟩,_⟩:=hx;exact⟨rfl,_,rfl⟩
  .simp at h
 .simp at h
theorem WgY(hr:Rel w0 F nt G0 G ν st a w):∀(l:List Operand) (ids:List Nat),Weu st l=some ids->
  ids.length=l.length/\∀(j id:Nat) (u:Value),ids[j]?=some id->(l.map a.eval)[j]?=some u->id<st.nx/\u.oneCell'=true/\∃b,(ν id).blk=some b/\u= .pointer (some ⟨b,(ν id).off+0,none⟩)
 | [],ids,h=>by simp[Weu]at h;subst h;exact⟨rfl,λj id u hj=>by simp at hj⟩
 |o::l,ids,h=>by
  simp only[Weu]at h;split at h
  .rename_i id r h1 h2;injection h with h;subst h;obtain⟨h3,h4⟩:=WgY hr l r h2;refine⟨by simp[h3],λj i u hj hu=>?_⟩;cases j with
   |zero=>
    simp at hj hu;subst hj hu;obtain⟨⟨g1,g2⟩,g3⟩:=Wr hr o _ h1;exact⟨g1,g3,g2⟩
   |succ j=>exact h4 j i u (by simpa using hj) (by simpa using hu)
  .simp at h
theorem We9(hT:WW P T)(hh:HRel w0 F G ν st.objs st.nx w){t:TypeId}{x:AVal}{u:Value}{r:AVal}(hx:AValRel G ν st.nx x u)(h:Wfi T st t x=some r):
  Gives P G ν st w (Instr.loadAt t u) r:=by
 unfold Wfi at h;split at h
 .rename_i te hl;split at h
  .rename_i hp;split at h
   .rename_i id off;split at h
    .rename_i cs ax;obtain⟨⟨_,b,hb,rfl⟩,_⟩:=hx;obtain⟨S,b',vs,hb',hrow,hmem,aX,_⟩:=hh.obj ax;rw[hb]at hb';injection hb' with hb';subst hb';obtain⟨v,h3,h4⟩:=WeQ (hT _ _ hl) hp aX (o:=(ν id).off) hmem h;exact⟨v,by simpa [Instr.loadAt,Instr.sureAddr]using h3,h4⟩
    .simp at h
   .rename_i id i off;split at h
    .rename_i e xs ax;obtain⟨⟨_,hlt,b,hb,rfl⟩,_⟩:=hx;obtain⟨S,ho⟩:=hh.obj ax;have bw:=ho.2.1;obtain⟨c,p,h1,h2⟩:=WmI ho hb (by rw[ho.1];exact hlt);obtain⟨v,h9,bq⟩:=WeQ (hT _ _ hl) hp (Wfo (ν:=ν) (nx:=st.nx) e _ _ _ h1) (w:=w) (b:=b) (o:=(ν id).off+i*e.size) h2 h;exact⟨v,by simpa [Instr.loadAt,Instr.sureAddr,bw,Xan]using h9,bq⟩
    .simp at h
   .rename_i t' d off;obtain⟨⟨b,o,cs,rfl,h1,h2⟩,_⟩:=hx;obtain⟨v,h9,bq⟩:=WeQ (hT _ _ hl) hp (W7 (G:=G) (ν:=ν) (nx:=st.nx) t' d _ h1) (w:=w) (b:=b) (o:=o) (λj v hj=>hh.g (h2 j v hj)) h;exact⟨v,by simpa [Instr.loadAt,Instr.sureAddr]using h9,bq⟩
   .simp at h
  .simp at h
 .simp at h
theorem Wlv{G:GH}{k:IntKind}:∀(xs:List Int) (cs:List Value),EncL (Enc G (.int k)) xs cs->cs=xs.map λx=>Value.int k x
 | [],cs,h=>h
 |x::xs,cs,⟨c1,c2,h1,h2,h3⟩=>by
  have:c1= [.int k x]:=h2;rw[h1,this,Wlv xs c2 h3];rfl
theorem Wli{k:IntKind}{xs:List Int}:∀(n i j:Nat),(Wpv k xs i n)[j]?=if j<n then some (.val (.int k) (xs.getD (i+j) (0:Int)))else none
 |0,i,j=>by simp[Wpv]
 |n+1,i,j=>by
  cases j with
  |zero=>simp[Wpv]
  |succ j=>
   rw[Wpv,List.getElem?_cons_succ,Wli n (i+1) j,show i+1+j=i+(j+1) by omega];by_cases h:j<n
   .rw[if_pos h,if_pos (by omega)]
   .rw[if_neg h,if_neg (by omega)]
theorem WkN{k:IntKind}{xs:List Int}:∀(n i:Nat),(Wpv k xs i n).length=n
 |0,i=>rfl
 |n+1,i=>by rw[Wpv,Xt,WkN n (i+1)]
theorem Wie(hT:WW P T)(hh:HRel w0 F G ν st.objs st.nx w){t:TypeId}{x:AVal}{u:Value}{r:AVal}(hx:AValRel G ν st.nx x u)(h:WdY T st t x=some (true,r)):
  Gives P G ν st w (Instr.loadAt t u) r:=by
 unfold WdY at h;split at h
 .rename_i k n et hl;split at h
  .rename_i id;split at h
   .rename_i k' xs ax;change List Int at xs;split at h
    .rename_i hk;subst hk;simp only[Option.some.injEq,Prod.mk.injEq,decide_eq_true_eq]at h;obtain⟨hn,rfl⟩:=h;obtain⟨⟨_,b,hb,rfl⟩,_⟩:=hx;obtain⟨S,ho⟩:=hh.obj ax;obtain⟨hlen,h4,h5,h6,cs,h7,h8,h9⟩:=Wca (e:=.int k') rfl ho hb;have aX:=Wlv _ _ h7;have bh:=hT _ _ hl;have cT:(Go.isAgg t).run P w= .ok true w:=bh.isAgg;have hsz:(Go.sizeOf t).run P w= .ok n w:=by have:=bh.sizeOf (w:=w);simpa [TE.size,Ty.size]using this
     have hcl:cs.length=n:=by rw[aX,Xz];exact hn
     have hr:=run_loadCells_list (P:=P) w ⟨b,(ν id).off,none⟩ cs (λj v hj=>by rw[Wao];exact h8 j v hj);rw[hcl]at hr;refine⟨.agg cs.toArray,?_,cs,rfl,?_,λj c v hj hv=>?_⟩
     .simp only[Instr.loadAt,Instr.sureAddr,Sem.run_bind,Sem.run_pure,Result.andThen_ok,loadVar,cT,if_true,hsz,hr]
     .rw[WkN,hcl]
     .rw[Wli]at hj;split at hj
      .rename_i py;injection hj with hj;subst hj;rw[aX,Xak]at hv;have rX:j<Xa xs:=Nat.lt_of_lt_of_eq py hn.symm;rw[Xq rX]at hv;simp only[Xbu]at hv;injection hv with hv;subst hv;refine⟨?_,rfl⟩;simp[CellRel,Enc,rX]
      .cases hj
    .simp at h
   .simp at h
  .simp at h
 .simp at h
end
section
variable{w0:World}{F:CS}{nt:Slots}{G0 G:GH}{ν:Nat->Nu}{st:St}{a:Act}{w:World}{P:Program}{T:Tab}
theorem Wbd{o:Oper}{s:Sem Value}{r:AVal}(he:execOp a.eval o=(do pure (.value (←s))))(h:Gives P G ν st w s r):
  ∃v,(execOp a.eval o).run P w= .ok (.value v) w/\AValRel G ν st.nx r v:=by
 obtain⟨v,h1,h2⟩:=h;exact⟨v,by rw[he];simp[h1],h2⟩
theorem Wbo{α β:Type}{x:Option α}{f:α->Option (Bool×β)}{r:β}(h:x.bind f=some (true,r)):∃y,x=some y/\f y=some (true,r):=by
 cases x with
 |none=>simp at h
 |some y=>exact⟨y,rfl,h⟩
theorem WjU(hT:WW P T)(hh:HRel w0 F G ν st.objs st.nx w){op:BinOp}{t:TypeId}{x y:AVal}{u v:Value}{r:AVal}(ox oy:Operand)(hx:AValRel G ν st.nx x u)(hy:AValRel G ν st.nx y v)
  (h:Wmh T st op t x y=some (true,r)):Gives P G ν st w (do eqGuard op t ox oy u v;Go.binOp op t u v) r:=by
 unfold Wmh at h;split at h
 .rename_i id;split at h
  .rename_i te e hl;have hu:=(hT _ _ hl).und.2.1;obtain⟨⟨_,hv⟩,_⟩:=hx;subst hv;obtain⟨hn,_⟩:=hy;simp only[CellRel]at hn;subst hn;split at h
   .rename_i e' xs ho;have key:∀n:Nat,Xev 0 xs.length=true->(Op.equalIn (n+1) t (ν id).hdr (.slice none 0 0)).run P w= .ok false w:=λn hb=>by
     have hne:xs≠ []:=by rintro rfl;simp at hb
     obtain⟨S,ax⟩:=hh.obj ho;have hd:∃g,(ν id).hdr= .slice (some g) (ν id).len (ν id).cap:=by
      unfold Nu.hdr;obtain⟨hlen,_,ax⟩:=ax;cases hb:(ν id).blk with
      |none=>simp only[hb]at ax;exact absurd ax hne
      |some g=>exact⟨_,rfl⟩
     obtain⟨g,hd⟩:=hd;rw[hd];simp[Op.equalIn,Wa hu]
    have hg:∀op,(eqGuard op t ox oy (ν id).hdr (.slice none 0 0)).run P w= .ok () w:=λop=>Wa9 (λcs=>by unfold Nu.hdr;split<;>exactλh=>nomatch h) (by unfold Nu.hdr;split<;>exactλh=>nomatch h);split at h
    .simp only[Option.some.injEq,Prod.mk.injEq]at h;obtain⟨h1,rfl⟩:=h;exact⟨.bool false,by simp[hg,Go.binOp,Op.equal,Op.maxDepth,show(Op.equalIn 10000 t (ν id).hdr (.slice none 0 0)).run P w= .ok false w from key 9999 h1],Ws rfl⟩
    .simp only[Option.some.injEq,Prod.mk.injEq]at h;obtain⟨h1,rfl⟩:=h;exact⟨.bool true,by simp[hg,Go.binOp,Op.equal,Op.maxDepth,show(Op.equalIn 10000 t (ν id).hdr (.slice none 0 0)).run P w= .ok false w from key 9999 h1],Ws rfl⟩
    .simp at h
   .simp at h
  .simp at h
 .simp at h
theorem WlE(hT:WW P T)(hr:Rel w0 F nt G0 G ν st a w){o:Oper}{r:AVal}(h:WV T st o.op=some (true,r)):
  ∃v,(execOp a.eval o).run P w= .ok (.value v) w/\AValRel G ν st.nx r v:=by
 obtain⟨dst,op,type,pos,after,guard⟩:=o;simp only at h;unfold WV at h;split at h
 .rename_i x;cases hx:ev st x with
  |none=>simp[hx]at h
  |some v=>simp[hx]at h;subst h;exact⟨_,rfl,Wr hr x _ hx⟩
 .rename_i x;cases hx:ev st x with
  |none=>simp[hx]at h
  |some v=>simp[hx]at h;subst h;exact⟨_,rfl,Wr hr x _ hx⟩
 .rename_i c x y;split at h
  .rename_i p h1;cases hc:ev st c with
   |none=>simp[hc]at h1
   |some cv=>
    simp[hc]at h1;have e1:=Wj2 _ _ _ (Wr hr c _ hc) h1;split at h
    .rename_i m n h2 h3;simp at h;subst h;have e2:=WhB (Wr hr x _ h2);have e3:=WhB (Wr hr y _ h3);refine⟨.bool (bif p then m else n),?_,Ws rfl⟩;simp only[execOp,e1,e2,e3,asBool];cases p<;>rfl
    .cases p with
     |true=>
      cases hx:ev st x with
      |none=>simp[hx]at h
      |some v=>simp[hx]at h;subst h;exact⟨a.eval x,by simp only[execOp,e1,asBool];rfl,Wr hr x _ hx⟩
     |false=>
      cases hx:ev st y with
      |none=>simp[hx]at h
      |some v=>simp[hx]at h;subst h;exact⟨a.eval y,by simp only[execOp,e1,asBool];rfl,Wr hr y _ hx⟩
  .simp at h
 .rename_i t x;obtain⟨y,hy,h⟩:=Wbo h;cases ha:WdY T st t y with
  |some z=>rw[ha]at h;simp only[]at h;injection h with h;subst h;exact Wbd rfl (Wie hT hr.h (Wr hr x _ hy) ha)
  |none=>
   rw[ha]at h;cases hl:Wfi T st t y with
   |none=>simp[hl]at h
   |some z=>simp[hl]at h;subst h;exact Wbd rfl (We9 hT hr.h (Wr hr x _ hy) hl)
 .rename_i x;obtain⟨y,hy,h⟩:=Wbo h;obtain⟨rfl,p,hp⟩:=WnS (Wr hr x _ hy) h;exact⟨_,Wqd rfl hp,by rw[←hp];exact Wr hr x _ hy⟩
 .rename_i op t x y _;split at h
  .rename_i u v h1 h2;split at h
   .rename_i z hz;injection h with h;subst h;exact Wbd rfl (WjU hT hr.h x y (Wr hr x _ h1) (Wr hr y _ h2) hz)
   .exact Wbd rfl (Wj9 hT x y (Wr hr x _ h1) (Wr hr y _ h2) h)
  .simp at h
 .rename_i op t x;obtain⟨y,hy,h⟩:=Wbo h;exact Wbd rfl (WlR (Wr hr x _ hy) h)
 .rename_i src dst x;obtain⟨y,hy,h⟩:=Wbo h;exact Wbd rfl (WiF hT hr.h (Wr hr x _ hy) h)
 .rename_i t x lo hi;obtain⟨y,hy,h⟩:=Wbo h;exact Wbd rfl (Wh6 hT (Wr hr x _ hy) (λl hl=>WbX hr lo l hl) (λl hl=>WbX hr hi l hl) h)
 .rename_i s x f;obtain⟨y,hy,h⟩:=Wbo h;exact Wbd rfl (WeJ hT hr.h (Wr hr x _ hy) h)
 .rename_i s x f;obtain⟨y,hy,h⟩:=Wbo h;exact Wbd rfl (Whv hT (Wr hr x _ hy) h)
 .rename_i t x i;split at h
  .rename_i u v h1 h2;exact Wbd rfl (WeZ hT hr.h (Wr hr x _ h1) (Wr hr i _ h2) h)
  .simp at h
 .rename_i t x i;split at h
  .rename_i u v h1 h2;exact Wbd rfl (WhS hT (Wr hr x _ h1) (Wr hr i _ h2) h)
  .simp at h
 .rename_i t ix;split at h
  .rename_i xs h1;cases hx:xs[ix]? with
   |none=>simp[hx]at h
   |some y=>
    simp[hx]at h;subst h;obtain⟨vs,hv,hl,dB⟩:=Wr hr t _ h1;have hlt:ix<vs.length:=by rw[hl];exact(Xr.1 hx).1
    exact Wbd rfl ⟨vs[ix],by simp[hv,Instr.extract,hlt],dB ix y _ hx (Xq hlt)⟩
  .simp at h
 .rename_i f first captured
  split at h
  .rename_i hf;cases hc:Weu st captured.toList with
   |none=>simp[hc]at h
   |some ids=>
    simp[hc]at h;subst h;obtain⟨h1,h2⟩:=WgY hr _ _ hc;have kC:first= #[]:=by simpa using hf
    subst kC;refine Wbd rfl ⟨.func (.func f) #[] (captured.map a.eval),by simp[Instr.makeFunc],⟨captured.toList.map a.eval,?_,?_,h2⟩,rfl⟩
    .apply congrArg;apply Xfz;simp
    .simp[h1]
  .simp at h
 .rename_i c;obtain⟨callee,args,argTypes⟩:=c;obtain⟨args⟩:=args;obtain⟨argTypes⟩:=argTypes;simp only at h;split at h
  .rename_i x t;obtain⟨y,hy,h⟩:=Wbo h;obtain⟨v,h1,h2⟩:=WkF (ty:=type) hT hr.h (Wr hr x _ hy) h;refine⟨v,?_,h2⟩;simp only[execOp,resolve,invoke,builtin,Sem.run_bind,Sem.run_pure,Result.andThen_ok,Xdt,Xaj,Xbh,h1]
  .rename_i x y _ _;split at h
   .rename_i k m k' n h1 h2;split at h
    .rename_i hk;subst hk;simp at h;subst h;have e1:=WeG (Wr hr x _ h1);have e2:=WeG (Wr hr y _ h2);refine⟨.int k (Wrf m n),?_,Ws rfl⟩;simp only[execOp,resolve,invoke,builtin,Sem.run_bind,Sem.run_pure,Result.andThen_ok,Xdt,Xaj,Xbh,e1,e2,Builtin.min_];rfl
    .simp at h
   .simp at h
  .rename_i x y _ _;split at h
   .rename_i k m k' n h1 h2;split at h
    .rename_i hk;subst hk;simp at h;subst h;have e1:=WeG (Wr hr x _ h1);have e2:=WeG (Wr hr y _ h2);refine⟨.int k (Wrg m n),?_,Ws rfl⟩;simp only[execOp,resolve,invoke,builtin,Sem.run_bind,Sem.run_pure,Result.andThen_ok,Xdt,Xaj,Xbh,e1,e2,Builtin.max_];rfl
    .simp at h
   .simp at h
  .simp at h
 .simp at h
end
end Go.Sx
namespace Go.Sx
set_option linter.unusedVariables false
set_option linter.unusedSimpArgs false
section
variable{w0:World}{F:CS}{nt:Slots}{G0 G G':GH}{ν ν':Nat->Nu}{φ φ':Nat->CS}{objs objs':WS}{nx ah:Nat}{w w':World}{P:Program}{T:Tab}
theorem Live.of{id:Nat}{ob:Ob}(h:Wc objs id=some ob)(hd:ob≠ .dead):Live objs id:=⟨ob,h,hd⟩
theorem Wl{α:Type}(k:Nat)(v:α)(l:List (Nat×α))(i:Nat):Wc ((k,v)::l) i=if k=i then some v else Wc l i:=by
 simp only[Wc];by_cases h:k=i
 .subst h;simp
 .have:Xbj k i=false:=by
   cases hb:Xbj k i with
   |false=>rfl
   |true=>exact absurd (Xbt hb) h
  rw[this,if_neg h]
theorem Wa0{α:Type}:∀(l m:List (Nat×α)) (i:Nat),Wc (l++m) i=match Wc l i with
  |some x=>some x
  |none=>Wc m i
 | [],m,i=>rfl
 |(k,v)::l,m,i=>by
  rw[List.cons_append,Wl,Wl];split
  .rfl
  .exact Wa0 l m i
theorem HR.blk_lt_g(h:HR w0 F G ν φ objs nx w){b o:Nat}{v:Value}(hg:G b o=some v):b<w.heap.size:=block_lt_of_cell (h.g b o v hg)
theorem WLe.refl(S:CS)(w:World):WLe S w w:=⟨Xl _,λ_ vs _ h=>⟨vs,h,rfl⟩,λ_ _ _ _=>rfl,λ_ _ _=>rfl,rfl,rfl,rfl⟩
theorem WLe.mono{S S':CS}(h:WLe S w w')(hl:CS.le S S'):WLe S' w w':=
 ⟨h.size,h.row,λb o hb hn=>h.cell b o hb (λhs=>hn (hl b o hs)),λb hb hn=>h.whole b hb (λo hs=>hn o (hl b o hs)),h.os,h.output,h.tape⟩
theorem WLe.same{S S':CS}(h:WLe S w w')(hd:CS.disj S S')(hb:∀b o,S' b o->b<w.heap.size):Same S' w w':=
 ⟨λb n ⟨vs,T,h1,h2⟩=>by obtain⟨vs',h3,h4⟩:=h.row b vs T h1;exact⟨vs',T,h3,by omega⟩,λb o hs=>h.cell b o (hb b o hs) (λcg=>hd b o cg hs)⟩
theorem WLe.rows{S:CS}(h:WLe S w w'):Same (λ_ _=>False) w w':=
 ⟨λb n ⟨vs,T,h1,h2⟩=>by obtain⟨vs',h3,h4⟩:=h.row b vs T h1;exact⟨vs',T,h3,by omega⟩,λ_ _ hs=>hs.elim⟩
theorem WLe.trans{S S':CS}{w1 w2 w3:World}(h:WLe S w1 w2)(h':WLe S' w2 w3)(hs:∀b o,S' b o->w1.heap.size<=b\/S b o):WLe S w1 w3 where
 size:=Xck h.size h'.size
 row b vs T hb:=by
  obtain⟨vs',h1,h2⟩:=h.row b vs T hb;obtain⟨vs2,h3,h4⟩:=h'.row b vs' T h1;exact⟨vs2,h3,h4.trans h2⟩
 cell b o hb hn:=by
  rw[h'.cell b o (Xbe hb h.size) (λcg=>by rcases hs b o cg with h1|h1;omega;exact hn h1)];exact h.cell b o hb hn
 whole b hb hn:=by
  rw[h'.whole b (Xbe hb h.size) (λo cg=>by rcases hs b o cg with h1|h1;omega;exact hn o h1)];exact h.whole b hb hn
 os:=h'.os.trans h.os
 output:=h'.output.trans h.output
 tape:=h'.tape.trans h.tape
theorem WLe.alloc(S:CS)(wd:World)(o:Obj)(hh:wd.heap=w.heap)(lX:wd.os=w.os)(gJ:wd.output=w.output)(dO:wd.tape=w.tape):WLe S w (wd.alloc o) where
 size:=by simp[hh]
 row b vs T hb:=by
  have hlt:b<w.heap.size:=(Array.getElem?_eq_some_iff.1 hb).1;exact⟨vs,by rw[heap_alloc_old wd o (by rw[hh];exact hlt),hh];exact hb,rfl⟩
 cell b o' hb _:=World.cell?_of_block (by show(wd.alloc o).heap[b]?=w.heap[b]?;rw[heap_alloc_old wd o (by rw[hh];exact hb),hh])
 whole b hb _:=by rw[heap_alloc_old wd o (by rw[hh];exact hb),hh]
 os:=lX
 output:=gJ
 tape:=dO
theorem WLe.setRow{S:CS}{b:Nat}{vs us:Array Value}{T:TypeId}(h:w.heap[b]?=some (Obj.cells vs T (0,0)))(hsz:us.size=vs.size)(hc:∀o,¬S b o->us[o]?=vs[o]?):WLe S w (w.setRow b us) where
 size:=by simp
 row k vs' T' hk:=by
  by_cases e:k=b
  .subst e;rw[h]at hk;injection hk with hk;injection hk with h1 h2 h3;subst h1 h2;exact⟨us,setRow_heap w k vs us T (0,0) h,hsz⟩
  .exact⟨vs',by rw[setRow_other w b k us e];exact hk,rfl⟩
 cell k o hk hn:=by
  by_cases e:k=b
  .subst e;rw[cell_of_row _ k o us T (0,0) (setRow_heap w k vs us T (0,0) h),cell_of_row w k o vs T (0,0) h];exact hc o hn
  .exact World.cell?_of_block (setRow_other w b k us e)
 whole k hk hn:=by
  by_cases e:k=b
  .subst e;have:us=vs:=Array.ext_getElem? λo=>hc o (hn o);rw[setRow_heap w k vs us T (0,0) h,h,this]
  .exact setRow_other w b k us e
 os:=rfl
 output:=rfl
 tape:=rfl
def Wp4(φ:Nat->CS)(objs:WS):CS:=λb o=>∃id,Live objs id/\φ id b o
theorem HR.step(h:HR w0 F G ν φ objs nx w)(hw:WLe (Wp4 φ objs) w w')
  (ax:∀id ob,Wc objs' id=some ob->ob≠ .dead->Wbx G ν' ah w' id (φ' id) ob)
  (hlt:∀id,Live objs' id->id<ah)
  (cA:∀id b o,Live objs' id->φ' id b o->Wp4 φ objs b o\/w.heap.size<=b)
  (hbl:∀id b o,Live objs' id->φ' id b o->b<w'.heap.size)
  (pA:∀id bn b o,Live objs' id->Live objs' bn->φ' id b o->φ' bn b o->id=bn):
  HR w0 F G ν' φ' objs' ah w' where
 g b o v hg:=by
  rw[hw.cell b o (h.blk_lt_g hg) (λ⟨id,hl,hp⟩=>by rw[h.gf id b o hl hp]at hg;cases hg)];exact h.g b o v hg
 ob id ob ho:=by
  by_cases hd:ob= .dead
  .subst hd;trivial
  .exact ax id ob ho hd
 gf id b o hl hp:=by
  rcases cA id b o hl hp with⟨pB,hl0,fD⟩|eD
  .exact h.gf pB b o hl0 fD
  .cases hg:G b o with
   |none=>rfl
   |some v=>have:=h.blk_lt_g hg;omega
 inj:=pA
 own id b o hl hp:=by
  rcases cA id b o hl hp with⟨pB,hl0,fD⟩|eD
  .exact h.own pB b o hl0 fD
  .exact .inl (Xck h.le.size eD)
 lt:=hlt
 bl:=hbl
 le:=h.le.trans hw (λb o ⟨id,hl,hp⟩=>h.own id b o hl hp)
def WqE(φ:Nat->CS)(i:Nat)(S:CS):Nat->CS:=λj=>if j=i then S else φ j
theorem WfK(φ:Nat->CS)(i:Nat)(S:CS):WqE φ i S i=S:=by simp[WqE]
theorem WdU(φ:Nat->CS){i j:Nat}(S:CS)(h:j≠i):WqE φ i S j=φ j:=by simp[WqE,h]
theorem Wc1:∀(l:List Nat) (id:Nat) (ob:Ob),Wc (kill objs l) id=some ob->ob≠ .dead->Wc objs id=some ob/\id∉l
 | [],id,ob,h,_=>⟨h,by simp⟩
 |i::l,id,ob,h,hd=>by
  simp only[kill]at h;rw[Wl]at h;split at h
  .injection h with h;exact absurd h.symm hd
  .rename_i hne;obtain⟨h1,h2⟩:=Wc1 l id ob h hd;exact⟨h1,λhm=>by rcases Xm.1 hm with hm|hm;exact hne hm.symm;exact h2 hm⟩
theorem Wcj{l:List Nat}{id:Nat}(h:Live (kill objs l) id):Live objs id/\id∉l:=by
 obtain⟨ob,h1,h2⟩:=h;obtain⟨h3,h4⟩:=Wc1 l id ob h1 h2;exact⟨⟨ob,h3,h2⟩,h4⟩
def WqX(φ:Nat->CS)(objs:WS)(t:Nat)(m:List Nat):CS:=λb o=>∃i,(i=t\/i∈m)/\Live objs i/\φ i b o
theorem HR.put(h:HR w0 F G ν φ objs nx w){t:Nat}{m:List Nat}{ob:Ob}{S:CS}(hn:Wn8 nx ν ν')(hx:nx<=ah)(ht:t<ah)
  (hw:WLe (WqX φ objs t m) w w') (hS:∀b o,S b o->WqX φ objs t m b o\/(w.heap.size<=b/\b<w'.heap.size))
  (cC:ob≠ .dead->Wbx G ν' ah w' t S ob):HR w0 F G ν' (WqE φ t S) ((t,ob)::kill objs m) ah w':=by
 have hl:∀id bN,Wc ((t,ob)::kill objs m) id=some bN->bN≠ .dead->(id=t/\bN=ob)\/(id≠t/\id∉m/\Wc objs id=some bN):=λid bN ho hd=>by
  rw[Wl]at ho;split at ho
  .rename_i e;injection ho with ho;exact .inl ⟨e.symm,ho.symm⟩
  .rename_i hne;obtain⟨h1,h2⟩:=Wc1 m id bN ho hd;exact .inr ⟨λe=>hne e.symm,h2,h1⟩
 have ji:∀id,Live ((t,ob)::kill objs m) id->(id=t)\/(id≠t/\id∉m/\Live objs id):=λid ⟨bN,ho,hd⟩=>by
  rcases hl id bN ho hd with⟨h1,h2⟩|⟨h1,h2,h3⟩
  .exact .inl h1
  .exact .inr ⟨h1,h2,bN,h3,hd⟩
 refine h.step (hw.mono λb o ⟨i,_,h1,h2⟩=>⟨i,h1,h2⟩) (λid bN ho hd=>?_) (λid aC=>?_) (λid b o aC hp=>?_) (λid b o aC hp=>?_) (λid bn b o aC ir hp cK=>?_)
 .rcases hl id bN ho hd with⟨h1,h2⟩|⟨h1,h2,h3⟩
  .subst h1 h2;rw[WfK];exact cC hd
  .rw[WdU φ S h1];have aC:Live objs id:=⟨bN,h3,hd⟩;refine Wcg (λ_ _ _ hh=>hh) (hw.same (λb o ⟨i,hi,pC,gK⟩ hp=>?_) (λb o hp=>h.bl id b o aC hp)) (λ_ _ hh=>hh) hn hx (h.lt id aC) bN (h.ob id bN h3);have:=h.inj i id b o pC aC gK hp;subst this;rcases hi with hi|hi
   .exact h1 hi
   .exact h2 hi
 .rcases ji id aC with h1|⟨_,_,h3⟩
  .rw[h1];exact ht
  .exact Xbe (h.lt id h3) hx
 .rcases ji id aC with h1|⟨h1,_,h3⟩
  .subst h1;rw[WfK]at hp;rcases hS b o hp with⟨i,_,h4,h5⟩|h4
   .exact .inl ⟨i,h4,h5⟩
   .exact .inr h4.1
  .rw[WdU φ S h1]at hp;exact .inl ⟨id,h3,hp⟩
 .rcases ji id aC with h1|⟨h1,_,h3⟩
  .subst h1;rw[WfK]at hp;rcases hS b o hp with⟨i,_,h4,h5⟩|h4
   .exact Xbe (h.bl i b o h4 h5) hw.size
   .exact h4.2
  .rw[WdU φ S h1]at hp;exact Xbe (h.bl id b o h3 hp) hw.size
 .have key:∀bn,bn≠t->bn∉m->Live objs bn->φ bn b o->S b o->False:=λbn h1 h2 h3 h4 h5=>by
   rcases hS b o h5 with⟨i,hi,h6,h7⟩|h6
   .have:=h.inj i bn b o h6 h3 h7 h4;subst this;rcases hi with hi|hi
    .exact h1 hi
    .exact h2 hi
   .have:=h.bl bn b o h3 h4;omega
  rcases ji id aC with h1|⟨h1,h2,h3⟩<;>rcases ji bn ir with dP|⟨dP,gL,oL⟩
  .rw[h1,dP]
  .subst h1;rw[WfK]at hp;rw[WdU φ S dP]at cK;exact(key bn dP gL oL cK hp).elim
  .subst dP;rw[WfK]at cK;rw[WdU φ S h1]at hp;exact(key id h1 h2 h3 hp cK).elim
  .rw[WdU φ S h1]at hp;rw[WdU φ S dP]at cK;exact h.inj id bn b o h3 oL hp cK
theorem HR.drew(h:HR w0 F G ν φ objs nx w):HR w0 F G ν φ objs nx w.drew:=by
 have hw:WLe (Wp4 φ objs) w w.drew:=⟨Xl _,λ_ vs _ h=>⟨vs,h,rfl⟩,λ_ _ _ _=>rfl,λ_ _ _=>rfl,rfl,rfl,rfl⟩;exact h.step hw (λid ob ho _=>Wcg (w:=w) (w':=w.drew) (S:=φ id) (λ_ _ _ hh=>hh) ⟨λ_ _ hh=>hh,λ_ _ _=>rfl⟩ (λ_ _ hh=>hh) (λ_ _=>rfl) (Xl _) (h.lt id ⟨ob,ho,by assumption⟩) ob (h.ob id ob ho))
  h.lt (λid b o hl hp=>.inl ⟨id,hl,hp⟩) (λid b o hl hp=>h.bl id b o hl hp) h.inj
theorem HRel.drew(h:HRel w0 F G ν objs nx w):HRel w0 F G ν objs nx w.drew:=by
 obtain⟨φ,h⟩:=h;exact⟨φ,h.drew⟩
end
section
variable{w0:World}{F:CS}{nt:Slots}{G0 G G':GH}{ν ν':Nat->Nu}{st:St}{a:Act}{w w':World}{P:Program}{T:Tab}
theorem Rel.put(h:Rel w0 F nt G0 G ν st a w){dst:Option Tmp}(hd:∀d,dst=some d->nt.Ok d){x:AVal}{v:Value}(hx:AValRel G ν st.nx x v):Rel w0 F nt G0 G ν (st.put dst x) (a.put dst v) w:=by
 cases dst with
 |none=>exact h
 |some d=>
  have hlt:d<a.tmps.size:=by rw[h.ntm];exact(hd d rfl).1
  refine⟨h.defers,by simpa [Act.put]using h.ntm,λp hp=>?_,λi y hy=>?_,h.h,h.gx⟩
  .simp only[Act.put];rw[Xeo (λe=>(hd d rfl).2 p hp e.symm)];exact h.par p hp
  simp only[St.put]at hy;rw[Wl]at hy;split at hy
  .rename_i e;subst e;injection hy with hy;subst hy;exact⟨v,by simp[Act.put,hlt],hx⟩
  .rename_i hne;obtain⟨u,hu,hr⟩:=h.env i y hy;exact⟨u,by simp only[Act.put];rw[Xeo hne];exact hu,hr⟩
theorem Rel.on(h:Rel w0 F nt G0 G ν st a w){objs':WS}{ah:Nat}(hg:GLe G G')(hn:Wn8 st.nx ν ν')(hx:st.nx<=ah)
  (hh:HRel w0 F G' ν' objs' ah w') (gx:GExt w0.heap.size F G0 G'):Rel w0 F nt G0 G' ν' {env:=st.env,objs:=objs',nx:=ah} a w':=
 ⟨h.defers,h.ntm,h.par,λi y hy=>by
  obtain⟨u,hu,hr⟩:=h.env i y hy;exact⟨u,hu,AValRel.mono hg hn hx y u hr⟩,hh,gx⟩
def upd(ν:Nat->Nu)(i:Nat)(n:Nu):Nat->Nu:=λj=>if j=i then n else ν j
theorem WdC(ν:Nat->Nu)(i:Nat)(n:Nu):Wn8 i ν (upd ν i n):=λj hj=>by simp[upd];omega
theorem WaJ(ν:Nat->Nu)(i:Nat)(n:Nu):upd ν i n i=n:=by simp[upd]
theorem Rel.lay(h:Rel w0 F nt G0 G ν st a w){dst:Option Tmp}(hd:∀d,dst=some d->nt.Ok d){objs':WS}{ah:Nat}(hn:Wn8 st.nx ν ν')(hx:st.nx<=ah)
  (hh:HRel w0 F G ν' objs' ah w') {x:AVal} {v:Value} (hv:AValRel G ν' ah x v):Rel w0 F nt G0 G ν' (({env:=st.env,objs:=objs',nx:=ah}:St).put dst x) (a.put dst v) w':=
 (h.on (λ_ _ _ hh=>hh) hn hx hh h.gx).put hd hv
theorem Rel.fresh(h:Rel w0 F nt G0 G ν st a w){dst:Option Tmp}(hd:∀d,dst=some d->nt.Ok d)(m:List Nat)(ob:Ob)(nu:Nu)(S:(Nat->CS)->CS)(x:AVal)(v:Value)
  (hw:∀φ,HR w0 F G ν φ st.objs st.nx w->WLe (WqX φ st.objs st.nx m) w w') (hS:∀φ,HR w0 F G ν φ st.objs st.nx w->∀b o,S φ b o->WqX φ st.objs st.nx m b o\/(w.heap.size<=b/\b<w'.heap.size))
  (cC:∀φ,HR w0 F G ν φ st.objs st.nx w->Wbx G (upd ν st.nx nu) (st.nx+1) w' st.nx (S φ) ob)
  (hv:AValRel G (upd ν st.nx nu) (st.nx+1) x v):
  Rel w0 F nt G0 G (upd ν st.nx nu) (({env:=st.env,objs:=(st.nx,ob)::kill st.objs m,nx:=st.nx+1}:St).put dst x) (a.put dst v) w':=by
 obtain⟨φ,hφ⟩:=h.h;exact h.lay hd (WdC ν st.nx nu) (Xdj _) ⟨_,hφ.put (WdC ν st.nx nu) (Xdj _) (Xbl _) (hw φ hφ) (hS φ hφ) (λ_=>cC φ hφ)⟩ hv
theorem Rel.new(h:Rel w0 F nt G0 G ν st a w){dst:Option Tmp}(hd:∀d,dst=some d->nt.Ok d)(ob:Ob)(nu:Nu)(x:AVal)(v:Value)
  (hw:WLe (λ_ _=>False) w w')
  (cC:Wbx G (upd ν st.nx nu) (st.nx+1) w' st.nx (λb _=>w.heap.size<=b/\b<w'.heap.size) ob)
  (hv:AValRel G (upd ν st.nx nu) (st.nx+1) x v):
  Rel w0 F nt G0 G (upd ν st.nx nu) (st.new dst ob x) (a.put dst v) w':=
 h.fresh hd [] ob nu (λ_ b _=>w.heap.size<=b/\b<w'.heap.size) x v (λφ _=>hw.mono λ_ _ hh=>hh.elim) (λφ _ b o hs=>.inr hs) (λφ _=>cC) hv
end
end Go.Sx
namespace Go.Sx
set_option linter.unusedVariables false
set_option linter.unusedSimpArgs false
theorem WmG{v:Value}(h:v.oneCell'=true):v.cells= #[v]:=by
 cases v<;>first|rfl|simp[Value.oneCell']at h
section
variable{w0:World}{F:CS}{nt:Slots}{G0 G:GH}{ν:Nat->Nu}{objs:WS}{nx:Nat}{st:St}{a:Act}{w w':World}{P:Program}{T:Tab}
theorem Wq6:∀(t:Ty),t.data=true->Enc G t t.dflt (WaS t)
 | .int _,_=>rfl
 | .bool,_=>rfl
 | .str,_=>rfl
 | .slice e,_=>⟨_,rfl,.inl ⟨rfl,rfl⟩⟩
 | .own _,h=>by simp[Ty.data]at h
 | .prod a b,h=>by
  simp only[Ty.data,Xi]at h;exact⟨_,_,rfl,Wq6 a h.1,Wq6 b h.2⟩
theorem WqS:∀(t:Ty),CellsRel G ν nx (Wc7 t) (WaS t)
 | .int _=>CellsRel.one rfl rfl
 | .bool=>CellsRel.one rfl rfl
 | .str=>CellsRel.one rfl rfl
 | .slice e=>CellsRel.one rfl rfl
 | .own _=>CellsRel.one trivial rfl
 | .prod a b=>(WqS a).append (WqS b)
theorem WaM:∀(t:Ty),(WaS t).length=t.size
 | .int _| .bool| .str| .slice _| .own _=>rfl
 | .prod a b=>by simp[WaS,WaM a,WaM b,Ty.size]
theorem WhL{α:Type}(l:List α):∀n,(rep l n).length=n*l.length
 |0=>by simp[rep]
 |n+1=>by rw[rep,Xs,WhL l n,Xbq,Xcj]
theorem WeF{e:Ty}(h:e.data=true):∀n,EncL (Enc G e) (Xag n e.dflt) (rep (WaS e) n)
 |0=>rfl
 |n+1=>⟨_,_,rfl,Wq6 e h,WeF h n⟩
theorem Wdg{t:TypeId}{te:TE}(bh:TEok P T t te):∃z,(zeroValue t).run P w= .ok z w/\z.cells.toList=te.cells:=by
 obtain⟨i,z,hi,_,hz,hc,_⟩:=bh.info;exact⟨z,by simp[zeroValue,We3 hi,hz],hc⟩
theorem WaW{te:TE}(h:te.plain=true):te.cells=WaS te.ty:=by
 unfold TE.plain at h;unfold TE.cells;split at h<;>simp_all
theorem Whl(w:World)(o:Obj):(w.alloc o).heap[w.heap.size]?=some o:=heap_alloc_new w o
theorem zty:∀(t:Ty),∃ps,TyRel G w t t.dflt (WaS t.ro) ps/\∀p∈ps,p.fp= λ_ _=>False
 | .int _=>⟨[],⟨rfl,rfl⟩,by simp⟩
 | .bool=>⟨[],⟨rfl,rfl⟩,by simp⟩
 | .str=>⟨[],⟨rfl,rfl⟩,by simp⟩
 | .slice e=>⟨[],⟨rfl,_,rfl,.inl ⟨rfl,rfl⟩⟩,by simp⟩
 | .own e=>⟨[⟨⟨none,0,0,0,e.size⟩,λ_ _=>False⟩],⟨_,rfl,rfl,rfl,rfl,rfl⟩,by simp⟩
 | .prod a b=>by
  obtain⟨p1,h1,h2⟩:=zty a;obtain⟨p2,h3,h4⟩:=zty b;refine⟨p1++p2,⟨_,_,p1,p2,rfl,rfl,h1,h3⟩,λp hp=>?_⟩;rcases Xk.1 hp with hp|hp
  .exact h2 p hp
  .exact h4 p hp
theorem Wpu(e:Ty):∀n,∃ps,EncP (TyRel G w e) (Xag n e.dflt) (rep (WaS e.ro) n) ps/\∀p∈ps,p.fp= λ_ _=>False
 |0=>⟨[],⟨rfl,rfl⟩,by simp⟩
 |n+1=>by
  obtain⟨p1,h1,h2⟩:=zty (G:=G) (w:=w) e;obtain⟨p2,h3,h4⟩:=Wpu e n;refine⟨p1++p2,⟨_,_,p1,p2,rfl,rfl,h1,h3⟩,λp hp=>?_⟩;rcases Xk.1 hp with hp|hp
  .exact h2 p hp
  .exact h4 p hp
theorem Wim:∀(ps:List Pc),(∀p∈ps,p.fp= λ_ _=>False)->Sep (ps.map Pc.fp)
 | [],_=>List.Pairwise.nil
 |p::ps,h=>Xy.2 ⟨λs _ b o hb _=>by rw[h p (Xh ..)]at hb;exact hb,Wim ps λq hq=>h q (Xe _ hq)⟩
theorem Wmv(h:Rel w0 F nt G0 G ν st a w){dst:Option Tmp}(hd:∀d,dst=some d->nt.Ok d){cs:List Cell}{vs:Array Value}{t:TypeId}(hc:CellsRel G ν st.nx cs vs.toList):
  ∃ν',Rel w0 F nt G0 G ν' (st.new dst (.box cs) (.s (.one (.ptr st.nx 0)))) (a.put dst (.pointer (some ⟨w.heap.size,0,none⟩))) (w.alloc (.cells vs t)):=by
 refine⟨upd ν st.nx ⟨some w.heap.size,0,0,0,0⟩,h.new hd (.box cs) _ _ _ (WLe.alloc _ w _ rfl rfl rfl rfl) ?_ ?_⟩
 .have hl:vs.size=cs.length:=by have:=hc.1;simpa using this
  refine⟨w.heap.size,vs.toList,by rw[WaJ],⟨vs,t,Whl w _,by rw[WaJ];show 0+cs.length<=vs.size;omega⟩,?_,hc.mono (λ_ _ _ hh=>hh) (WdC _ _ _) (Xdj _),λb o ⟨hb,_⟩=>by rw[hb];exact⟨Xl _,by simp⟩⟩;rw[WaJ];exact WmM (Whl w _) (λj v hj=>by rw[Xbd];exact hj)
 .exact⟨⟨Xbl _,w.heap.size,by rw[WaJ],by rw[WaJ]⟩,rfl⟩
def FromL(φ:Nat->CS)(objs:WS)(m:List Nat):CS:=λb o=>∃i∈m,Live objs i/\φ i b o
theorem Wfs(h:Rel w0 F nt G0 G ν st a w){dst:Option Tmp}(hd:∀d,dst=some d->nt.Ok d)(m:List Nat){e:Ty}{xs:List e.den}{cap:Nat}{vs:Array Value}{t:TypeId}{cs:List Value}(hx:xs.length<=cap)(fE:cap<=maxLen)
  (hsz:vs.size=cap*e.size) (hc:∀φ,HR w0 F G ν φ st.objs st.nx w->∃ps,EncP (TyRel G w e) xs cs ps/\Sep (ps.map Pc.fp)/\∀p∈ps,CS.le p.fp (FromL φ st.objs m)) (hp:cs<+:vs.toList)
  (wd:World) (lY:wd.heap=w.heap) (lX:wd.os=w.os) (gJ:wd.output=w.output) (dO:wd.tape=w.tape):
  (∃ν',Rel w0 F nt G0 G ν' (({env:=st.env,objs:=(st.nx,.arr e xs)::kill st.objs m,nx:=st.nx+1}:St).put dst (.s (.one (.own st.nx)))) (a.put dst (.slice (some ⟨w.heap.size,0,none⟩) xs.length cap)) (wd.alloc (.cells vs t)))/\
  (∃ν',Rel w0 F nt G0 G ν' (({env:=st.env,objs:=(st.nx,.arr e xs)::kill st.objs m,nx:=st.nx+1}:St).put dst (.s (.one (.aptr st.nx)))) (a.put dst (.pointer (some ⟨w.heap.size,0,none⟩))) (wd.alloc (.cells vs t))):=by
 have j8:(wd.alloc (.cells vs t)).heap[w.heap.size]?=some (Obj.cells vs t (0,0)):=by rw[←lY];exact Whl wd _
 have key:∀(x:AVal) (v:Value),AValRel G (upd ν st.nx ⟨some w.heap.size,0,xs.length,cap,e.size⟩) (st.nx+1) x v->
   ∃ν',Rel w0 F nt G0 G ν' (({env:=st.env,objs:=(st.nx,.arr e xs)::kill st.objs m,nx:=st.nx+1}:St).put dst x) (a.put dst v) (wd.alloc (.cells vs t)):=λx v hv=>by
  refine⟨upd ν st.nx ⟨some w.heap.size,0,xs.length,cap,e.size⟩,h.fresh hd m (.arr e xs) _ (λφ b o=>FromL φ st.objs m b o\/b=w.heap.size) x v (λφ _=>WLe.alloc _ wd _ lY lX gJ dO) (λφ hφ b o hs=>?_) (λφ hφ=>?_) hv⟩
  .rcases hs with⟨i,hi,h1,h2⟩|hs
   .exact .inl ⟨i,.inr hi,h1,h2⟩
   .exact .inr ⟨by omega,by rw[hs];simp[lY]⟩
  .obtain⟨ps,h1,h2,h3⟩:=hc φ hφ;have hbl:∀p∈ps,∀b o,p.fp b o->b<w.heap.size:=λp cK b o hh=>by
    obtain⟨i,_,g1,g2⟩:=h3 p cK b o hh;exact hφ.bl i b o g1 g2
   show OwnL (wd.alloc (.cells vs t)) (TyRel G _ e) e.size (upd ν st.nx ⟨some w.heap.size,0,xs.length,cap,e.size⟩ st.nx) xs _;rw[WaJ];refine⟨rfl,rfl,hx,fE,⟨vs,t,j8,by show 0+cap*e.size<=vs.size;omega⟩,cs,ps,?_,?_,Xy.2 ⟨λs hs b o ⟨hb,_⟩ gg=>?_,h2⟩,λs hs b o gg=>?_⟩
   .refine Wa7 (Q:=λp=>∀b o,p.fp b o->b<w.heap.size) (λx c p cK hh=>?_) _ _ _ hbl h1;exact W5 (λ_ _ _ hh=>hh) e x c p (λq hq=>(WLe.alloc (λ_ _=>False) wd _ lY lX gJ dO).same (λ_ _ hh _=>hh) (cK q hq)) hh
   .obtain⟨tl,mJ⟩:=hp;exact WmM j8 (λj v hj=>by rw[←mJ];show(cs++tl)[0+j]?=some v;rw[Xbd,Xav (Xr.1 hj).1];exact hj)
   .obtain⟨p,cK,rfl⟩:=Xu.1 hs;have:=hbl p cK b o gg;omega
   .rcases Xm.1 hs with rfl|hs
    .exact .inr gg.1
    .obtain⟨p,cK,rfl⟩:=Xu.1 hs;exact .inl (h3 p cK b o gg)
 refine⟨key _ _ ⟨⟨Xbl _,?_⟩,rfl⟩,key _ _ ⟨⟨Xbl _,w.heap.size,by rw[WaJ],by rw[WaJ]⟩,rfl⟩⟩;rw[WaJ];rfl
theorem WjY(h:Rel w0 F nt G0 G ν st a w){dst:Option Tmp}(hd:∀d,dst=some d->nt.Ok d){e:Ty}(he:e.data=true){xs:List e.den}{cap:Nat}{vs:Array Value}{t:TypeId}{cs:List Value}(hx:xs.length<=cap)(fE:cap<=maxLen)
  (hsz:vs.size=cap*e.size) (hc:EncL (Enc G e) xs cs) (hp:cs<+:vs.toList) (wd:World) (lY:wd.heap=w.heap) (lX:wd.os=w.os) (gJ:wd.output=w.output) (dO:wd.tape=w.tape):
  (∃ν',Rel w0 F nt G0 G ν' (st.new dst (.arr e xs) (.s (.one (.own st.nx)))) (a.put dst (.slice (some ⟨w.heap.size,0,none⟩) xs.length cap)) (wd.alloc (.cells vs t)))/\
  (∃ν',Rel w0 F nt G0 G ν' (st.new dst (.arr e xs) (.s (.one (.aptr st.nx)))) (a.put dst (.pointer (some ⟨w.heap.size,0,none⟩))) (wd.alloc (.cells vs t))):=
 Wfs h hd [] hx fE hsz (λφ _=>⟨[],(EncP_data he xs cs []).2 ⟨hc,rfl⟩,List.Pairwise.nil,by simp⟩) hp wd lY lX gJ dO
theorem Wcc{x:AVal}{v:Value}{cs:List Cell}(hx:AValRel G ν nx x v)(hb:WeK x=some cs):CellsRel G ν nx cs v.cells.toList/\∀u∈v.cells.toList,u.oneCell'=true:=by
 cases x with
 |tup xs=>simp[WeK]at hb
 |s y=>
  cases y with
  |one c=>
   simp[WeK]at hb;subst hb;obtain⟨h1,h2⟩:=hx;rw[WmG h2];exact⟨CellsRel.one h1 h2,λu hu=>by simp at hu;subst hu;exact h2⟩
  |agg ds=>
   simp[WeK]at hb;subst hb;obtain⟨vs,rfl,h1⟩:=hx;refine⟨by simpa [Value.cells]using h1,λu hu=>?_⟩;simp[Value.cells]at hu;obtain⟨j,hj⟩:=List.getElem?_of_mem hu;have hlt:j<ds.length:=by rw[←h1.1];exact(Xr.1 hj).1
   exact(h1.2 j _ u (Xq hlt) hj).2
theorem WbF(t:TypeId)(vs:Array Value):(newRow t vs).run P w= .ok ⟨w.heap.size,0,none⟩ (w.alloc (.cells vs t)):=rfl
theorem Wdr{cs ds:List Cell}{off:Nat}(h:off+ds.length<=cs.length):(WcH cs off ds).length=cs.length:=by
 simp[WcH];omega
theorem Wdm{cs ds:List Cell}{vs us:List Value}{off:Nat}(hc:CellsRel G ν nx cs vs)(hd:CellsRel G ν nx ds us):
  CellsRel G ν nx (WcH cs off ds) (vs.take off++us++vs.drop (off+us.length)):=by
 rw[hd.1];exact((hc.take off).append hd).append (hc.drop _)
theorem Wf9(us:List Value):∀(off k:Nat) (cs:Array Value),off+k+us.length<=cs.size->
  ((us.zipIdx k).foldl (λcs (c,j)=>cs.setIfInBounds (off+j) c) cs).toList=cs.toList.take (off+k)++us++cs.toList.drop (off+k+us.length):=by
 induction us with
 |nil=>intro off k cs h;simp
 |cons u us ih=>
  intro off k cs h;simp only[List.zipIdx_cons,List.foldl_cons,Xt]at h⊢;rw[ih off (k+1) _ (by simp;omega)];have hlt:off+k<cs.toList.length:=by simp;omega
  simp only[Array.toList_setIfInBounds];generalize cs.toList=l at*;have e1:(l.set (off+k) u).take (off+(k+1))=l.take (off+k)++ [u]:=by
   rw[←Xan,List.take_succ_eq_append_getElem (by simpa using hlt),List.take_set_of_le (Xl _)];simp
  have e2:(l.set (off+k) u).drop (off+(k+1)+us.length)=l.drop (off+k+(us.length+1)):=by
   rw[List.drop_set_of_lt (by omega)];congr 1;omega
  rw[e1,e2];simp
end
end Go.Sx
namespace Go.Sx
set_option linter.unusedVariables false
set_option linter.unusedSimpArgs false
section
variable{w0:World}{F:CS}{nt:Slots}{G0 G:GH}{ν:Nat->Nu}{objs:WS}{nx:Nat}{st af:St}{a:Act}{w w':World}{P:Program}{T:Tab}
def Done(P:Program)(w0:World)(F:CS)(nt:Slots)(G0:GH)(o:Oper)(a:Act)(w:World)(af:St):Prop:=
 ∃n v w' G' ν',(execOp a.eval o).run P w= .ok n w'/\(n= .value v\/(n= .skip/\v=undef))/\Rel w0 F nt G0 G' ν' af (a.put o.dst v) w'
theorem Wev(hr:Rel w0 F nt G0 G ν st a w):∀(l:List (Nat×Operand)) (ps:List (Nat×AVal)),Wbz st l=some ps->
  ps.length=l.length/\∀(j:Nat) (p:Nat×AVal) (q:Nat×Operand),ps[j]?=some p->l[j]?=some q->p.1=q.1/\AValRel G ν st.nx p.2 (a.eval q.2)
 | [],ps,h=>by simp[Wbz]at h;subst h;exact⟨rfl,λj p q hp=>by simp at hp⟩
 |(i,x)::l,ps,h=>by
  simp only[Wbz]at h;split at h
  .rename_i y ys h1 h2;injection h with h;subst h;obtain⟨h3,h4⟩:=Wev hr l ys h2;refine⟨by simp[h3],λj p q hp hq=>?_⟩;cases j with
   |zero=>simp at hp hq;subst hp hq;exact⟨rfl,Wr hr x _ h1⟩
   |succ j=>exact h4 j p q (by simpa using hp) (by simpa using hq)
  .simp at h
theorem Whd(hT:WW P T){fs:List (Nat×TypeId)}{place:Nat->Option (Nat×Nat)}
  (dI:∀(i off:Nat) (ft:TypeId) (te:TE),fs[i]?=some (off,ft)->Wc T ft=some te->place i=some (off,te.size)) (fF:∀(i off:Nat) (ft:TypeId) (te:TE),fs[i]?=some (off,ft)->Wc T ft=some te->te.plain=true):
  ∀(l:List (Nat×AVal)) (ps:List (Nat×Value)) (cs cs':List Cell) (vs:Array Value),CellsRel G ν nx cs vs.toList->ps.length=l.length->
   (∀(j:Nat) (p:Nat×AVal) (q:Nat×Value),l[j]?=some p->ps[j]?=some q->p.1=q.1/\AValRel G ν nx p.2 q.2)->Wi9 T fs l cs=some cs'->
   ∃vs',Instr.fill place vs ps=some vs'/\CellsRel G ν nx cs' vs'.toList
 | [],[],cs,cs',vs,hc,_,_,h=>by simp[Wi9]at h;subst h;exact⟨vs,rfl,hc⟩
 |(i,x)::l,[],_,_,_,_,hl,_,_=>by simp at hl
 | [],_::_,_,_,_,_,hl,_,_=>by simp at hl
 |(i,x)::l,(i',v)::ps,cs,cs',vs,hc,hl,hp,h=>by
  obtain⟨he,hx⟩:=hp 0 _ _ rfl rfl;simp only at he hx;subst he;simp only[Wi9]at h;split at h
  .rename_i off ft hf;split at h
   .rename_i te ds bh ff;split at h
    .rename_i aY;simp only[Xi,decide_eq_true_eq]at aY;obtain⟨h1,h2⟩:=aY;obtain⟨h3,_⟩:=Wcc hx ff;have hsz:v.cells.size=ds.length:=by have:=h3.1;simpa using this
     have dB:vs.size=cs.length:=by have:=hc.1;simpa using this
     have pD:=fF _ _ _ _ hf bh;have c9:=Wf9 v.cells.toList off 0 vs (by simp;omega);simp only[Xat,Xap]at c9;have eE:CellsRel G ν nx (WcH cs off ds) (v.cells.toList.zipIdx.foldl (λcs (c,j)=>cs.setIfInBounds (off+j) c) vs).toList:=by
      rw[c9];have:=Wdm (off:=off) hc h3;simpa using this
     obtain⟨vs',h4,h5⟩:=Whd hT dI fF l ps _ cs' _ eE (by simpa using hl) (λj p q hj hq=>hp (j+1) p q (by simpa using hj) (by simpa using hq)) h;refine⟨vs',?_,h5⟩;simp only[Instr.fill,dI _ _ _ _ hf bh];rw[if_neg (by rw[WH pD];simp;omega)];rw[←h4];congr 1;rw[←Array.foldl_toList];simp
    .simp at h
   .simp at h
  .simp at h
theorem Wea{α β:Type}(f:α->Sem β)(g:α->β):∀(l:List α),(∀x∈l,(f x).run P w= .ok (g x) w)->(l.mapM f).run P w= .ok (l.map g) w
 | [],_=>by simp
 |x::l,h=>by
  simp only[Xew,Sem.run_bind,h x (Xh ..),Result.andThen_ok,Wea f g l (λy hy=>h y (Xe _ hy)),Sem.run_pure,Xaj]
theorem WjL{α β:Type}(f:α->Sem β)(g:α->β)(l:Array α)(h:∀x∈l,(f x).run P w= .ok (g x) w):(l.mapM f).run P w= .ok (l.map g) w:=by
 rw[Array.mapM_eq_mapM_toList];simp only[Sem.run_map,Wea f g l.toList (λx hx=>h x (by simpa using hx)),Result.andThen_ok];congr 1;apply Xfz;simp
theorem Wmc(hT:WW P T)(hr:Rel w0 F nt G0 G ν st a w){o:Oper}(hd:∀d,o.dst=some d->nt.Ok d){t:TypeId}{parts:Array (Nat×Operand)}(ho:o.op= .build t parts)
  {ty:Ty} {fs:List (Nat×TypeId)} {ps:List (Nat×AVal)} {cs:List Cell} (hl:Wc T t=some ⟨ty,true,.struct fs⟩) (dg:Wbz st parts.toList=some ps) (hf:Wi9 T fs ps (Wc7 ty)=some cs)
  (dI:∀f∈fs,∃te,Wc T f.2=some te/\te.plain=true):
  Done P w0 F nt G0 o a w (st.put o.dst (.s (.agg cs))):=by
 have bh:=hT _ _ hl;obtain⟨_,fields,hu,cJ,_⟩:=bh.und;obtain⟨z,hz,cL⟩:=Wdg (w:=w) bh;obtain⟨h1,h2⟩:=Wev hr _ _ dg;have hsz:∀f∈fields,∃te,Wc T f.type=some te/\te.plain=true:=λf hf=>dI (f.offset,f.type) (by rw[←cJ];exact Xu.2 ⟨f,by simpa using hf,rfl⟩)
 let sz:Field->Nat:=λf=>match Wc T f.type with|some te=>te.size|none=>0
 have hrun:(fields.mapM λf=>(do pure (f.offset,←sizeOf f.type):Sem (Nat×Nat))).run P w= .ok (fields.map λf=>(f.offset,sz f)) w:=by
  refine WjL _ (λf=>(f.offset,sz f)) fields (λf hf=>?_);obtain⟨te,co,_⟩:=hsz f hf;simp[sz,(hT _ _ co).sizeOf,co]
 have kD:∀(i off:Nat) (ft:TypeId) (te:TE),fs[i]?=some (off,ft)->Wc T ft=some te->(fields.map λf=>(f.offset,sz f))[i]?=some (off,te.size):=λi off ft te hi co=>by
  rw[←cJ]at hi;simp only[Xak,Xda]at hi;cases d6:fields[i]? with
  |none=>simp[d6]at hi
  |some fd=>
   simp[d6]at hi;obtain⟨e1,e2⟩:=hi;subst e1 e2;simp[d6,sz,co]
 have mK:CellsRel G ν st.nx (Wc7 ty) z.cells.toList:=by
  rw[cL];exact WqS ty
 obtain⟨vs',h3,h4⟩:=Whd hT kD (λi off ft te hi co=>by
   obtain⟨cS,h5,h6⟩:=dI _ (List.mem_of_getElem? hi);simp only at h5;rw[h5]at co;injection co with co;subst co;exact h6) ps (parts.toList.map λp=>(p.1,a.eval p.2)) _ cs z.cells mK (by simp[h1]) (λj p q hp hq=>by
   simp only[Xak]at hq;cases du:parts.toList[j]? with
   |none=>simp only[Xda]at du;simp[du]at hq
   |some q'=>
    rw[du]at hq;simp at hq;subst hq;exact h2 j p q' hp du) hf
 refine⟨.value (.agg vs'),.agg vs',w,G,ν,?_,.inl rfl,hr.put hd ⟨vs'.toList,by simp,h4⟩⟩;simp only[execOp,ho,Instr.build,Sem.run_bind,hz,Result.andThen_ok,Wa hu,hrun];have:(parts.map λx=>match x with|(i,x)=>(i,a.eval x)).toList=parts.toList.map λp=>(p.1,a.eval p.2):=by simp
 rw[this,h3];rfl
theorem Wmd(hT:WW P T)(hr:Rel w0 F nt G0 G ν st a w){o:Oper}(hd:∀d,o.dst=some d->nt.Ok d){t:TypeId}(ho:o.op= .alloc t){te:TE}(hl:Wc T t=some te)(hp:te.plain=true):
  Done P w0 F nt G0 o a w (st.new o.dst (.box (Wc7 te.ty)) (.s (.one (.ptr st.nx 0)))):=by
 obtain⟨z,hz,cL⟩:=Wdg (w:=w) (hT _ _ hl);obtain⟨ν',h⟩:=Wmv (t:=t) (vs:=z.cells) hr hd (cs:=Wc7 te.ty) (by rw[cL,WaW hp];exact WqS _);refine⟨_,_,_,G,ν',?_,.inl rfl,h⟩;simp only[execOp,ho,Instr.alloc,Sem.run_bind,hz,Result.andThen_ok,newVar,WbF,Sem.run_pure]
theorem Wht(hT:WW P T)(hr:Rel w0 F nt G0 G ν st a w){o:Oper}(hd:∀d,o.dst=some d->nt.Ok d){t:TypeId}(ho:o.op= .alloc t){e:Ty}{n:Nat}{et:TypeId}(hl:Wc T t=some ⟨e,true,.arr n et⟩)(aK:e.data=true)(az:WB n=true):
  Done P w0 F nt G0 o a w (st.new o.dst (.arr e (Xag n e.dflt)) (.s (.one (.aptr st.nx)))):=by
 obtain⟨z,hz,cL⟩:=Wdg (w:=w) (hT _ _ hl);have hn:n<=maxLen:=by simp[WB]at az;unfold maxLen;omega
 have hlen:z.cells.size=n*e.size:=by
  rw[←Xap,cL];simp only[TE.cells,WhL,WaM]
 obtain⟨_,ν',h⟩:=WjY (t:=t) (vs:=z.cells) hr hd (e:=e) aK (xs:=Xag n e.dflt) (cap:=n) (cs:=rep (WaS e) n) (by simp) hn hlen (WeF aK n) (by rw[cL];exact List.prefix_refl _) w rfl rfl rfl rfl;refine⟨_,_,_,G,ν',?_,.inl rfl,h⟩;simp only[execOp,ho,Instr.alloc,Sem.run_bind,hz,Result.andThen_ok,newVar,WbF,Sem.run_pure]
theorem Wo0(hr:Rel w0 F nt G0 G ν st a w){o:Oper}(hd:∀d,o.dst=some d->nt.Ok d){t:TypeId}{x:Operand}(ho:o.op= .box t x){v:AVal}{cs:List Cell}(hv:ev st x=some v)(hb:WeK v=some cs):
  Done P w0 F nt G0 o a w (st.new o.dst (.box cs) (.s (.one (.ptr st.nx 0)))):=by
 obtain⟨h1,_⟩:=Wcc (Wr hr x _ hv) hb;obtain⟨ν',h⟩:=Wmv (t:=t) hr hd h1;refine⟨_,_,_,G,ν',?_,.inl rfl,h⟩;simp only[execOp,ho,Instr.box,Sem.run_bind,Result.andThen_ok,newVar,WbF,Sem.run_pure]
theorem Wns(hT:WW P T)(hr:Rel w0 F nt G0 G ν st a w){o:Oper}(hd:∀d,o.dst=some d->nt.Ok d){r:AVal}(h:WV T st o.op=some (true,r)):Done P w0 F nt G0 o a w (st.put o.dst r):=by
 obtain⟨v,h1,h2⟩:=WlE hT hr h;exact⟨_,v,w,G,ν,h1,.inl rfl,hr.put hd h2⟩
end
end Go.Sx
namespace Go.Sx
set_option linter.unusedVariables false
set_option linter.unusedSimpArgs false
theorem WdL{t t':Ty}{d:t.den}{d':t'.den}(h:Wix t t' d=some d'):∃e:t=t',e▸d=d':=by
 unfold Wix at h;split at h
 .rename_i e;injection h with h;exact⟨e,h⟩
 .simp at h
theorem W1{e e':Ty}{d:List e.den}{d':List e'.den}(h:Wej e e' d=some d'):∃he:e=e',he▸d=d':=by
 unfold Wej at h;split at h
 .rename_i he;injection h with h;exact⟨he,h⟩
 .simp at h
theorem Wm7{A A':Type}(hA:A=A')(h:List A=List A')(l:List A)(i:Nat):cast h (l.take i)=(cast h l).take i:=by
 subst hA;rfl
theorem WmZ{A A':Type}(hA:A=A')(h:List A=List A')(l:List A)(i:Nat):cast h (l.drop i)=(cast h l).drop i:=by
 subst hA;rfl
theorem Wmg(e:Ty)(l:List e.den)(i:Nat):Wby e (l.take i)=(Wby e l).take i:=Wm7 (WcG e).symm _ l i
theorem Wl0(e:Ty)(l:List e.den)(i:Nat):Wby e (l.drop i)=(Wby e l).drop i:=WmZ (WcG e).symm _ l i
section
variable{w0:World}{F:CS}{G G':GH}{ν:Nat->Nu}{φ:Nat->CS}{objs:WS}{nx:Nat}{w:World}
def Lent(G':GH)(w:World)(φ:Nat->CS)(objs:WS)(l:List Nat):Prop:=∀id∈l,Live objs id->Froz G' w (φ id)
theorem Lent.mono{l m:List Nat}(h:Lent G' w φ objs m)(hs:∀i∈l,i∈m):Lent G' w φ objs l:=λid bg=>h id (hs id bg)
theorem CellsRel.single{c:Cell}{vs:List Value}(h:CellsRel G ν nx [c] vs):∃v,vs= [v]/\CellRel G ν nx c v/\v.oneCell'=true:=by
 obtain⟨h1,h2⟩:=h
 match vs,h1 with
 | [v],_=>exact⟨v,rfl,h2 0 c v rfl rfl⟩
theorem Wew{t:Ty}{c:Cell}{d:t.den}{v:Value}(hg:GLe G G')(h:CellRel G ν nx c v)(hf:Wgu t c=some d):Enc G' t d [v]:=by
 unfold Wgu at hf;split at hf
 .obtain⟨e,hd⟩:=WdL hf;subst e;simp only at hd;subst hd;exact Wau hg _ _ _ h
 .simp at hf
theorem FromL.mono{m m':List Nat}(h:∀i∈m,i∈m'):CS.le (FromL φ objs m) (FromL φ objs m'):=λb o ⟨i,hi,h1⟩=>⟨i,h i hi,h1⟩
theorem FromL.one{i:Nat}{m:List Nat}(hi:i∈m)(hl:Live objs i):CS.le (φ i) (FromL φ objs m):=λb o h=>⟨i,hi,hl,h⟩
theorem FromL.disj(h:HR w0 F G ν φ objs nx w){m m':List Nat}(hd:∀i∈m,i∉m'):CS.disj (FromL φ objs m) (FromL φ objs m'):=λb o ⟨i,hi,h1,h2⟩ ⟨j,hj,h3,h4⟩=>by
 have:=h.inj i j b o h1 h3 h2 h4;subst this;exact hd i hi hj
theorem CS.disj.mono{A B A' B':CS}(h:CS.disj A B)(h1:CS.le A' A)(h2:CS.le B' B):CS.disj A' B':=λb o ha hb=>h b o (h1 b o ha) (h2 b o hb)
theorem CS.disj.symm{A B:CS}(h:CS.disj A B):CS.disj B A:=λb o ha hb=>h b o hb ha
theorem Wkm{l m:List CS}{A B:CS}(h1:Sep l)(h2:Sep m)(ha:∀s∈l,CS.le s A)(hb:∀s∈m,CS.le s B)(hd:CS.disj A B):Sep (l++m):=
 Xaa.2 ⟨h1,h2,λs hs t ht=>hd.mono (ha s hs) (hb t ht)⟩
theorem Wiu{l1 l2 l3:List CS}(kE:Sep (l1++l3))(h2:Sep l2)(hd:∀s∈l2,∀t∈l1++l3,CS.disj s t):Sep (l1++(l2++l3)):=by
 obtain⟨h1,h3,h4⟩:=Xaa.1 kE;refine Xaa.2 ⟨h1,Xaa.2 ⟨h2,h3,λs hs t ht=>hd s hs t (Xg _ ht)⟩,λs hs t ht=>?_⟩;rcases Xk.1 ht with ht|ht
 .exact(hd t ht s (Xj _ hs)).symm
 .exact h4 s hs t ht
theorem Wd4{b off i n cap:Nat}(hi:i<cap){S:CS}(h1:CS.le (rng b off (i*n)) S)(h2:CS.le (rng b (off+i*n) n) S)(h3:CS.le (rng b (off+(i+1)*n) ((cap-(i+1))*n)) S):CS.le (rng b off (cap*n)) S:=λb' o ⟨e,g1,g2⟩=>by
 have e1:(i+1)*n=i*n+n:=Xbq i n;have e2:(cap-(i+1))*n+(i+1)*n=cap*n:=by rw[←Xcp];congr 1;omega
 by_cases c1:o<off+i*n
 .exact h1 b' o ⟨e,g1,c1⟩
 .by_cases c2:o<off+i*n+n
  .exact h2 b' o ⟨e,by omega,c2⟩
  .exact h3 b' o ⟨e,by omega,by omega⟩
theorem Wpe{b a n c m:Nat}(h:a+n<=c):CS.disj (rng b a n) (rng b c m):=λb' o ⟨_,h1,h2⟩ ⟨_,h3,h4⟩=>by omega
theorem Wlj{e:Ty}{nu np:Nu}{xs:List e.den}{i:Nat}{S S1 S2:CS}(h:Wfm w (TyRel G w e) e.size nu np xs i S){d:e.den}{vs:List Value}{ns:List Pc}(hd:TyRel G w e d vs ns)
  {b:Nat} (hb:np.blk=some b) (hm:Mem w b np.off vs) (hr:CS.le (rng b np.off e.size) S1) (hs:Sep (ns.map Pc.fp)) (bO:∀p∈ns,CS.le p.fp S2) (d1:CS.disj S S1) (d2:CS.disj S S2) (d3:CS.disj S1 S2)
  {S':CS} (l1:CS.le S S') (l2:CS.le S1 S') (l3:CS.le S2 S'):OwnL w (TyRel G w e) e.size nu (xs.set i d) S':=by
 obtain⟨h1,h2,h3,b',h4,h5,h6,h7,h8,h9,c1,c2,p1,p2,g1,g2,g3,g4,g5,g6⟩:=h;rw[hb]at h5;injection h5 with h5;subst h5;have bJ:=Wak (λx c q hx=>Wk e x c q hx) _ _ _ g1;rw[Xau,Xbw (by omega)]at bJ;have aC:=Wk _ _ _ _ hd;have e1:(i+1)*e.size=i*e.size+e.size:=Xbq i e.size;refine⟨by rw[Xad];exact h1,h2,?_⟩;simp only[h4];have gA:=g6 _ (Xh ..);have gC:=g6 _ (Xe _ (Xh ..));have gp:∀s∈(p1++p2).map Pc.fp,CS.le s S:=λs hs=>g6 s (Xe _ (Xe _ hs));obtain⟨q1,q2⟩:=Xy.1 g5;obtain⟨q3,q4⟩:=Xy.1 q2;rw[h6]at hm hr;refine⟨by rw[Xad];exact h7,h8,h9,c1++(vs++c2),p1++(ns++p2),Wk4 h3 g1 hd g2,?_,Xy.2 ⟨λs cg=>?_,?_⟩,λs cg=>?_⟩
 .refine g3.app (n:=i*e.size) ?_ bJ;refine hm.app (n:=e.size) ?_ aC;rw[Xan,←e1];exact g4
 .
  simp only[Xn,Xk]at cg;have key:∀s,(CS.disj s (rng b nu.off (i*e.size)))->CS.disj s (rng b (nu.off+i*e.size) e.size)->CS.disj s (rng b (nu.off+(i+1)*e.size) ((nu.cap-(i+1))*e.size))->CS.disj (rng b nu.off (nu.cap*e.size)) s:=λs k1 k2 k3 b' o mL gg=>
   (Wd4 (show i<nu.cap by omega) (S:=λb o=>¬s b o) (λb o hh hs=>k1 b o hs hh) (λb o hh hs=>k2 b o hs hh) (λb o hh hs=>k3 b o hs hh) b' o mL) gg
  have mM:∀s∈(p1++p2).map Pc.fp,CS.disj (rng b nu.off (nu.cap*e.size)) s:=λs hs=>key s (q1 s (Xe _ hs)).symm (d1.mono (gp s hs) hr) (q3 s hs).symm;rcases cg with cg|cg|cg
  .exact mM s (by rw[Xn];exact Xj _ cg)
  .obtain⟨p,hp,rfl⟩:=Xu.1 cg;exact key _ (d2.mono gA (bO p hp)).symm (d3.mono hr (bO p hp)).symm (d2.mono gC (bO p hp)).symm
  .exact mM s (by rw[Xn];exact Xg _ cg)
 .rw[Xn,Xn];rw[Xn]at q4 gp;refine Wiu q4 hs (λs cg t ht=>?_);obtain⟨p,hp,rfl⟩:=Xu.1 cg;exact(d2.mono (gp t ht) (bO p hp)).symm
 .rcases Xm.1 cg with rfl|cg
  .exact Wd4 (show i<nu.cap by omega) (λb o hh=>l1 b o (gA b o hh)) (λb o hh=>l2 b o (hr b o hh)) (λb o hh=>l1 b o (gC b o hh))
  .simp only[Xn,Xk]at cg;rcases cg with cg|cg|cg
   .exactλb o hh=>l1 b o (gp s (by rw[Xn];exact Xj _ cg) b o hh)
   .obtain⟨p,hp,rfl⟩:=Xu.1 cg
    exactλb o hh=>l3 b o (bO p hp b o hh)
   .exactλb o hh=>l1 b o (gp s (by rw[Xn];exact Xg _ cg) b o hh)
def Nu.part(n:Nu)(lo hi:Nat):Nu:=⟨n.blk,if n.cap=lo then n.off else n.off+lo*n.esz,hi-lo,n.cap-lo,n.esz⟩
theorem WhQ{n:Nu}{lo hi:Nat}:(n.part lo hi).hdr=n.vhdr lo hi:=by
 unfold Nu.hdr Nu.vhdr Nu.part;cases n.blk<;>rfl
theorem WkJ{e:Ty}{nu:Nu}{xs:List e.den}{S:CS}{lo hi:Nat}(h:OwnL w (TyRel G w e) e.size nu xs S)(h1:lo<=hi)(h2:hi<=nu.len):OwnL w (TyRel G w e) e.size (nu.part lo hi) ((xs.take hi).drop lo) S:=by
 obtain⟨g1,g2,g3⟩:=h;refine⟨by simp[Nu.part];omega,g2,?_⟩;show match nu.blk with|none=>_|some b=>_
 cases hb:nu.blk with
 |none=>simp only[hb]at g3;subst g3;simp
 |some b=>
  simp only[hb]at g3;obtain⟨g4,g5,g6,cs,ps,g7,g8,g9,mN⟩:=g3;obtain⟨c1,c2,p1,p2,k1,k2,k3,k4⟩:=WcX xs cs ps hi g7;obtain⟨d1,d2,q1,q2,k5,k6,k7,k8⟩:=WcX (xs.take hi) c1 p1 lo k3;have hl:=Wak (λx c q hx=>Wk e x c q hx) _ _ _ k7;rw[Xau,Xau,Xbw (by omega)]at hl;have hcl:(nu.cap-lo)*e.size+lo*e.size=nu.cap*e.size:=by rw[←Xcp];congr 1;omega
  have hlen:((xs.take hi).drop lo).length=hi-lo:=by simp;omega
  by_cases hc:nu.cap=lo
  .have h0:(xs.take hi).drop lo= []:=Xx (by omega);have e0:nu.cap-lo=0:=by omega
   simp only[Nu.part,if_pos hc,e0,Nat.zero_mul,Xat];rw[h0]at k8⊢;refine⟨Xbk _,Xbk _,?_,[],[],⟨rfl,rfl⟩,λj v hj=>by simp at hj,Xy.2 ⟨by simp,List.Pairwise.nil⟩,λs hs=>?_⟩
   .obtain⟨vs,T,r1,r2⟩:=g6;exact⟨vs,T,r1,by omega⟩
   .simp at hs;subst hs
    exactλb o ⟨_,r1,r2⟩=>absurd r2 (by omega)
  .simp only[Nu.part,if_neg hc,g2];have hle:CS.le (rng b (nu.off+lo*e.size) ((nu.cap-lo)*e.size)) (rng b nu.off (nu.cap*e.size)):=λb' o ⟨r0,r1,r2⟩=>⟨r0,by omega,by omega⟩;refine⟨by rw[hlen];omega,by omega,?_,d2,q2,k8,?_,?_,λs hs=>?_⟩
   .obtain⟨vs,T,r1,r2⟩:=g6;exact⟨vs,T,r1,by omega⟩
   .rw[k1,k5,List.append_assoc]at g8;exact(g8.right hl).left
   .obtain⟨r1,r2⟩:=Xy.1 g9;rw[k2,k6,Xn,Xn]at r1 r2;refine Xy.2 ⟨λs hs=>(r1 s (Xj _ (Xg _ hs))).mono hle (λ_ _ hh=>hh),?_⟩;exact(Xaa.1 (Xaa.1 r2).1).2.1
   .rcases Xm.1 hs with rfl|hs
    .exactλb' o hh=>mN _ (Xh ..) b' o (hle b' o hh)
    .refine mN s (Xe _ ?_);rw[k2,k6,Xn,Xn];exact Xj _ (Xg _ hs)
theorem WjC{e:Ty}{nu:Nu}{xs:List e.den}{S:CS}{lo hi:Nat}(h:OwnL w (TyRel G w e) e.size nu xs S)(h1:lo<=hi)(h2:hi<=nu.len):OwnL w (TyRel G w e) e.size (nu.part lo hi) (List.drop lo (List.take hi xs)) S:=WkJ h h1 h2
theorem WlK(hg:GLe G G'){e:Ty}{nu np:Nu}{xs:List e.den}{i:Nat}{S S1:CS}(h:Wfm w (TyRel G w e) e.size nu np xs i S){d:e.ro.den}{vs:List Value}(hd:Enc G' e.ro d vs)
  {b:Nat} (hb:np.blk=some b) (hm:Mem w b np.off vs) (hr:CS.le (rng b np.off e.size) S1) (f1:Froz G' w S) (f2:Froz G' w S1):WgF G' (Enc G' e.ro) ((Wby e xs).set i d) nu.hdr:=by
 obtain⟨h1,h2,h3,b',h4,h5,h6,h7,h8,h9,c1,c2,p1,p2,g1,g2,g3,g4,g5,g6⟩:=h;rw[hb]at h5;injection h5 with h5;subst h5;have bJ:=Wak (λx c q hx=>Wk e x c q hx) _ _ _ g1;have gh:=Wak (λx c q hx=>Wk e x c q hx) _ _ _ g2;rw[Xau,Xbw (by omega)]at bJ;rw[Xcu]at gh;have aC:=Enc_len _ _ _ hd;rw[WaV]at aC;have e1:(i+1)*e.size=i*e.size+e.size:=Xbq i e.size;rw[h6]at hm hr;have gA:=g6 _ (Xh ..);have gC:=g6 _ (Xe _ (Xh ..));have gp:∀p∈p1++p2,Froz G' w p.fp:=λp hp=>f1.mono (g6 _ (Xe _ (Xe _ (Xal hp))));have iq:(xs.length-(i+1))*e.size<=(nu.cap-(i+1))*e.size:=Xaz _ (by omega);have E1:=WhK (λx c p hp hx=>Wcl hg e x c p hp hx) _ _ _ (λq hq=>gp q (Xj _ hq)) g1;have E2:=WhK (λx c p hp hx=>Wcl hg e x c p hp hx) _ _ _ (λq hq=>gp q (Xg _ hq)) g2;rw[Wmg]at E1;rw[Wl0]at E2;have hlen:(Wby e xs).length=xs.length:=Wec e xs;have eset:(Wby e xs).set i d=(Wby e xs).take i++(d::(Wby e xs).drop (i+1)):=by
  rw[Xeh,if_pos (by omega)]
 unfold Nu.hdr;simp only[h4];refine .inr (.inl ⟨b,nu.off,nu.cap,c1++(vs++c2),by rw[Xad,hlen,h1],by rw[Xad,hlen];exact h7,h8,?_,λj v hj=>?_⟩)
 .rw[eset];exact Wcu _ _ _ _ E1 ⟨vs,c2,rfl,hd,E2⟩
 .have s1:WdA G' b nu.off c1:=g3.stored (n:=i*e.size) (by omega) (f1.mono gA);have s2:WdA G' b (nu.off+i*e.size) vs:=hm.stored (n:=e.size) (by omega) (f2.mono hr);have s3:WdA G' b (nu.off+(i+1)*e.size) c2:=g4.stored (n:=(nu.cap-(i+1))*e.size) (by omega) (f1.mono gC);rw[Xaq]at hj;split at hj
  .exact s1 j v hj
  .rename_i eD;rw[Xaq]at hj;split at hj
   .have:=s2 _ v hj;rw[show nu.off+j=nu.off+i*e.size+(j-c1.length) by omega];exact this
   .have:=s3 _ v hj;rw[show nu.off+j=nu.off+(i+1)*e.size+(j-c1.length-vs.length) by omega];exact this
theorem WlT{α:Type}{R:α->List Value->Prop}{n:Nat}(hR:∀x c,R x c->c.length=n){nu:Nu}{xs:List α}(h:WgF G R xs nu.hdr)(hlen:xs.length=nu.len)(hn:nu.esz=n){lo hi:Nat}(h1:lo<=hi)(h2:hi<=nu.len)(h3:nu.blk=none->hi=0)(fE:nu.blk≠none->nu.len<=nu.cap/\nu.cap<=maxLen):
  WgF G R ((xs.take hi).drop lo) (nu.vhdr lo hi):=by
 unfold Nu.hdr at h;unfold Nu.vhdr;cases hb:nu.blk with
 |none=>
  have:=h3 hb;refine .inl ⟨rfl,Xx (by simp;omega)⟩
 |some b=>
  obtain⟨kF,fG⟩:=fE (by rw[hb];simp);simp only[hb]at h;have hle:((xs.take hi).drop lo).length=hi-lo:=by simp;omega
  by_cases h0:hi-lo=0
  .refine .inr (.inr ⟨_,nu.cap-lo,by rw[h0],Xx (by omega)⟩)
  .rcases h with⟨e,_⟩|⟨b',off,cap,cs,e,g1,g2,g3,g4⟩|⟨a,cap,e,bo⟩
   .cases e
   .injection e with e1 e2 e3;injection e1 with e1;injection e1 with e4 e5 e6;subst e4 e5 e3;rw[if_neg (by omega)];refine .inr (.inl ⟨b,nu.off+lo*nu.esz,nu.cap-lo,(cs.take (hi*n)).drop (lo*n),by rw[hle],by omega,by omega,WcU hR _ _ lo (Wc5 hR _ _ hi g3),λj v hj=>?_⟩);rw[Xbc,Xbb]at hj;split at hj
    .rw[Xan,hn];exact g4 _ _ hj
    .simp at hj
   .subst bo;simp at hlen;omega
def Leaf(ν:Nat->Nu)(t:Ty)(cs:List Cell)(ns:List Pc):Prop:=∀(lf k r:Nat),Waz t lf=some k->cs[k]?=some (.own r)->∃pc,ns[lf]?=some pc/\pc.nu=ν r
theorem Wdp:∀(t:Ty) (lf k:Nat),Waz t lf=some k->lf<t.owns/\k<t.size
 | .own _,lf,k,h=>by
  cases lf with
  |zero=>simp[Waz]at h;subst h;exact⟨Nat.one_pos,Nat.one_pos⟩
  |succ n=>simp[Waz]at h
 | .prod a b,lf,k,h=>by
  simp only[Waz]at h;split at h
  .obtain⟨h1,h2⟩:=Wdp a lf k h;exact⟨by show _<a.owns+b.owns;omega,by show _<a.size+b.size;omega⟩
  .obtain⟨j,hj,rfl⟩:=Xw.1 h;obtain⟨h1,h2⟩:=Wdp b _ j hj;exact⟨by show _<a.owns+b.owns;omega,by show _<a.size+b.size;omega⟩
 | .int _,_,_,h=>by simp[Waz]at h
 | .bool,_,_,h=>by simp[Waz]at h
 | .str,_,_,h=>by simp[Waz]at h
 | .slice _,_,_,h=>by simp[Waz]at h
theorem Leaf.none{ν:Nat->Nu}{t:Ty}{cs:List Cell}{ns:List Pc}(h:t.owns=0):Leaf ν t cs ns:=λlf k r h1 h2=>by
 have:=(Wdp t lf k h1).1;omega
theorem Wqx{ν:Nat->Nu}{e:Ty}{c:Cell}{ns:List Pc}(hc:∀r,c≠ .own r):Leaf ν (.own e) [c] ns:=λlf k r k1 k2=>by
 cases lf with
 |zero=>
  simp[Waz]at k1;subst k1;simp at k2;exact absurd k2 (hc r)
 |succ n=>simp[Waz]at k1
theorem WT(h:HR w0 F G ν φ objs nx w)(hg:GLe G G'):∀(t:Ty) (cs:List Cell) (vs:List Value) (d:t.den) (m l:List Nat),CellsRel G ν nx cs vs->Lent G' w φ objs l->m.Nodup->
  WZ t cs objs=some (d,m,l)->∃ns,TyRel G' w t d vs ns/\Sep (ns.map Pc.fp)/\(∀p∈ns,CS.le p.fp (FromL φ objs m))/\(∀i∈m,Live objs i)/\(∀i∈l,Live objs i)/\Leaf ν t cs ns
 | .prod a b,cs,vs,d,m,l,hc,hl,aH,hf=>by
  simp only[WZ]at hf;split at hf
  .rename_i x m1 l1 y m2 l2 h1 h2;simp only[Option.some.injEq,Prod.mk.injEq]at hf;obtain⟨rfl,rfl,rfl⟩:=hf;obtain⟨n1,n2,n3⟩:=List.nodup_append.1 aH;obtain⟨q1,h3,s1,h4,h5,ue,f1⟩:=WT h hg a _ (vs.take a.size) x m1 l1 (hc.take _) (hl.mono (by simp;intro i hi;exact .inl hi)) n1 h1;obtain⟨q2,h6,s2,h7,h8,uf,f2⟩:=WT h hg b _ (vs.drop a.size) y m2 l2 (hc.drop _) (hl.mono (by simp;intro i hi;exact .inr hi)) n2 h2;refine⟨q1++q2,⟨_,_,q1,q2,(Xcm a.size vs).symm,rfl,h3,h6⟩,?_,?_,?_,?_,?_⟩
   .rw[Xn];refine Wkm s1 s2 (A:=FromL φ objs m1) (B:=FromL φ objs m2) (λs hs=>?_) (λs hs=>?_) (FromL.disj h (λi hi hj=>n3 i hi i hj rfl))
    .obtain⟨p,hp,rfl⟩:=Xu.1 hs;exact h4 p hp
    .obtain⟨p,hp,rfl⟩:=Xu.1 hs;exact h7 p hp
   .intro p hp b o hh;rcases Xk.1 hp with hp|hp
    .exact FromL.mono (λi hi=>Xj _ hi) b o (h4 p hp b o hh)
    .exact FromL.mono (λi hi=>Xg _ hi) b o (h7 p hp b o hh)
   .intro i hi;rcases Xk.1 hi with hi|hi
    .exact h5 i hi
    .exact h8 i hi
   .intro i hi;rcases Xk.1 hi with hi|hi
    .exact ue i hi
    .exact uf i hi
   .intro lf k r k1 k2;have hq:=WL _ _ _ _ h3;simp only[Waz]at k1;split at k1
    .rename_i hlt;obtain⟨_,hk⟩:=Wdp a lf k k1;obtain⟨pc,k3,k4⟩:=f1 lf k r k1 (by rw[Xbb,if_pos hk];exact k2);exact⟨pc,by rw[Xav (by omega)];exact k3,k4⟩
    .obtain⟨j,hj,rfl⟩:=Xw.1 k1;obtain⟨pc,k3,k4⟩:=f2 _ j r hj (by rw[Xbc];exact k2);exact⟨pc,by rw[Xas (by omega),hq];exact k3,k4⟩
  .simp at hf
 | .own e,cs,vs,d,m,l,hc,hl,aH,hf=>by
  simp only[WZ]at hf;split at hf
  .rename_i id;obtain⟨v,rfl,⟨_,hv⟩,_⟩:=hc.single;subst hv;have j9:∀{S:CS},Leaf ν (.own e) [.own id] [⟨ν id,S⟩]:=λ{S} lf k r k1 k2=>by
    cases lf with
    |zero=>
     simp[Waz]at k1;subst k1;simp at k2;subst k2;exact⟨_,rfl,rfl⟩
    |succ n=>simp[Waz]at k1
   obtain⟨⟨ys,m'⟩,ho,hf⟩:=Xw.1 hf;simp only[Prod.mk.injEq]at hf;obtain⟨rfl,rfl,rfl⟩:=hf;unfold Wom at ho;split at ho
   .rename_i e' xs aL;obtain⟨zs,aZ,ho⟩:=Xw.1 ho;have ho:=Prod.mk.inj ho;obtain⟨rfl,rfl⟩:=ho;obtain⟨he,hy⟩:=W1 aZ;subst he;simp only at hy;subst hy;have aC:Live objs id:=⟨_,aL,by simp⟩;have ax:OwnL w (TyRel G w e') e'.size (ν id) xs (φ id):=h.ob _ _ aL;refine⟨[⟨ν id,φ id⟩],⟨_,rfl,rfl,WbU hg (Same.refl _ w) (λ_ _ hh=>hh) ax⟩,Xba _ _,?_,?_,by simp,j9⟩
    .intro p hp;simp at hp;subst hp;exact FromL.one (by simp) aC
    .intro i hi;simp at hi;subst hi;exact aC
   .rename_i e' xs i p aL;split at ho
    .rename_i zs cs' aZ eN;split at ho
     .rename_i d' m'' kC;simp only[Option.some.injEq,Prod.mk.injEq]at ho;obtain⟨rfl,rfl⟩:=ho;obtain⟨he,hy⟩:=W1 aZ;subst he;simp only at hy;subst hy;obtain⟨n1,n2⟩:=Xae.1 aH;obtain⟨n3,n4⟩:=Xae.1 n2;have aC:Live objs id:=⟨_,aL,by simp⟩;have cM:Live objs p:=⟨_,eN,by simp⟩;obtain⟨kB,hole⟩:p<nx/\Wfm w (TyRel G w e') e'.size (ν id) (ν p) xs i (φ id):=h.ob _ _ aL;obtain⟨b,us,hb,hrow,hmem,aX,dC⟩:Wbx G ν nx w p (φ p) (.box cs'):=h.ob _ _ eN;obtain⟨ns,t1,t2,t3,t4,_,_⟩:=WT h hg e' cs' us d' m'' [] aX (λi hi=>by simp at hi) n4 kC;have cU:=Wk _ _ _ _ t1;have mO:=Wg6 hg (Same.refl _ w) (λ_ _ hh=>hh) hole;rw[←aX.1,cU]at dC;have hne:id≠p:=λe=>n1 (by rw[e];exact Xh ..);refine⟨[⟨ν id,FromL φ objs (id::p::m'')⟩],⟨_,rfl,rfl,Wlj mO t1 hb hmem dC t2 t3 ?_ ?_ ?_ ?_ ?_ ?_⟩,Xba _ _,?_,?_,by simp,j9⟩
      .exactλb o h1 h2=>hne (h.inj id p b o aC cM h1 h2)
      .exactλb o h1 ⟨j,hj,h2,h3⟩=>by
        have:=h.inj id j b o aC h2 h1 h3;subst this;exact n1 (Xe _ hj)
      .exactλb o h1 ⟨j,hj,h2,h3⟩=>by
        have:=h.inj p j b o cM h2 h1 h3;subst this;exact n3 hj
      .exact FromL.one (by simp) aC
      .exact FromL.one (by simp) cM
      .exact FromL.mono (λi hi=>Xe _ (Xe _ hi))
      .intro p hp;simp at hp;subst hp;exactλ_ _ hh=>hh
      .intro j hj;rcases Xm.1 hj with rfl|hj
       .exact aC
       .rcases Xm.1 hj with rfl|hj
        .exact cM
        .exact t4 j hj
     .simp at ho
    .simp at ho
   .simp at ho
  .rename_i id lo hi;obtain⟨v,rfl,⟨_,g1,g2,g3,hv⟩,_⟩:=hc.single;subst hv;split at hf
   .rename_i e' xs aL;obtain⟨zs,aZ,hf⟩:=Xw.1 hf;have hf:=And.intro (Prod.mk.inj hf).1 (Prod.mk.inj (Prod.mk.inj hf).2);obtain⟨rfl,rfl,rfl⟩:=hf;obtain⟨he,hy⟩:=W1 aZ;subst he;simp only at hy;subst hy;have aC:Live objs id:=⟨_,aL,by simp⟩;have ax:OwnL w (TyRel G w e') e'.size (ν id) xs (φ id):=h.ob _ _ aL;refine⟨[⟨(ν id).part lo hi,φ id⟩],⟨_,rfl,by rw[WhQ],WjC (WbU hg (Same.refl _ w) (λ_ _ hh=>hh) ax) g1 g2⟩,Xba _ _,?_,?_,by simp,Wqx (by intro r h;cases h)⟩
    .intro p hp;simp at hp;subst hp;exact FromL.one (by simp) aC
    .intro i hi;simp at hi;subst hi;exact aC
   .simp at hf
  .simp only[Option.some.injEq,Prod.mk.injEq]at hf;obtain⟨rfl,rfl,rfl⟩:=hf;obtain⟨v,rfl,hv,_⟩:=hc.single;simp only[CellRel]at hv;subst hv;exact⟨[⟨⟨none,0,0,0,e.size⟩,λ_ _=>False⟩],⟨_,rfl,rfl,rfl,rfl,rfl⟩,Xba _ _,λp hp b o hh=>by simp at hp;subst hp;exact hh.elim,by simp,by simp,Wqx (by intro r h;cases h)⟩
  .simp at hf
 | .slice e,cs,vs,d,m,l,hc,hl,aH,hf=>by
  simp only[WZ]at hf;split at hf
  .rename_i id;obtain⟨v,rfl,⟨_,hv⟩,_⟩:=hc.single;subst hv;obtain⟨⟨ys,l'⟩,ho,hf⟩:=Xw.1 hf;simp only[Prod.mk.injEq]at hf;obtain⟨rfl,rfl,rfl⟩:=hf;unfold Wpw at ho;split at ho
   .rename_i e' xs aL;obtain⟨zs,aZ,ho⟩:=Xw.1 ho;have ho:=Prod.mk.inj ho;obtain⟨rfl,rfl⟩:=ho;obtain⟨he,hy⟩:=W1 aZ;subst he;simp only at hy;subst hy;have aC:Live objs id:=⟨_,aL,by simp⟩;have ax:OwnL w (TyRel G w e') e'.size (ν id) xs (φ id):=h.ob _ _ aL;refine⟨[],⟨rfl,_,rfl,WfC hg (hl id (by simp) aC) ax⟩,List.Pairwise.nil,by simp,by simp,?_,Leaf.none rfl⟩;intro i hi;simp at hi;subst hi;exact aC
   .rename_i e' xs i p aL;split at ho
    .rename_i zs cs' aZ eN;split at ho
     .rename_i d' l'' kC;simp only[Option.some.injEq,Prod.mk.injEq]at ho;obtain⟨rfl,rfl⟩:=ho;obtain⟨he,hy⟩:=W1 aZ;subst he;simp only at hy;subst hy;have aC:Live objs id:=⟨_,aL,by simp⟩;have cM:Live objs p:=⟨_,eN,by simp⟩;obtain⟨kB,hole⟩:p<nx/\Wfm w (TyRel G w e') e'.size (ν id) (ν p) xs i (φ id):=h.ob _ _ aL;obtain⟨b,us,hb,hrow,hmem,aX,dC⟩:Wbx G ν nx w p (φ p) (.box cs'):=h.ob _ _ eN;obtain⟨ns,t1,t2,t3,t4,t5,_⟩:=WT h hg e'.ro cs' us d' [] l'' aX (hl.mono (λi hi=>Xe _ (Xe _ hi))) Xcw kC;obtain⟨t6,_⟩:=(Waq e'.ro d' us ns (Wj0 e')).1 t1;have cU:=Enc_len _ _ _ t6;rw[WaV]at cU;rw[←aX.1,cU]at dC;refine⟨[],⟨rfl,_,rfl,WlK hg hole t6 hb hmem dC (hl id (by simp) aC) (hl p (by simp) cM)⟩,List.Pairwise.nil,by simp,by simp,?_,Leaf.none rfl⟩;intro j hj;rcases Xm.1 hj with rfl|hj
      .exact aC
      .rcases Xm.1 hj with rfl|hj
       .exact cM
       .exact t5 j hj
     .simp at ho
    .simp at ho
   .simp at ho
  .rename_i id lo hi;obtain⟨v,rfl,⟨_,g1,g2,g3,hv⟩,_⟩:=hc.single;subst hv;split at hf
   .rename_i e' xs aL;obtain⟨zs,aZ,hf⟩:=Xw.1 hf;have hf:=And.intro (Prod.mk.inj hf).1 (Prod.mk.inj (Prod.mk.inj hf).2);obtain⟨rfl,rfl,rfl⟩:=hf;obtain⟨he,hy⟩:=W1 aZ;subst he;simp only at hy;subst hy;have aC:Live objs id:=⟨_,aL,by simp⟩;have ax:OwnL w (TyRel G w e') e'.size (ν id) xs (φ id):=h.ob _ _ aL;have hsl:=WfC hg (hl id (by simp) aC) ax;refine⟨[],⟨rfl,_,rfl,?_⟩,List.Pairwise.nil,by simp,by simp,?_,Leaf.none rfl⟩
    .refine WlT (n:=e'.size) (λx c hc=>by rw[←WaV];exact Enc_len _ _ _ hc) hsl (by rw[Wec];exact ax.1) ax.2.1 g1 g2 g3 (λhb=>?_);cases hbb:(ν id).blk with
     |none=>exact absurd hbb hb
     |some b=>
      have:=ax.2.2;simp only[hbb]at this;exact⟨by rw[←ax.1];exact this.1,this.2.1⟩
    .intro i hi;simp at hi;subst hi;exact aC
   .simp at hf
  .simp only[Option.some.injEq,Prod.mk.injEq]at hf;obtain⟨rfl,rfl,rfl⟩:=hf;obtain⟨v,rfl,hv,_⟩:=hc.single;simp only[CellRel]at hv;subst hv;exact⟨[],⟨rfl,_,rfl,.inl ⟨rfl,rfl⟩⟩,List.Pairwise.nil,by simp,by simp,by simp,Leaf.none rfl⟩
  .rename_i c _ _ _;cases cJ:Wgu (.slice e) c with
   |none=>simp[cJ]at hf
   |some x=>
    simp only[cJ,Xbu,Option.some.injEq,Prod.mk.injEq]at hf;obtain⟨rfl,rfl,rfl⟩:=hf;obtain⟨v,rfl,hv,_⟩:=hc.single;exact⟨[],⟨rfl,Wew hg hv cJ⟩,List.Pairwise.nil,by simp,by simp,by simp,Leaf.none rfl⟩
  .simp at hf
 | .int k,cs,vs,d,m,l,hc,hl,aH,hf=>by
  simp only[WZ]at hf;split at hf
  .rename_i c;cases cJ:Wgu (.int k) c with
   |none=>simp[cJ]at hf
   |some x=>
    simp only[cJ,Xbu,Option.some.injEq,Prod.mk.injEq]at hf;obtain⟨rfl,rfl,rfl⟩:=hf;obtain⟨v,rfl,hv,_⟩:=hc.single;exact⟨[],⟨rfl,Wew hg hv cJ⟩,List.Pairwise.nil,by simp,by simp,by simp,Leaf.none rfl⟩
  .simp at hf
 | .bool,cs,vs,d,m,l,hc,hl,aH,hf=>by
  simp only[WZ]at hf;split at hf
  .rename_i c;cases cJ:Wgu .bool c with
   |none=>simp[cJ]at hf
   |some x=>
    simp only[cJ,Xbu,Option.some.injEq,Prod.mk.injEq]at hf;obtain⟨rfl,rfl,rfl⟩:=hf;obtain⟨v,rfl,hv,_⟩:=hc.single;exact⟨[],⟨rfl,Wew hg hv cJ⟩,List.Pairwise.nil,by simp,by simp,by simp,Leaf.none rfl⟩
  .simp at hf
 | .str,cs,vs,d,m,l,hc,hl,aH,hf=>by
  simp only[WZ]at hf;split at hf
  .rename_i c;cases cJ:Wgu .str c with
   |none=>simp[cJ]at hf
   |some x=>
    simp only[cJ,Xbu,Option.some.injEq,Prod.mk.injEq]at hf;obtain⟨rfl,rfl,rfl⟩:=hf;obtain⟨v,rfl,hv,_⟩:=hc.single;exact⟨[],⟨rfl,Wew hg hv cJ⟩,List.Pairwise.nil,by simp,by simp,by simp,Leaf.none rfl⟩
  .simp at hf
theorem Wi4(h:HRel w0 F G ν objs nx w){t:Ty}{cs:List Cell}{vs:List Value}{d:t.den}(hc:CellsRel G ν nx cs vs)(ht:t.data=true)(hf:WZ t cs objs=some (d,[],[])):Enc G t d vs:=by
 obtain⟨φ,h⟩:=h;obtain⟨ns,h1,_⟩:=WT (G':=G) h (λ_ _ _ hh=>hh) t cs vs d [] [] hc (λid bg=>by simp at bg) Xcw hf;exact((Waq t d vs ns ht).1 h1).1
end
end Go.Sx
namespace Go.Sx
set_option linter.unusedVariables false
set_option linter.unusedSimpArgs false
section
variable{w0:World}{F:CS}{nt:Slots}{G0 G G':GH}{ν ν':Nat->Nu}{φ:Nat->CS}{objs objs':WS}{nx ah:Nat}{st af:St}{a:Act}{w w':World}{P:Program}{T:Tab}{Γ:Ctx}
theorem WeU(i:Nat):∀(l:List Nat),Wba i l=true↔i∈l
 | []=>by simp[Wba]
 |j::l=>by
  simp only[Wba,Bool.or_eq_true,WeU i l,Xm];constructor
  .rintro(h|h)
   .exact .inl (Xbt h)
   .exact .inr h
  .rintro(h|h)
   .exact .inl (by subst h;exact Nat.beq_refl i)
   .exact .inr h
open Classical in
noncomputable def Wmn(G:GH)(w:World)(S:CS):GH:=λb o=>if S b o then w.cell? ⟨b,o,none⟩else G b o
theorem Wnf{S:CS}{b o:Nat}(h:S b o):Wmn G w S b o=w.cell? ⟨b,o,none⟩:=by unfold Wmn;rw[if_pos h]
theorem Wb0{S:CS}{b o:Nat}(h:¬S b o):Wmn G w S b o=G b o:=by unfold Wmn;rw[if_neg h]
theorem WfN(S:CS):Froz (Wmn G w S) w S:=λb o v hs hv=>by rw[Wnf hs];exact hv
theorem HR.addG_le(h:HR w0 F G ν φ objs nx w)(l:List Nat):GLe G (Wmn G w (FromL φ objs l)):=λb o v hv=>by
 by_cases hs:FromL φ objs l b o
 .obtain⟨i,_,h1,h2⟩:=hs;rw[h.gf i b o h1 h2]at hv;cases hv
 .rw[Wb0 hs];exact hv
theorem HR.addG_w(h:HR w0 F G ν φ objs nx w)(l:List Nat):∀b o v,Wmn G w (FromL φ objs l) b o=some v->w.cell? ⟨b,o,none⟩=some v:=λb o v hv=>by
 by_cases hs:FromL φ objs l b o
 .rw[Wnf hs]at hv;exact hv
 .rw[Wb0 hs]at hv;exact h.g b o v hv
theorem HRel.freezeL(h:HRel w0 F G ν objs nx w)(gx:GExt w0.heap.size F G0 G)(l:List Nat):∃G1,GLe G G1/\HRel w0 F G1 ν (Sx.kill objs l) nx w/\GExt w0.heap.size F G0 G1/\
  ∀id∈l,∀(e:Ty) (xs:List e.den),Wc objs id=some (.arr e xs)->WgF G1 (Enc G1 e.ro) (Wby e xs) (ν id).hdr:=by
 obtain⟨φ,h⟩:=h;have eO:=h.addG_le l;refine⟨Wmn G w (FromL φ objs l),eO,⟨φ,?_⟩,⟨λb o v hv=>eO b o v (gx.le b o v hv),λb o v hv=>?_⟩,λid bg e xs ho=>?_⟩
 .exact{
   g:=h.addG_w l
   ob:=λj ob hj=>by
    by_cases hd:ob= .dead
    .subst hd;trivial
    .obtain⟨hj,hn⟩:=Wc1 l j ob hj hd;exact Wcg eO (Same.refl _ w) (λ_ _ hh=>hh) (λ_ _=>rfl) (Xl _) (h.lt j ⟨ob,hj,hd⟩) ob (h.ob j ob hj)
   gf:=λj b o hj hp=>by
    obtain⟨hj,hn⟩:=Wcj hj;rw[Wb0 (λ⟨i,hi,h1,h2⟩=>hn (by rw[h.inj j i b o hj h1 hp h2];exact hi))];exact h.gf j b o hj hp
   inj:=λj j' b o hj hj'=>h.inj j j' b o (Wcj hj).1 (Wcj hj').1
   own:=λj b o hj=>h.own j b o (Wcj hj).1
   lt:=λj hj=>h.lt j (Wcj hj).1
   bl:=λj b o hj=>h.bl j b o (Wcj hj).1
   le:=h.le}
 .by_cases hs:FromL φ objs l b o
  .obtain⟨i,_,h1,h2⟩:=hs;exact .inr (h.own i b o h1 h2)
  .rw[Wb0 hs]at hv;exact gx.new b o v hv
 .exact WfC eO ((WfN _).mono (FromL.one bg ⟨_,ho,by simp⟩)) (h.ob _ _ ho)
structure Frz(w0:World)(F:CS)(nt:Slots)(G0 G:GH)(ν:Nat->Nu)(st:St)(l:List Nat)(a:Act)(w:World)(G1:GH):Prop where
 le:GLe G G1
 rel:Rel w0 F nt G0 G1 ν {env:=st.env,objs:=kill st.objs l,nx:=st.nx} a w
 sl:∀id∈l,∀(e:Ty) (xs:List e.den),Wc st.objs id=some (.arr e xs)->WgF G1 (Enc G1 e.ro) (Wby e xs) (ν id).hdr
theorem Rel.frz(h:Rel w0 F nt G0 G ν st a w)(l:List Nat):∃G1,Frz w0 F nt G0 G ν st l a w G1:=by
 obtain⟨G1,h1,h2,h3,h4⟩:=h.h.freezeL h.gx l;exact⟨G1,h1,h.on h1 (λ_ _=>rfl) (Xl _) h2 h3,h4⟩
theorem Frz.cell{l:List Nat}{G1:GH}(h:Frz w0 F nt G0 G ν st l a w G1):∀(c:Cell) (v:Value),CellRel G ν st.nx c v->CellRel G1 ν st.nx (Wig st.objs l c) v:=by
 have mono:=λc v (hc:CellRel G ν st.nx c v)=>CellRel.mono (G':=G1) (ν':=ν) (ah:=st.nx) h.le (λ_ _=>rfl) (Xl _) c v hc;intro c v hc;cases c with
 |own id=>
  simp only[Wig];cases he:Wba id l with
  |false=>exact mono _ v hc
  |true=>
   simp only[cond_true];have hm:=(WeU id l).1 he;split
   .rename_i e xs ho;obtain⟨_,hv⟩:=hc;rw[hv];exact⟨_,rfl,h.sl id hm e xs ho⟩
   .trivial
 |vw id lo hi=>exact mono _ v hc
 |val t d=>exact mono _ v hc
 |nils=>exact mono _ v hc
 |aptr id=>exact mono _ v hc
 |ptr id off=>exact mono _ v hc
 |eptr id i off=>exact mono _ v hc
 |rptr t d off=>exact mono _ v hc
 |clos f caps=>exact mono _ v hc
 |junk=>trivial
theorem Frz.val{l:List Nat}{G1:GH}(h:Frz w0 F nt G0 G ν st l a w G1):∀(x:AVal) (v:Value),AValRel G ν st.nx x v->AValRel G1 ν st.nx (Wfb st.objs l x) v
 | .s (.one c),v,hx=>⟨h.cell c v hx.1,hx.2⟩
 | .s (.agg cs),v,⟨vs,he,h1,h2⟩=>by
  refine⟨vs,he,by simp[h1],λj c u hc hu=>?_⟩;rw[Xak]at hc;obtain⟨d,hd,rfl⟩:=Xw.1 hc;exact⟨h.cell d u (h2 j d u hd hu).1,(h2 j d u hd hu).2⟩
 | .tup xs,v,hx=>AValRel.mono h.le (λ_ _=>rfl) (Xl _) (.tup xs) v hx
end
end Go.Sx
