/- The abstract machine, part 1: a reflective interpreter of the program's code over data, with its soundness over the model. -/
import Derived.WalkKit
import Derived.LoopN
import Derived.KernelRfl
import Derived.ProofKit
import Derived.OpenShut
import Derived.JoinedCond
open Nat renaming beq→Xbv,succ_mul→Xcc,add_comm→Xcs,add_assoc→Xar,lt_of_lt_of_le→Xbr,mul_le_mul_right→Xbk,min_eq_left→Xcg,le_refl→Xm,add_zero→Xaz,eq_of_beq_eq_true→Xcf,add_mul→Xcz,zero_le→Xbq,le_trans→Xct,le_succ→Xdl,lt_succ_self→Xbx,zero_add→Xbb
open List renaming length→Xa,getD→Xd,append→Xe,replicate→Xt,length_append→Xz,length_cons→Xr,drop_drop→Xdu,take_length_add_append→Xfk,drop_left→Xgi,getElem?_append→Xbc,getElem?_take→Xbn,getElem?_drop→Xbo,mem_append_left→Xk,mem_append_right→Xg,take_append_drop→Xdg,set_eq_take_append_cons_drop→Xep,getElem?_eq_some_iff→Xs,mem_cons_of_mem→Xf,mem_map_of_mem→Xal,mem_cons_self→Xi,mem_singleton→Xac,length_take→Xap,length_drop→Xdr,mem_cons→Xo,map_append→Xq,mem_append→Xn,getElem?_append_left→Xbd,getElem?_append_right→Xax,pairwise_cons→Xad,getElem?_eq_getElem→Xp,mapM_cons→Xfi,map_cons→Xai,getElem?_map→Xan,eq_nil_of_length_eq_zero→Xy,length_map→Xaf,map_nil→Xcj,map_toArray→Xdx,mem_map→Xu,pairwise_append→Xag,length_set→Xab,pairwise_singleton→Xbm,nodup_cons→Xaj,nodup_nil→Xdm
open Bool renaming and_eq_true→Xh
open Array renaming getElem?_toList→Xdf,ext'→Xgk,getElem?_setIfInBounds_ne→Xew,length_toList→Xav
open Option renaming map_some→Xch,map_eq_some_iff→Xx
namespace Go.Sx
inductive Ty where
 |int (k:IntKind)|bool|str|slice (e:Ty)|own (e:Ty)|prod (a b:Ty)
 deriving DecidableEq
def Ty.den:Ty->Type
 | .int _=>Int
 | .bool=>Bool
 | .str=>List UInt8
 | .slice e=>List e.den
 | .own e=>List e.den
 | .prod a b=>a.den×b.den
def Ty.size:Ty->Nat
 | .prod a b=>a.size+b.size
 |_=>1
def Ty.dflt:(t:Ty)->t.den
 | .int _=>(0:Int)
 | .bool=>false
 | .str=>([]:List UInt8)
 | .slice e=>([]:List e.den)
 | .own e=>([]:List e.den)
 | .prod a b=>(a.dflt,b.dflt)
def Ty.noRo:Ty->Bool
 | .slice _=>false
 | .own e=>e.noRo
 | .prod a b=>a.noRo&&b.noRo
 |_=>true
def Ty.ro:Ty->Ty
 | .own e=>.slice e.ro
 | .slice e=>.slice e
 | .prod a b=>.prod a.ro b.ro
 | .int k=>.int k
 | .bool=>.bool
 | .str=>.str
theorem Wd8:∀t:Ty,t.ro.den=t.den
 | .own e=>congrArg List (Wd8 e)
 | .slice _=>rfl
 | .prod a b=>by show(a.ro.den×b.ro.den)=(a.den×b.den);rw[Wd8 a,Wd8 b]
 | .int _| .bool| .str=>rfl
def WuK(t:Ty)(d:t.den):t.ro.den:=cast (Wd8 t).symm d
def Wcx(t:Ty)(l:List t.den):List t.ro.den:=cast (congrArg List (Wd8 t).symm) l
def WmY(t t':Ty)(d:t.den):Option t'.den:=
 if h:t=t' then some (h▸d)else none
def WfY(e e':Ty)(l:List e.den):Option (List e'.den):=
 if h:e=e' then some (h▸l)else none
inductive Cell where
 |val (t:Ty) (d:t.den)
 |nils
 |own (id:Nat)
 |vw (id lo hi:Nat)
 |aptr (id:Nat)
 |ptr (id off:Nat)
 |eptr (id i off:Nat)
 |rptr (t:Ty) (d:t.den) (off:Nat)
 |clos (f:FuncId) (caps:List Nat)
 |junk
inductive AV where
 |one (c:Cell)
 |agg (cs:List Cell)
inductive AVal where
 |s (x:AV)
 |tup (xs:List AV)
inductive Ob where
 |box (cs:List Cell)
 |arr (e:Ty) (xs:List e.den)
 |hole (e:Ty) (xs:List e.den) (i p:Nat)
 |dead
abbrev Wab:=List (Nat×Ob)
structure St where
 env:List (Nat×AVal)
 objs:Wab
 nx:Nat
universe u
def look{α:Type u}:List (Nat×α)->Nat->Option α
 | [],_=>none
 |(k,v)::l,i=>match Xbv k i with|true=>some v|false=>look l i
abbrev GH:=Nat->Nat->Option Value
abbrev CS:=Nat->Nat->Prop
def CS.disj(A B:CS):Prop:=∀b o,A b o->B b o->False
def CS.le(A B:CS):Prop:=∀b o,A b o->B b o
def rng(b lo n:Nat):CS:=λb' o=>b'=b/\lo<=o/\o<lo+n
def Sep(l:List CS):Prop:=l.Pairwise CS.disj
structure Nu where
 blk:Option Nat
 off:Nat
 len:Nat
 cap:Nat
 esz:Nat
def Nu.hdr(n:Nu):Value:=match n.blk with
 |none=>.slice none 0 0
 |some b=>.slice (some ⟨b,n.off,none⟩) n.len n.cap
def Nu.vhdr(n:Nu)(lo hi:Nat):Value:=match n.blk with
 |none=>.slice none 0 0
 |some b=>.slice (some ⟨b,if n.cap=lo then n.off else n.off+lo*n.esz,none⟩) (hi-lo) (n.cap-lo)
structure Pc where
 nu:Nu
 fp:CS
def Wfl(G:GH)(b off:Nat)(cs:List Value):Prop:=∀(j:Nat) (v:Value),cs[j]?=some v->G b (off+j)=some v
def EncL{α:Type}(R:α->List Value->Prop):List α->List Value->Prop
 | [],cs=>cs= []
 |x::l,cs=>∃c1 c2,cs=c1++c2/\R x c1/\EncL R l c2
def Wi4{α:Type}(G:GH)(R:α->List Value->Prop)(l:List α)(v:Value):Prop:=
 (v= .slice none 0 0/\l= [])\/
 (∃b off cap cs,v= .slice (some ⟨b,off,none⟩) l.length cap/\l.length<=cap/\cap<=maxLen/\EncL R l cs/\Wfl G b off cs)\/
 ∃a cap,v= .slice (some a) 0 cap/\l= []
def Enc(G:GH):(t:Ty)->t.den->List Value->Prop
 | .int k,n,cs=>cs= [.int k n]
 | .bool,b,cs=>cs= [.bool b]
 | .str,s,cs=>cs= [.string ⟨List.toArray s⟩]
 | .slice e,l,cs=>∃v,cs= [v]/\Wi4 G (Enc G e) l v
 | .own _,_,_=>False
 | .prod a b,d,cs=>∃c1 c2,cs=c1++c2/\Enc G a d.1 c1/\Enc G b d.2 c2
def CellRel(G:GH)(ν:Nat->Nu)(nx:Nat):Cell->Value->Prop
 | .val t d,v=>Enc G t d [v]
 | .nils,v=>v= .slice none 0 0
 | .own id,v=>id<nx/\v=(ν id).hdr
 | .vw id lo hi,v=>id<nx/\lo<=hi/\hi<=(ν id).len/\((ν id).blk=none->hi=0)/\v=(ν id).vhdr lo hi
 | .aptr id,v=>id<nx/\∃b,(ν id).blk=some b/\v= .pointer (some ⟨b,(ν id).off,none⟩)
 | .ptr id off,v=>id<nx/\∃b,(ν id).blk=some b/\v= .pointer (some ⟨b,(ν id).off+off,none⟩)
 | .eptr id i off,v=>id<nx/\i<(ν id).len/\∃b,(ν id).blk=some b/\v= .pointer (some ⟨b,(ν id).off+(i*(ν id).esz+off),none⟩)
 | .rptr t d off,v=>∃b o cs,v= .pointer (some ⟨b,o+off,none⟩)/\Enc G t d cs/\Wfl G b o cs
 | .clos f caps,v=>∃vs:List Value,v= .func (.func f) #[] vs.toArray/\vs.length=caps.length/\
   ∀(j id:Nat) (u:Value),caps[j]?=some id->vs[j]?=some u->id<nx/\u.oneCell'=true/\∃b,(ν id).blk=some b/\u= .pointer (some ⟨b,(ν id).off+0,none⟩)
 | .junk,_=>True
def CellsRel(G:GH)(ν:Nat->Nu)(nx:Nat)(cs:List Cell)(vs:List Value):Prop:=
 vs.length=cs.length/\∀(j:Nat) (c:Cell) (v:Value),cs[j]?=some c->vs[j]?=some v->CellRel G ν nx c v/\v.oneCell'=true
def AvRel(G:GH)(ν:Nat->Nu)(nx:Nat):AV->Value->Prop
 | .one c,v=>CellRel G ν nx c v/\v.oneCell'=true
 | .agg cs,v=>∃vs:List Value,v= .agg vs.toArray/\CellsRel G ν nx cs vs
def Wr2(G:GH)(ν:Nat->Nu)(nx:Nat)(xs:List AV)(vs:List Value):Prop:=
 vs.length=xs.length/\∀(j:Nat) (x:AV) (v:Value),xs[j]?=some x->vs[j]?=some v->AvRel G ν nx x v
def AValRel(G:GH)(ν:Nat->Nu)(nx:Nat):AVal->Value->Prop
 | .s x,v=>AvRel G ν nx x v
 | .tup xs,v=>∃vs:List Value,v= .tuple vs.toArray/\Wr2 G ν nx xs vs
def Row(w:World)(b n:Nat):Prop:=∃vs T,w.heap[b]?=some (.cells vs T (0,0))/\n<=vs.size
def Mem(w:World)(b o:Nat)(vs:List Value):Prop:=∀(j:Nat) (v:Value),vs[j]?=some v->w.cell? ⟨b,o+j,none⟩=some v
def EncP{α:Type}(R:α->List Value->List Pc->Prop):List α->List Value->List Pc->Prop
 | [],cs,ps=>cs= []/\ps= []
 |x::l,cs,ps=>∃c1 c2 p1 p2,cs=c1++c2/\ps=p1++p2/\R x c1 p1/\EncP R l c2 p2
def OwnL{α:Type}(w:World)(R:α->List Value->List Pc->Prop)(n:Nat)(nu:Nu)(xs:List α)(S:CS):Prop:=
 xs.length=nu.len/\nu.esz=n/\match nu.blk with
  |none=>xs= []
  |some b=>xs.length<=nu.cap/\nu.cap<=maxLen/\Row w b (nu.off+nu.cap*n)/\∃cs ps,EncP R xs cs ps/\Mem w b nu.off cs/\
    Sep (rng b nu.off (nu.cap*n)::ps.map Pc.fp)/\∀s∈rng b nu.off (nu.cap*n)::ps.map Pc.fp,CS.le s S
def TyRel(G:GH)(w:World):(t:Ty)->t.den->List Value->List Pc->Prop
 | .own e,xs,vs,ns=>∃p:Pc,ns= [p]/\vs= [p.nu.hdr]/\OwnL w (TyRel G w e) e.size p.nu xs p.fp
 | .prod a b,d,vs,ns=>∃v1 v2 n1 n2,vs=v1++v2/\ns=n1++n2/\TyRel G w a d.1 v1 n1/\TyRel G w b d.2 v2 n2
 | .int k,d,vs,ns=>ns= []/\Enc G (.int k) d vs
 | .bool,d,vs,ns=>ns= []/\Enc G .bool d vs
 | .str,d,vs,ns=>ns= []/\Enc G .str d vs
 | .slice e,d,vs,ns=>ns= []/\Enc G (.slice e) d vs
def WhI{α:Type}(w:World)(R:α->List Value->List Pc->Prop)(n:Nat)(nu np:Nu)(xs:List α)(i:Nat)(S:CS):Prop:=
 xs.length=nu.len/\nu.esz=n/\i<xs.length/\∃b,nu.blk=some b/\np.blk=some b/\np.off=nu.off+i*n/\xs.length<=nu.cap/\nu.cap<=maxLen/\Row w b (nu.off+nu.cap*n)/\
  ∃c1 c2 p1 p2,EncP R (xs.take i) c1 p1/\EncP R (xs.drop (i+1)) c2 p2/\Mem w b nu.off c1/\Mem w b (nu.off+(i+1)*n) c2/\
   Sep (rng b nu.off (i*n)::rng b (nu.off+(i+1)*n) ((nu.cap-(i+1))*n)::(p1++p2).map Pc.fp)/\
   ∀s∈rng b nu.off (i*n)::rng b (nu.off+(i+1)*n) ((nu.cap-(i+1))*n)::(p1++p2).map Pc.fp,CS.le s S
def Wcv(G:GH)(ν:Nat->Nu)(nx:Nat)(w:World)(id:Nat)(S:CS):Ob->Prop
 | .box cs=>∃b vs,(ν id).blk=some b/\Row w b ((ν id).off+cs.length)/\Mem w b (ν id).off vs/\CellsRel G ν nx cs vs/\CS.le (rng b (ν id).off cs.length) S
 | .arr e xs=>OwnL w (TyRel G w e) e.size (ν id) xs S
 | .hole e xs i p=>p<nx/\WhI w (TyRel G w e) e.size (ν id) (ν p) xs i S
 | .dead=>True
def Live(objs:Wab)(id:Nat):Prop:=∃ob,look objs id=some ob/\ob≠ .dead
structure WLe(F:CS)(w w':World):Prop where
 size:w.heap.size<=w'.heap.size
 row:∀(b:Nat) (vs:Array Value) (T:TypeId),w.heap[b]?=some (Obj.cells vs T (0,0))->∃vs':Array Value,w'.heap[b]?=some (Obj.cells vs' T (0,0))/\vs'.size=vs.size
 cell:∀(b o:Nat),b<w.heap.size->¬F b o->w'.cell? ⟨b,o,none⟩=w.cell? ⟨b,o,none⟩
 whole:∀(b:Nat),b<w.heap.size->(∀o,¬F b o)->w'.heap[b]?=w.heap[b]?
 os:w'.os=w.os
 output:w'.output=w.output
 tape:w'.tape=w.tape
structure HR(w0:World)(F:CS)(G:GH)(ν:Nat->Nu)(φ:Nat->CS)(objs:Wab)(nx:Nat)(w:World):Prop where
 g:∀b o v,G b o=some v->w.cell? ⟨b,o,none⟩=some v
 ob:∀id ob,look objs id=some ob->Wcv G ν nx w id (φ id) ob
 gf:∀id b o,Live objs id->φ id b o->G b o=none
 inj:∀id bG b o,Live objs id->Live objs bG->φ id b o->φ bG b o->id=bG
 own:∀id b o,Live objs id->φ id b o->w0.heap.size<=b\/F b o
 lt:∀id,Live objs id->id<nx
 bl:∀id b o,Live objs id->φ id b o->b<w.heap.size
 le:WLe F w0 w
def HRel(w0:World)(F:CS)(G:GH)(ν:Nat->Nu)(objs:Wab)(nx:Nat)(w:World):Prop:=∃φ,HR w0 F G ν φ objs nx w
structure GExt(B:Nat)(F:CS)(G G':GH):Prop where
 le:∀b o v,G b o=some v->G' b o=some v
 new:∀b o v,G' b o=some v->G b o=some v\/B<=b\/F b o
structure Slots where
 n:Nat
 kept:List (Nat×Value)
def Slots.Ok(s:Slots)(d:Nat):Prop:=d<s.n/\∀p∈s.kept,p.1≠d
structure Rel(w0:World)(F:CS)(nt:Slots)(G0:GH)(G:GH)(ν:Nat->Nu)(st:St)(a:Act)(w:World):Prop where
 defers:a.defers= []
 ntm:a.tmps.size=nt.n
 par:∀p∈nt.kept,a.tmps[p.1]?=some p.2
 env:∀i x,look st.env i=some x->∃v,a.tmps[i]?=some v/\AValRel G ν st.nx x v
 h:HRel w0 F G ν st.objs st.nx w
 gx:GExt w0.heap.size F G0 G
end Go.Sx
namespace Go.Sx
set_option linter.unusedVariables false
inductive Shape where
 |basic|slice (e:TypeId)|struct (fs:List (Nat×TypeId))|ptr (e:TypeId)|arr (n:Nat) (e:TypeId)
structure TE where
 ty:Ty
 agg:Bool
 shape:Shape
abbrev Tab:=List (TypeId×TE)
def TE.plain(te:TE):Bool:=match te.shape with
 | .arr _ _=>false
 |_=>true
def We(k:IntKind)(a b:Int):Int:=k.wrap (a+b)
def WU(k:IntKind)(a b:Int):Int:=k.wrap (a-b)
def Wi2(k:IntKind)(a b:Int):Int:=k.wrap (a*b)
def WkQ(k:IntKind)(a b:Int):Int:=k.wrap (a.tdiv b)
def Wd5(a b:Int):Int:=a.tmod b
def WuQ(k:IntKind)(a b:Int):Int:=k.wrap (BitVec.ofInt k.bits a&&&BitVec.ofInt k.bits b).toNat
def ior(k:IntKind)(a b:Int):Int:=k.wrap (BitVec.ofInt k.bits a|||BitVec.ofInt k.bits b).toNat
def Wv6(k:IntKind)(a b:Int):Int:=k.wrap (BitVec.ofInt k.bits a^^^BitVec.ofInt k.bits b).toNat
def WwU(k:IntKind)(a b:Int):Int:=k.wrap (BitVec.ofInt k.bits a&&& ~~~BitVec.ofInt k.bits b).toNat
def Ww5(k:IntKind)(a b:Int):Int:=k.wrap (a*2^(min b.toNat k.bits))
def WsD(k:IntKind)(a b:Int):Int:=a.fdiv (2^(min b.toNat k.bits))
def Wet(a b:List UInt8):Bool:=!decide (((a.length+b.length:Nat):Int)>IntKind.i64.max)
def Wb{α:Type}(l:List α):Int:=(l.length:Int)
def inb(i:Int)(n:Nat):Bool:=decide (0<=i)&&decide (i<(n:Int))
def Ww(n:Nat):Bool:=decide (n<=1073741824)
def WcB(l:List Int):List UInt8:=l.map λn=>UInt8.ofNat n.toNat
def ieq(a b:Int):Bool:=a==b
def beq(a b:Bool):Bool:=a==b
def seq(a b:List UInt8):Bool:=a==b
def inz(b:Int):Bool:=!decide (b=0)
def inn(b:Int):Bool:=!decide (b<0)
def one(t:Ty)(d:t.den):AVal:=.s (.one (.val t d))
def Ww8(op:BinOp)(k:IntKind)(a b:Int):Option (Bool×AVal):=
 match op with
 | .add=>some (true,one (.int k) (We k a b))
 | .sub=>some (true,one (.int k) (WU k a b))
 | .mul=>some (true,one (.int k) (Wi2 k a b))
 | .quo=>some (inz b,one (.int k) (WkQ k a b))
 | .rem=>some (inz b,one (.int k) (Wd5 a b))
 | .and=>some (true,one (.int k) (WuQ k a b))
 | .or=>some (true,one (.int k) (ior k a b))
 | .xor=>some (true,one (.int k) (Wv6 k a b))
 | .andNot=>some (true,one (.int k) (WwU k a b))
 | .eql=>some (true,one .bool (a==b))
 | .neq=>some (true,one .bool (a !=b))
 | .lss=>some (true,one .bool (decide (a<b)))
 | .leq=>some (true,one .bool (decide (a<=b)))
 | .gtr=>some (true,one .bool (decide (a>b)))
 | .geq=>some (true,one .bool (decide (a>=b)))
 |_=>none
def WwT(op:BinOp)(a b:List UInt8):Option (Bool×AVal):=
 match op with
 | .add=>some (Wet a b,one .str (a++b))
 | .eql=>some (true,one .bool (seq a b))
 | .neq=>some (true,one .bool (!seq a b))
 |_=>none
def Wk2(te:TE)(c d:Cell):Option Bool:=
 match te,c,d with
 |⟨.int _,false,.basic⟩,.val (.int k) a,.val (.int k') b=>if k=k' then some (ieq a b)else none
 |⟨.bool,false,.basic⟩,.val .bool a,.val .bool b=>some (beq a b)
 |⟨.str,false,.basic⟩,.val .str a,.val .str b=>some (seq a b)
 |_,_,_=>none
def WcW(T:Tab):List TypeId->List Cell->List Cell->Option Bool
 | [],[],[]=>some true
 |t::ts,c::cs,d::ds=>match look T t with
  |some te=>match Wk2 te c d,WcW T ts cs ds with
   |some x,some y=>some (x&&y)
   |_,_=>none
  |none=>none
 |_,_,_=>none
def binOp(T:Tab)(op:BinOp)(t:TypeId)(x y:AVal):Option (Bool×AVal):=
 match x,y with
 | .s (.one (.val (.int k) a)),.s (.one (.val (.int k') b))=>
  match op with
  | .shl=>some (inn b,one (.int k) (Ww5 k a b))
  | .shr=>some (inn b,one (.int k) (WsD k a b))
  |_=>if k=k' then Ww8 op k a b else none
 | .s (.one (.val .str a)),.s (.one (.val .str b))=>WwT op a b
 | .s (.one (.val .bool a)),.s (.one (.val .bool b))=>
  match look T t with
  |some ⟨.bool,false,.basic⟩=>
   match op with
   | .eql=>some (true,one .bool (beq a b))
   | .neq=>some (true,one .bool (!beq a b))
   |_=>none
  |_=>none
 | .s (.agg cs),.s (.agg ds)=>
  match look T t with
  |some ⟨_,true,.struct fs⟩=>
   if decide (fs.map (·.1)=List.range fs.length)then
    match op,WcW T (fs.map (·.2)) cs ds with
    | .eql,some b=>some (true,one .bool b)
    | .neq,some b=>some (true,one .bool (!b))
    |_,_=>none
   else none
  |_=>none
 |_,_=>none
def unOp(op:UnOp)(x:AVal):Option (Bool×AVal):=
 match op,x with
 | .not,.s (.one (.val .bool b))=>some (true,one .bool (!b))
 | .neg,.s (.one (.val (.int k) n))=>some (true,one (.int k) (WU k 0 n))
 |_,_=>none
def split:(t:Ty)->t.den->List Cell
 | .prod a b,d=>split a d.1++split b d.2
 | .int k,d=>[.val (.int k) d]
 | .bool,d=>[.val .bool d]
 | .str,d=>[.val .str d]
 | .slice e,d=>[.val (.slice e) d]
 | .own e,d=>[.junk]
def Waj:Value->Option Cell
 | .int k n=>some (.val (.int k) n)
 | .bool b=>some (.val .bool b)
 | .string s=>some (.val .str s.data.toList)
 | .slice none 0 0=>some .nils
 | .pointer none=>some .junk
 | .nilFunc=>some .junk
 |_=>none
def Wr5:Value->Option AVal
 | .agg cs=>(cs.toList.mapM Waj).map λl=>.s (.agg l)
 |v=>(Waj v).map λc=>.s (.one c)
def ev(st:St):Operand->Option AVal
 | .tmp t=>look st.env t
 | .const v=>Wr5 v
 | .func f=>some (.s (.one (.clos f [])))
 | .global _=>none
def St.put(st:St)(dst:Option Tmp)(x:AVal):St:=
 match dst with
 |some d=>{st with env:=(d,x)::st.env}
 |none=>st
def sub(agg:Bool)(cs:List Cell)(off n:Nat):Option AVal:=
 if agg then(if off+n<=cs.length then some (.s (.agg ((cs.drop off).take n)))else none)
 else(cs[off]?).map λc=>.s (.one c)
def Whh(T:Tab)(st:St)(t:TypeId)(x:AVal):Option AVal:=
 match look T t with
 |some te=>
  if te.plain then
   match x with
   | .s (.one (.ptr id off))=>match look st.objs id with
    |some (.box cs)=>sub te.agg cs off te.ty.size
    |_=>none
   | .s (.one (.eptr id i off))=>match look st.objs id with
    |some (.arr e xs)=>sub te.agg (split e (xs.getD i e.dflt)) off te.ty.size
    |_=>none
   | .s (.one (.rptr t' d off))=>sub te.agg (split t' d) off te.ty.size
   |_=>none
  else none
 |none=>none
def Wux(k:IntKind)(xs:List Int):Nat->Nat->List Cell
 |_,0=>[]
 |i,n+1=>.val (.int k) (xs.getD i (0:Int))::Wux k xs (i+1) n
def WfH(T:Tab)(st:St)(t:TypeId)(x:AVal):Option (Bool×AVal):=
 match look T t with
 |some ⟨.int k,true,.arr n _⟩=>match x with
  | .s (.one (.aptr id))=>match look st.objs id with
   |some (.arr (.int k') xs)=>if k'=k then some (decide (Xa xs=n),.s (.agg (Wux k xs 0 n)))else none
   |_=>none
  |_=>none
 |_=>none
def WbE(k:IntKind):List Cell->Option (List Int)
 | []=>some []
 | .val (.int k') d::cs=>if k'=k then(WbE k cs).map λl=>(d:Int)::l else none
 |_=>none
def asI:AVal->Option Int
 | .s (.one (.val (.int _) n))=>some n
 |_=>none
def asB:AVal->Option Bool
 | .s (.one (.val .bool b))=>some b
 |_=>none
def obL(o:Option Ob):Option (Bool×AVal):=match o with
 |some (.arr _ xs)=>some (true,one (.int .i64) (Wb xs))
 |some (.hole _ xs _ _)=>some (true,one (.int .i64) (Wb xs))
 |_=>none
def Wjb(T:Tab)(st:St)(t:TypeId)(x:AVal):Option (Bool×AVal):=
 match look T t,x with
 |some ⟨_,false,.slice _⟩,.s (.one (.val (.slice _) l))=>some (true,one (.int .i64) (Wb l))
 |some ⟨_,false,.slice _⟩,.s (.one .nils)=>some (true,one (.int .i64) (0:Int))
 |some ⟨_,false,.slice _⟩,.s (.one (.own id))=>obL (look st.objs id)
 |some ⟨_,false,.slice _⟩,.s (.one (.vw _ lo hi))=>some (true,one (.int .i64) ((hi-lo:Nat):Int))
 |some ⟨.str,false,.basic⟩,.s (.one (.val .str s))=>some (true,one (.int .i64) (Wb (α:=UInt8) s))
 |_,_=>none
def WgB(T:Tab)(t:TypeId)(f:Nat):Option (Nat×TE):=
 match look T t with
 |some ⟨_,_,.struct fs⟩=>match fs[f]? with
  |some (off,ft)=>match look T ft with
   |some te=>if te.plain then some (off,te)else none
   |none=>none
  |none=>none
 |_=>none
def Wb5(T:Tab)(st:St)(t:TypeId)(x:AVal)(f:Nat):Option (Bool×AVal):=
 match WgB T t f,x with
 |some (off,_),.s (.one (.ptr id o))=>match look st.objs id with
  |some (.box _)=>some (true,.s (.one (.ptr id (o+off))))
  |_=>none
 |some (off,_),.s (.one (.eptr id i o))=>match look st.objs id with
  |some (.arr _ _)=>some (true,.s (.one (.eptr id i (o+off))))
  |_=>none
 |some (off,_),.s (.one (.rptr t' d o))=>some (true,.s (.one (.rptr t' d (o+off))))
 |_,_=>none
def Wno(T:Tab)(t:TypeId)(x:AVal)(f:Nat):Option (Bool×AVal):=
 match WgB T t f,x with
 |some (off,te),.s (.agg cs)=>(sub te.agg cs off te.ty.size).map λv=>(true,v)
 |_,_=>none
def obI(te:TE)(n:Int)(id:Nat)(o:Option Ob):Option (Bool×AVal):=match o with
 |some (.arr e xs)=>if te.ty=e.ro then some (inb n xs.length,.s (.one (.eptr id n.toNat 0)))else none
 |some (.hole e xs i p)=>if te.ty=e.ro then some (inb n xs.length&&Xbv n.toNat i,.s (.one (.ptr p 0)))else none
 |_=>none
def Wv7(te:TE)(n:Int)(id lo hi:Nat)(o:Option Ob):Option (Bool×AVal):=match o with
 |some (.arr e xs)=>if te.ty=e.ro then some (inb n (hi-lo),.s (.one (.eptr id (lo+n.toNat) 0)))else none
 |_=>none
def Wv8(te:TE)(n:Int)(k:Nat)(id:Nat)(o:Option Ob):Option (Bool×AVal):=match o with
 |some (.arr e xs)=>if te.ty=e then some (inb n k&&decide (xs.length=k),.s (.one (.eptr id n.toNat 0)))else none
 |_=>none
def Wb4(T:Tab)(st:St)(t:TypeId)(x i:AVal):Option (Bool×AVal):=
 match look T t,asI i with
 |some ⟨_,_,.slice et⟩,some n=>match look T et with
  |some te=>
   if te.plain then match x with
    | .s (.one (.val (.slice e) l))=>if te.ty=e then some (inb n (Xa l),.s (.one (.rptr e (Xd l n.toNat e.dflt) 0)))else none
    | .s (.one .nils)=>some (false,.s (.one .junk))
    | .s (.one (.own id))=>obI te n id (look st.objs id)
    | .s (.one (.vw id lo hi))=>Wv7 te n id lo hi (look st.objs id)
    |_=>none
   else none
  |none=>none
 |some ⟨_,_,.arr k et⟩,some n=>match look T et with
  |some te=>
   if te.plain then match x with
    | .s (.one (.aptr id))=>Wv8 te n k id (look st.objs id)
    |_=>none
   else none
  |none=>none
 |_,_=>none
def WnA(T:Tab)(t:TypeId)(x i:AVal):Option (Bool×AVal):=
 match look T t,x,asI i with
 |some ⟨.str,_,.basic⟩,.s (.one (.val .str s)),some n=>some (inb n (Xa s),one (.int .u8) ((Xd s n.toNat 0).toNat:Int))
 |some ⟨.int k,_,.arr m et⟩,.s (.agg cs),some n=>match look T et with
  |some ⟨.int k',false,.basic⟩=>match WbE k cs with
   |some l=>if k'=k/\cs.length=m then some (inb n m,one (.int k) (Xd l n.toNat (0:Int)))else none
   |none=>none
  |_=>none
 |_,_,_=>none
def WcG(n:Nat)(lo hi:Option Int):Bool×Nat×Nat:=
 match lo,hi with
 |none,none=>(true,0,n)
 |some l,none=>(decide (0<=l)&&decide (l<=(n:Int)),l.toNat,n)
 |none,some h=>(decide (0<=h)&&decide (h<=(n:Int)),0,h.toNat)
 |some l,some h=>(decide (0<=h)&&decide (h<=(n:Int))&&decide (0<=l)&&decide (l<=h),l.toNat,h.toNat)
def WuC{α:Type}(l:List α)(lo hi:Option Int):List α:=
 match lo,hi with
 |none,none=>l
 |some a,none=>l.drop a.toNat
 |none,some b=>l.take b.toNat
 |some a,some b=>(l.take b.toNat).drop a.toNat
def WlH(st:St):Option Operand->Option (Option Int)
 |none=>some none
 |some x=>((ev st x).bind asI).map some
def Wlj(T:Tab)(st:St)(t:TypeId)(x:AVal)(lo hi:Option Operand):Option (Bool×AVal):=
 match look T t,x,WlH st lo,WlH st hi with
 |some ⟨.str,_,.basic⟩,.s (.one (.val .str s)),some l,some h=>some ((WcG (Xa s) l h).1,one .str (WuC s l h))
 |some ⟨_,_,.slice et⟩,.s (.one (.val (.slice e) xs)),some l,some h=>match look T et with
  |some te=>if te.ty=e/\te.plain then some ((WcG (Xa xs) l h).1,one (.slice e) (WuC xs l h))else none
  |none=>none
 |_,_,_,_=>none
def Wtn(st:St):AVal->Option Ob
 | .s (.one (.own id))=>look st.objs id
 |_=>none
def Wwd(T:Tab)(o:Option Ob)(src dst:TypeId)(x:AVal):Option (Bool×AVal):=
 match look T src,look T dst,x with
 |some ⟨.int _,false,.basic⟩,some ⟨.int k,false,.basic⟩,.s (.one (.val (.int _) n))=>some (true,one (.int k) (k.wrap n))
 |some ⟨.str,false,.basic⟩,some ⟨.str,false,.basic⟩,.s (.one (.val .str s))=>some (true,one .str s)
 |some ⟨_,_,.slice et⟩,some ⟨.str,false,.basic⟩,.s (.one c)=>
  match look T et with
  |some ⟨.int .u8,false,.basic⟩=>match c with
   | .val (.slice (.int .u8)) l=>some (true,one .str (WcB l))
   | .nils=>some (true,one .str ([]:List UInt8))
   | .own _=>match o with
    |some (.arr (.int .u8) xs)=>some (true,one .str (WcB xs))
    |_=>none
   |_=>none
  |_=>none
 |_,_,_=>none
def WjQ(T:Tab)(st:St)(src dst:TypeId)(x:AVal):Option (Bool×AVal):=Wwd T (Wtn st x) src dst x
def Wqq(st:St)(x:AVal):Option (Bool×AVal):=
 match x with
 | .s (.one (.rptr _ _ _))=>some (true,x)
 | .s (.one (.ptr id _))=>match look st.objs id with
  |some (.box _)=>some (true,x)
  |_=>none
 | .s (.one (.eptr id _ _))| .s (.one (.aptr id))=>match look st.objs id with
  |some (.arr _ _)=>some (true,x)
  |_=>none
 |_=>none
def Wgz(st:St):List Operand->Option (List Nat)
 | []=>some []
 |o::l=>match ev st o,Wgz st l with
  |some (.s (.one (.ptr id 0))),some r=>some (id::r)
  |_,_=>none
def Wxc(a b:Int):Int:=if b<a then b else a
def Wv3(a b:Int):Int:=if a<b then b else a
def Wad(T:Tab)(st:St):Op->Option (Bool×AVal)
 | .move x| .assign x=>(ev st x).map λv=>(true,v)
 | .pick c a b=>match(ev st c).bind asB with
  |some p=>match ev st a,ev st b with
   |some (.s (.one (.val .bool x))),some (.s (.one (.val .bool y)))=>some (true,one .bool (bif p then x else y))
   |va,vb=>(bif p then va else vb).map λv=>(true,v)
  |none=>none
 | .load t a=>(ev st a).bind λv=>match WfH T st t v with
  |some r=>some r
  |none=>(Whh T st t v).map λr=>(true,r)
 | .nilCheck x=>(ev st x).bind (Wqq st)
 | .binOp op t x y _=>match ev st x,ev st y with
  |some a,some b=>binOp T op t a b
  |_,_=>none
 | .unOp op _ x=>(ev st x).bind (unOp op)
 | .convert src dst x=>(ev st x).bind (WjQ T st src dst)
 | .slice t x lo hi none=>(ev st x).bind λv=>Wlj T st t v lo hi
 | .fieldAddr s x f=>(ev st x).bind λv=>Wb5 T st s v f
 | .field t x f=>(ev st x).bind λv=>Wno T t v f
 | .indexAddr t x i=>match ev st x,ev st i with
  |some a,some b=>Wb4 T st t a b
  |_,_=>none
 | .index t x i=>match ev st x,ev st i with
  |some a,some b=>WnA T t a b
  |_,_=>none
 | .extract t ix=>match ev st t with
  |some (.tup xs)=>(xs[ix]?).map λx=>(true,.s x)
  |_=>none
 | .makeFunc (.func f) first captured=>if first.isEmpty then(Wgz st captured.toList).map λids=>(true,.s (.one (.clos f ids)))else none
 | .call c=>match c.callee,c.args.toList,c.argTypes.toList with
  | .builtin .len,[x],[t]=>(ev st x).bind (Wjb T st t)
  | .builtin .min,[x,y],[_,_]=>match ev st x,ev st y with
   |some (.s (.one (.val (.int k) a))),some (.s (.one (.val (.int k') b)))=>if k=k' then some (true,one (.int k) (Wxc a b))else none
   |_,_=>none
  | .builtin .max,[x,y],[_,_]=>match ev st x,ev st y with
   |some (.s (.one (.val (.int k) a))),some (.s (.one (.val (.int k') b)))=>if k=k' then some (true,one (.int k) (Wv3 a b))else none
   |_,_=>none
  |_,_,_=>none
 |_=>none
def WeG:Ty->List Cell
 | .prod a b=>WeG a++WeG b
 | .int k=>[.val (.int k) (0:Int)]
 | .bool=>[.val .bool false]
 | .str=>[.val .str ([]:List UInt8)]
 | .slice _=>[.nils]
 | .own _=>[.junk]
def Ty.data:Ty->Bool
 | .own _=>false
 | .prod a b=>a.data&&b.data
 |_=>true
def unfold:(t:Ty)->t.den->Nat->List Cell×Wab×Nat
 | .prod a b,d,nx=>
  let x:=unfold a d.1 nx
  let y:=unfold b d.2 x.2.2
  (x.1++y.1,x.2.1++y.2.1,y.2.2)
 | .own e,d,nx=>([.own nx],[(nx,.arr e d)],nx+1)
 | .int k,d,nx=>([.val (.int k) d],[],nx)
 | .bool,d,nx=>([.val .bool d],[],nx)
 | .str,d,nx=>([.val .str d],[],nx)
 | .slice e,d,nx=>([.val (.slice e) d],[],nx)
def Wi8(t:Ty)(c:Cell):Option t.den:=
 match c with
 | .val t' d=>WmY t' t d
 |_=>none
def Wtb(e:Ty)(objs:Wab)(fc:List Cell->Option (e.den×List Nat×List Nat))(id:Nat):Option (List e.den×List Nat):=
 match look objs id with
 |some (.arr e' xs)=>(WfY e' e xs).map λys=>(ys,[id])
 |some (.hole e' xs i p)=>match WfY e' e xs,look objs p with
  |some ys,some (.box cs)=>match fc cs with
   |some (d,m,[])=>some (ys.set i d,id::p::m)
   |_=>none
  |_,_=>none
 |_=>none
def Wuw(e:Ty)(objs:Wab)(fc:List Cell->Option (e.den×List Nat×List Nat))(id:Nat):Option (List e.den×List Nat):=
 match look objs id with
 |some (.arr e' xs)=>(WfY e'.ro e (Wcx e' xs)).map λys=>(ys,[id])
 |some (.hole e' xs i p)=>match WfY e'.ro e (Wcx e' xs),look objs p with
  |some ys,some (.box cs)=>match fc cs with
   |some (d,[],l)=>some (ys.set i d,id::p::l)
   |_=>none
  |_,_=>none
 |_=>none
def Wap:(t:Ty)->List Cell->Wab->Option (t.den×List Nat×List Nat)
 | .prod a b,cs,objs=>match Wap a (cs.take a.size) objs,Wap b (cs.drop a.size) objs with
  |some (x,m,r),some (y,m',r')=>some ((x,y),m++m',r++r')
  |_,_=>none
 | .own e,cs,objs=>match cs with
  | [.own id]=>(Wtb e objs (λcs=>Wap e cs objs) id).map λp=>(p.1,p.2,[])
  | [.vw id lo hi]=>match look objs id with
   |some (.arr e' xs)=>(WfY e' e xs).map λys=>((ys.take hi).drop lo,[id],[])
   |_=>none
  | [.nils]=>some (([]:List e.den),[],[])
  |_=>none
 | .slice e,cs,objs=>match cs with
  | [.own id]=>(Wuw e objs (λcs=>Wap e cs objs) id).map λp=>(p.1,[],p.2)
  | [.vw id lo hi]=>match look objs id with
   |some (.arr e' xs)=>(WfY e'.ro e (Wcx e' xs)).map λys=>((ys.take hi).drop lo,[],[id])
   |_=>none
  | [.nils]=>some (([]:List e.den),[],[])
  | [c]=>(Wi8 (.slice e) c).map λd=>(d,[],[])
  |_=>none
 | .int k,cs,_=>match cs with
  | [c]=>(Wi8 (.int k) c).map λd=>(d,[],[])
  |_=>none
 | .bool,cs,_=>match cs with
  | [c]=>(Wi8 .bool c).map λd=>(d,[],[])
  |_=>none
 | .str,cs,_=>match cs with
  | [c]=>(Wi8 .str c).map λd=>(d,[],[])
  |_=>none
def WbS(i:Nat):List Nat->Bool
 | []=>false
 |j::l=>Xbv i j||WbS i l
def Wbm:List Nat->Bool
 | []=>true
 |i::l=>!WbS i l&&Wbm l
def eqN:List Nat->List Nat->Bool
 | [],[]=>true
 |i::l,j::m=>Xbv i j&&eqN l m
 |_,_=>false
def WgP(l m:List Nat):Bool:=l.all λi=>!WbS i m
def kill(objs:Wab):List Nat->Wab
 | []=>objs
 |i::l=>(i,.dead)::kill objs l
def cellsOf(agg:Bool):AVal->Option (List Cell)
 | .s (.one c)=>if agg then none else some [c]
 | .s (.agg cs)=>if agg then some cs else none
 | .tup _=>none
inductive PTy where
 |v (t:Ty) (agg:Bool)
 |box (t:Ty)
 |mut (e:Ty)
 |clos (g:FuncId) (n:Nat)
 |kv (t:Ty) (agg:Bool)
 |rp (t:Ty)
 |boxal (t:Ty) (lf:Nat)
 |vj (t:Ty)
def Ty.owns:Ty->Nat
 | .own _=>1
 | .prod a b=>a.owns+b.owns
 |_=>0
def Wfp:List PTy->Type
 | []=>Unit
 | .v t _::ps=>t.den×Wfp ps
 | .box t::ps=>t.den×Wfp ps
 | .mut e::ps=>List e.den×Wfp ps
 | .clos _ _::ps=>Wfp ps
 | .kv t _::ps=>t.den×Wfp ps
 | .rp t::ps=>t.den×Wfp ps
 | .vj _::ps=>Wfp ps
 | .boxal t _::ps=>t.den×Nat×Wfp ps
def WfW:List PTy->Type
 | []=>Unit
 | .v _ _::ps=>WfW ps
 | .box t::ps=>t.den×WfW ps
 | .mut e::ps=>List e.den×WfW ps
 | .clos _ _::ps=>WfW ps
 | .kv t _::ps=>t.den×WfW ps
 | .rp _::ps=>WfW ps
 | .vj _::ps=>WfW ps
 | .boxal t _::ps=>t.den×WfW ps
def WgM:List PTy->Type
 | []=>Unit
 | .v t _::rs=>t.den×WgM rs
 | .box t::rs=>t.den×WgM rs
 | .mut _::rs=>WgM rs
 | .clos _ _::rs=>WgM rs
 | .kv _ _::rs=>WgM rs
 | .rp _::rs=>WgM rs
 | .vj t::rs=>t.den×WgM rs
 | .boxal _ _::rs=>WgM rs
structure Kp where
 id:Nat
 off:Nat
def kp0(l:List Nat):List Kp:=l.map λi=>⟨i,0⟩
structure Args(ps:List PTy) where
 d:Wfp ps
 moved:List Nat
 lent:List Nat
 kept:List Kp
 all:List Nat
def Wa1:Ty->Nat->Option Nat
 | .own _,n=>match n with
  |0=>some 0
  |_+1=>none
 | .prod a b,n=>if n<a.owns then Wa1 a n else(Wa1 b (n-a.owns)).map (a.size+ ·)
 | .int _,_=>none
 | .bool,_=>none
 | .str,_=>none
 | .slice _,_=>none
def Wq3(objs:Wab):Cell->AVal->Option Nat
 | .own r,.s (.one (.ptr p off))=>match off,look objs r with
  |0,some (.hole _ _ i p')=>if Xbv p p' then some i else none
  |_,_=>none
 | .own r,.s (.one (.eptr r' i off))=>match off,look objs r with
  |0,some (.arr _ _)=>if Xbv r r' then some i else none
  |_,_=>none
 |_,_=>none
def WsU:Cell->Bool
 | .vw _ _ _=>false
 |_=>true
def WuY:AVal->Bool
 | .s (.one c)=>WsU c
 | .s (.agg cs)=>cs.all WsU
 | .tup _=>true
def Wmo(objs:Wab)(t:Ty)(m:List Nat)(x:AVal):Bool:=decide (m.length=t.owns)&&WuY x&&m.all λid=>match look objs id with
 |some (.arr _ _)=>true
 |_=>false
def WjP(l:List Nat):List AVal:=l.map λid=>.s (.one (.ptr id 0))
def W8:(ps:List PTy)->List AVal->Wab->Option (Args ps)
 | [],xs,_=>match xs with
  | []=>some ⟨(),[],[],[],[]⟩
  |_=>none
 | .v t agg::ps,xs,objs=>match xs with
  |x::xs=>match(cellsOf agg x).bind λcs=>Wap t cs objs,W8 ps xs objs with
   |some (d,m,r),some A=>some ⟨(d,A.d),m++A.moved,r++A.lent,A.kept,m++A.all⟩
   |_,_=>none
  |_=>none
 | .box t::ps,xs,objs=>match xs with
  | .s (.one (.ptr id off))::xs=>match look objs id with
   |some (.box cs)=>match Wap t ((cs.drop off).take t.size) objs,W8 ps xs objs with
    |some (d,m,[]),some A=>some ⟨(d,A.d),m++A.moved,A.lent,⟨id,off⟩::A.kept,id::(m++A.all)⟩
    |_,_=>none
   |_=>none
  |_=>none
 | .mut e::ps,xs,objs=>match xs with
  | .s (.one (.own id))::xs=>match look objs id with
   |some (.arr e' ys)=>match WfY e' e ys,W8 ps xs objs with
    |some d,some A=>some ⟨(d,A.d),A.moved,A.lent,⟨id,0⟩::A.kept,id::A.all⟩
    |_,_=>none
   |_=>none
  |_=>none
 | .clos g n::ps,xs,objs=>match xs with
  | .s (.one (.clos g' caps))::xs=>if g'=g/\caps.length=n then(W8 ps (WjP caps++xs) objs).map λA=>⟨A.d,A.moved,A.lent,A.kept,A.all⟩else none
  |_=>none
 | .kv t agg::ps,xs,objs=>match xs with
  |x::xs=>match(cellsOf agg x).bind λcs=>Wap t cs objs,W8 ps xs objs with
   |some (d,m,r),some A=>if Wmo objs t m x then some ⟨(d,A.d),A.moved,r++A.lent,kp0 m++A.kept,m++A.all⟩else none
   |_,_=>none
  |_=>none
 | .rp t::ps,xs,objs=>match xs with
  | .s (.one (.ptr id off))::xs=>match look objs id with
   |some (.box cs)=>match Wap t ((cs.drop off).take t.size) objs,W8 ps xs objs with
    |some (d,[],r),some A=>if t.data then some ⟨(d,A.d),A.moved,id::(r++A.lent),A.kept,A.all⟩else none
    |_,_=>none
   |_=>none
  | .s (.one (.rptr t' d off))::xs=>match Wap t (((split t' d).drop off).take t.size) objs,W8 ps xs objs with
   |some (d,[],[]),some A=>if t.data then some ⟨(d,A.d),A.moved,A.lent,A.kept,A.all⟩else none
   |_,_=>none
  |_=>none
 | .vj _::_,_,_=>none
 | .boxal t lf::ps,xs,objs=>match xs with
  | .s (.one (.ptr id off))::y::xs=>match look objs id with
   |some (.box cs)=>match Wap t ((cs.drop off).take t.size) objs,W8 ps xs objs,((Wa1 t lf).bind λk=>((cs.drop off).take t.size)[k]?).bind λc=>Wq3 objs c y with
    |some (d,m,[]),some A,some i=>some ⟨(d,i,A.d),m++A.moved,A.lent,⟨id,off⟩::A.kept,id::(m++A.all)⟩
    |_,_,_=>none
   |_=>none
  |_=>none
def Wcr:(t:Ty)->t.den->List Nat->Wab
 | .own e,d,ids=>match ids with
  |id::_=>[(id,.arr e d)]
  | []=>[]
 | .prod a b,d,ids=>Wcr a d.1 (ids.take a.owns)++Wcr b d.2 (ids.drop a.owns)
 | .int _,_,_=>[]
 | .bool,_,_=>[]
 | .str,_,_=>[]
 | .slice _,_,_=>[]
def Wd3(cs:List Cell)(off:Nat)(ds:List Cell):List Cell:=cs.take off++ds++cs.drop (off+ds.length)
def Whr(o:Option Ob)(off:Nat)(ds:List Cell):Ob:=match o with
 |some (.box cs)=>.box (Wd3 cs off ds)
 |_=>.dead
def Wae:(ps:List PTy)->WfW ps->List Kp->Wab->Nat->Wab×Nat
 | [],_,_,objs,nx=>(objs,nx)
 | .v _ _::ps,o,ids,objs,nx=>Wae ps o ids objs nx
 | .box t::ps,o,ids,objs,nx=>match ids with
  |k::ids=>
   let x:=unfold t o.1 nx
   Wae ps o.2 ids ((k.id,Whr (look objs k.id) k.off x.1)::(x.2.1++objs)) x.2.2
  | []=>(objs,nx)
 | .mut e::ps,o,ids,objs,nx=>match ids with
  |k::ids=>Wae ps o.2 ids ((k.id,.arr e o.1)::objs) nx
  | []=>(objs,nx)
 | .clos _ _::ps,o,ids,objs,nx=>Wae ps o ids objs nx
 | .kv t _::ps,o,ids,objs,nx=>Wae ps o.2 (ids.drop t.owns) (Wcr t o.1 ((ids.take t.owns).map Kp.id)++objs) nx
 | .rp _::ps,o,ids,objs,nx=>Wae ps o ids objs nx
 | .vj _::ps,o,ids,objs,nx=>Wae ps o ids objs nx
 | .boxal t _::ps,o,ids,objs,nx=>match ids with
  |k::ids=>
   let x:=unfold t o.1 nx
   Wae ps o.2 ids ((k.id,Whr (look objs k.id) k.off x.1)::(x.2.1++objs)) x.2.2
  | []=>(objs,nx)
def Wwn(agg:Bool)(cs:List Cell):AV:=if agg then .agg cs else match cs with
 | [c]=>.one c
 |_=>.agg cs
def Wbi:(rs:List PTy)->WgM rs->Wab->Nat->List AV×Wab×Nat
 | [],_,objs,nx=>([],objs,nx)
 | .v t agg::rs,d,objs,nx=>
  let x:=unfold t d.1 nx
  let y:=Wbi rs d.2 (x.2.1++objs) x.2.2
  (Wwn agg x.1::y.1,y.2)
 | .box t::rs,d,objs,nx=>
  let x:=unfold t d.1 (nx+1)
  let y:=Wbi rs d.2 ((nx,.box x.1)::(x.2.1++objs)) x.2.2
  (.one (.ptr nx 0)::y.1,y.2)
 | .mut _::rs,d,objs,nx=>Wbi rs d objs nx
 | .clos _ _::rs,d,objs,nx=>Wbi rs d objs nx
 | .kv _ _::rs,d,objs,nx=>Wbi rs d objs nx
 | .rp _::rs,d,objs,nx=>Wbi rs d objs nx
 | .vj t::rs,d,objs,nx=>
  let x:=unfold t d.1 nx
  let y:=Wbi rs d.2 (x.2.1++objs) x.2.2
  (.agg (x.1++ [.junk])::y.1,y.2)
 | .boxal _ _::rs,d,objs,nx=>Wbi rs d objs nx
def WwH:List AV->AVal
 | [x]=>.s x
 |xs=>.tup xs
structure Sig where
 ps:List PTy
 rs:List PTy
 fn:(R:Type)->Wfp ps->(WfW ps×WgM rs->Option R)->Option R
 run:Wfp ps->Option (WfW ps×WgM rs)
 law:∀(R:Type) (d:Wfp ps) (k:WfW ps×WgM rs->Option R),fn R d k=(run d).bind k
noncomputable def Sig.of(ps:List PTy)(rs:List PTy)(run:Wfp ps->Option (WfW ps×WgM rs)):Sig:=⟨ps,rs,λ_ d k=>(run d).bind k,run,λ_ _ _=>rfl⟩
theorem Sig.law'(s:Sig){R:Type}(d:Wfp s.ps)(k:WfW s.ps×WgM s.rs->Option R)(r:R)(h:s.fn R d k=some r):∃o,s.run d=some o/\k o=some r:=by
 rw[s.law]at h;cases hr:s.run d with
 |none=>rw[hr]at h;cases h
 |some o=>rw[hr]at h;exact⟨o,rfl,h⟩
def PTy.fresh:PTy->Bool
 | .v _ _=>true
 | .box t=>t.noRo
 | .mut e=>e.noRo
 | .clos _ _=>true
 | .kv t _=>t.noRo
 | .rp _=>true
 | .vj _=>true
 | .boxal t _=>t.noRo
def PTy.freshR:PTy->Bool
 | .v t _=>t.noRo
 | .box t=>t.noRo
 | .mut _=>true
 | .clos _ _=>true
 | .kv _ _=>true
 | .rp _=>true
 | .vj t=>t.noRo
 | .boxal _ _=>true
def Sig.fresh(s:Sig):Bool:=s.rs.all PTy.freshR&&s.ps.all PTy.fresh
abbrev Ctx:=List (FuncId×Sig)
def evs(st:St):List Operand->Option (List AVal)
 | []=>some []
 |o::l=>match ev st o,evs st l with
  |some x,some xs=>some (x::xs)
  |_,_=>none
abbrev KV(R:Type):=AVal->Wab->Nat->Option R
def Wft{R:Type}(sg:Sig)(st:St)(xs:List AVal)(k:KV R):Option R:=
 match W8 sg.ps xs st.objs with
 |some A=>
  if Wbm A.all&&WgP A.lent A.all&&(sg.fresh||A.lent.isEmpty)then
   sg.fn R A.d λo=>
    let p:=Wae sg.ps o.1 A.kept (kill st.objs A.moved) st.nx
    let q:=Wbi sg.rs o.2 p.1 p.2
    k (WwH q.1) q.2.1 q.2.2
  else none
 |none=>none
def Wkv(objs:Wab)(ids:List Nat):Cell->Cell
 | .own id=>bif WbS id ids then(match look objs id with
  |some (.arr e xs)=>.val (.slice e.ro) (Wcx e xs)
  |_=>.junk)else .own id
 | .vw id lo hi=>.vw id lo hi
 | .val t d=>.val t d
 | .nils=>.nils
 | .aptr id=>.aptr id
 | .ptr id off=>.ptr id off
 | .eptr id i off=>.eptr id i off
 | .rptr t d off=>.rptr t d off
 | .clos f caps=>.clos f caps
 | .junk=>.junk
def Whv(objs:Wab)(ids:List Nat):AVal->AVal
 | .s (.one c)=>.s (.one (Wkv objs ids c))
 | .s (.agg cs)=>.s (.agg (cs.map (Wkv objs ids)))
 | .tup xs=>.tup xs
def Wq2:Cell->List Nat
 | .own id=>[id]
 | .vw _ _ _=>[]
 | .val _ _=>[]
 | .nils=>[]
 | .aptr _=>[]
 | .ptr _ _=>[]
 | .eptr _ _ _=>[]
 | .rptr _ _ _=>[]
 | .clos _ _=>[]
 | .junk=>[]
def Wrd:AVal->List Nat
 | .s (.one c)=>Wq2 c
 | .s (.agg cs)=>cs.flatMap Wq2
 | .tup _=>[]
def Ws8:Ty->List Cell->List Nat
 | .prod a b,cs=>Ws8 a (cs.take a.size)++Ws8 b (cs.drop a.size)
 | .slice _,cs=>match cs with
  |c::_=>Wq2 c
  | []=>[]
 | .own _,_=>[]
 | .int _,_=>[]
 | .bool,_=>[]
 | .str,_=>[]
def Whs(e:Ty):AVal->List Nat
 | .s (.one c)=>Ws8 e [c]
 | .s (.agg cs)=>Ws8 e cs
 | .tup _=>[]
def WfS(objs:Wab)(p v:AVal):List Nat:=match p with
 | .s (.one (.eptr id _ _))=>match look objs id with
  |some (.arr e _)=>bif e.data then Wrd v else Whs e v
  |_=>[]
 |_=>[]
def WkT(ps:List (Nat×AVal)):List Nat:=ps.flatMap λp=>Wrd p.2
def WdE(objs:Wab)(l:List Nat):Wab:=kill objs l
def Wlz(objs:Wab)(ps:List (Nat×AVal)):List (Nat×AVal):=ps.map λp=>(p.1,Whv objs (WkT ps) p.2)
def Wmv{R:Type}(sg:Sig)(st:St)(xs:List AVal)(k:KV R):Option R:=
 bif sg.fresh then Wft sg st xs k else match W8 sg.ps xs st.objs with
  |some A=>match A.lent with
   | []=>Wft sg st xs k
   |_=>Wft sg {env:=st.env,objs:=kill st.objs A.lent,nx:=st.nx} (xs.map (Whv st.objs A.lent)) k
  |none=>none
def St.new(st:St)(dst:Option Tmp)(ob:Ob)(x:AVal):St:=
 {env:=st.env,objs:=(st.nx,ob)::st.objs,nx:=st.nx+1:St}.put dst x
def St.turn(st:St)(id:Nat)(ob:Ob):St:={st with objs:=(id,ob)::st.objs}
def WgU:AVal->Option (List Cell)
 | .s (.one c)=>some [c]
 | .s (.agg cs)=>some cs
 | .tup _=>none
def WcU(T:Tab)(st:St)(t:TypeId)(x v:AVal):Option St:=
 match look T t,x,WgU v with
 |some te,.s (.one (.ptr id off)),some ds=>match look st.objs id with
  |some (.box cs)=>if decide (te.ty.size=ds.length)&&te.plain&&decide (off+ds.length<=cs.length)then some (st.turn id (.box (Wd3 cs off ds)))else none
  |_=>none
 |some te,.s (.one (.eptr id i off)),some ds=>match look st.objs id with
  |some (.arr e xs)=>
   if decide (te.ty.size=ds.length)&&te.plain&&decide (off+ds.length<=e.size)&&e.data then
    match Wap e (Wd3 (split e (xs.getD i e.dflt)) off ds) st.objs with
    |some (d,[],[])=>some (st.turn id (.arr e (xs.set i d)))
    |_=>none
   else if decide (te.ty.size=ds.length)&&te.plain&&decide (off=0)&&decide (ds.length=e.size)then
    match Wap e ds st.objs with
    |some (d,m,[])=>if Wbm (id::m)then some {env:=st.env,objs:=(id,.arr e (xs.set i d))::kill st.objs m,nx:=st.nx}else none
    |_=>none
   else none
  |_=>none
 |_,_,_=>none
def Wu4(st:St)(e:Ty):AVal->Option (List e.den)
 | .s (.one (.val (.slice e') d))=>WfY e' e d
 | .s (.one .nils)=>some []
 | .s (.one (.own id))=>match look st.objs id with
  |some (.arr e' xs)=>WfY e' e xs
  |_=>none
 | .s (.one (.vw id lo hi))=>match look st.objs id with
  |some (.arr e' xs)=>(WfY e' e xs).map λys=>(ys.take hi).drop lo
  |_=>none
 |_=>none
def WtT(st:St)(e:Ty):AVal->Option (List e.den×List Nat)
 | .s (.one .nils)=>some ([],[])
 | .s (.one (.own id))=>match look st.objs id with
  |some (.arr e' xs)=>(WfY e' e xs).map λys=>(ys,[id])
  |_=>none
 |_=>none
def Wxh(st:St):AVal->Option Ty
 | .s (.one (.own id))=>match look st.objs id with
  |some (.arr e _)=>some e
  |_=>none
 |_=>none
def Wep{R:Type}(st:St)(te:Ty)(s x:AVal)(k:KV R):Option R:=
 match s with
 | .s (.one .nils)=>match Wxh st x with
  |some e=>if e.ro=te then match WtT st e x with
    |some (l,m)=>bif Ww l.length then k (.s (.one (.own st.nx))) ((st.nx,.arr e l)::kill st.objs m) (st.nx+1)else none
    |none=>none
   else none
  |none=>none
 | .s (.one (.own id))=>match look st.objs id with
  |some (.arr e xs)=>if e.ro=te then match WtT st e x with
    |some (l,m)=>if Wbm (id::m)then(bif Ww (xs.length+l.length)then k (.s (.one (.own st.nx))) ((st.nx,.arr e (Xe xs l))::kill st.objs (id::m)) (st.nx+1)else none)else none
    |none=>none
   else none
  |_=>none
 |_=>none
def Wtz(st:St):AVal->AVal->Bool
 | .s (.one (.own id)),_=>match look st.objs id with
  |some (.arr e _)=>e.data
  |_=>true
 | .s (.one .nils),.s (.one (.own id))=>match look st.objs id with
  |some (.arr e _)=>e.data
  |_=>true
 |_,_=>true
def WdG{R:Type}(T:Tab)(st:St)(t t2:TypeId)(s x:AVal)(k:KV R):Option R:=
 match look T t,look T t2 with
 |some ⟨_,false,.slice et⟩,some _=>match look T et with
  |some te=>
   if t=t2/\te.plain/\te.ty.data then
    bif !Wtz st s x then Wep st te.ty s x k else
    match s,Wu4 st te.ty x with
    | .s (.one .nils),some l=>bif Ww l.length then k (.s (.one (.own st.nx))) ((st.nx,.arr te.ty l)::st.objs) (st.nx+1)else none
    | .s (.one (.own id)),some l=>match look st.objs id with
     |some (.arr e xs)=>match WmY (.own e) (.own te.ty) xs with
      |some ys=>bif Ww (Xa ys+l.length)then k (.s (.one (.own st.nx))) ((st.nx,.arr te.ty (Xe ys l))::(id,.dead)::st.objs) (st.nx+1)else none
      |none=>none
     |_=>none
    | .s (.one (.vw id 0 hi)),some l=>match look st.objs id with
     |some (.arr e xs)=>match WmY (.own e) (.own te.ty) xs with
      |some ys=>bif Ww (hi+l.length)then k (.s (.one (.own st.nx))) ((st.nx,.arr te.ty (Xe (ys.take hi) l))::(id,.dead)::st.objs) (st.nx+1)else none
      |none=>none
     |_=>none
    |_,_=>none
   else none
  |none=>none
 |_,_=>none
def Wl5(T:Tab)(fs:List (Nat×TypeId)):List (Nat×AVal)->List Cell->Option (List Cell)
 | [],cs=>some cs
 |(i,x)::ps,cs=>match fs[i]? with
  |some (off,ft)=>match look T ft,WgU x with
   |some te,some ds=>if decide (te.ty.size=ds.length)&&decide (off+ds.length<=cs.length)then Wl5 T fs ps (Wd3 cs off ds)else none
   |_,_=>none
  |none=>none
def Wqn(e:Ty)(objs:Wab):List (Nat×AVal)->List e.den->Option (List e.den)
 | [],xs=>some xs
 |(i,x)::ps,xs=>match WgU x with
  |some ds=>match Wap e ds objs with
   |some (d,[],[])=>if i<xs.length then Wqn e objs ps (xs.set i d)else none
   |_=>none
  |none=>none
def Wct(st:St):List (Nat×Operand)->Option (List (Nat×AVal))
 | []=>some []
 |(i,o)::l=>match ev st o,Wct st l with
  |some x,some xs=>some ((i,x)::xs)
  |_,_=>none
inductive An where
 |nest (e:Ty)
 |view
 |opn
def WwP(A:List (Nat×An))(o:Oper):Option An:=match o.dst with
 |some d=>look A d
 |none=>none
def Wdh{R:Type}(st:St)(e:Ty)(ps:List (Nat×AVal))(k:KV R):Option R:=
 match ps with
 | [p]=>if p.1=0 then match WgU (Whv st.objs (Whs e p.2) p.2)with
  |some ds=>match Wap e ds (WdE st.objs (Whs e p.2))with
   |some (d,m,[])=>if Wbm m then k (.s (.one (.own st.nx))) ((st.nx,.arr e [d])::kill (WdE st.objs (Whs e p.2)) m) (st.nx+1)else none
   |_=>none
  |none=>none
  else none
 |_=>none
def Wfr{R:Type}(st:St)(te:Ty)(id:Nat)(l h:Option Int)(k:KV R):Option R:=
 match look st.objs id with
 |some (.arr e xs)=>if te=e.ro then bif (WcG (Xa xs) l h).1 then k (.s (.one (.vw id (WcG (Xa xs) l h).2.1 (WcG (Xa xs) l h).2.2))) st.objs st.nx else none else none
 |_=>none
def Wrz(o:Option Ob)(n:Nat):Bool:=match o with
 |some (.box cs)=>Xbv cs.length n
 |_=>false
def rxe{R:Type}(T:Tab)(Γ:Ctx)(A:List (Nat×An))(o:Oper)(st:St)(k:KV R):Option R:=
 match o.op with
 | .alloc t=>match look T t with
  |some ⟨e,true,.arr n _⟩=>if e.data&&Ww n then k (.s (.one (.aptr st.nx))) ((st.nx,.arr e (Xt n e.dflt))::st.objs) (st.nx+1)else none
  |some te=>if te.plain then k (.s (.one (.ptr st.nx 0))) ((st.nx,.box (WeG te.ty))::st.objs) (st.nx+1)else none
  |none=>none
 | .box t x=>match look T t,(ev st x).bind WgU with
  |some _,some cs=>k (.s (.one (.ptr st.nx 0))) ((st.nx,.box cs)::st.objs) (st.nx+1)
  |_,_=>none
 | .build t parts=>match look T t,Wct st parts.toList with
  |some ⟨ty,true,.struct fs⟩,some ps=>
   if fs.all (λf=>match look T f.2 with|some te=>te.plain|none=>false)then
    match Wl5 T fs ps (WeG ty)with
    |some cs=>k (.s (.agg cs)) st.objs st.nx
    |none=>none
   else none
  |_,_=>none
 | .buildSlice t n parts=>match look T t,Wct st parts.toList with
  |some ⟨_,false,.slice et⟩,some ps=>match look T et with
   |some te=>match WwP A o with
    |some (.nest e)=>if decide (n=1)&&decide (e.ro=te.ty)&&te.plain&&decide (te.ty.size<=16777216)then Wdh st e ps k else none
    |_=>match Wqn te.ty (WdE st.objs (WkT ps)) (Wlz st.objs ps) (Xt n te.ty.dflt)with
    |some xs=>if decide (n*te.ty.size<=16777216)&&te.ty.data&&te.plain then k (.s (.one (.own st.nx))) ((st.nx,.arr te.ty xs)::WdE st.objs (WkT ps)) (st.nx+1)else none
    |none=>none
   |none=>none
  |_,_=>none
 | .makeSlice t n c=>match look T t,(ev st n).bind asI,(ev st c).bind asI with
  |some ⟨_,false,.slice et⟩,some n',some c'=>match look T et with
   |some te=>match WwP A o with
    |some (.nest e)=>if decide (e.ro=te.ty)&&te.plain then(bif decide (0<=n')&&decide (n'<=c')&&Ww c'.toNat then k (.s (.one (.own st.nx))) ((st.nx,.arr e (Xt n'.toNat e.dflt))::st.objs) (st.nx+1)else none)else none
    |_=>if te.ty.data&&te.plain then(bif decide (0<=n')&&decide (n'<=c')&&Ww c'.toNat then k (.s (.one (.own st.nx))) ((st.nx,.arr te.ty (Xt n'.toNat te.ty.dflt))::st.objs) (st.nx+1)else none)else none
   |none=>none
  |_,_,_=>none
 | .store t a x=>match ev st a,ev st x with
  |some p,some v=>match WcU T {env:=st.env,objs:=WdE st.objs (WfS st.objs p v),nx:=st.nx} t p (Whv st.objs (WfS st.objs p v) v)with
   |some af=>match o.dst with
    |none=>k (.tup []) af.objs af.nx
    |some _=>none
   |none=>none
  |_,_=>none
 | .slice t x lo hi none=>match ev st x with
  |some (.s (.one (.own id)))=>match look T t,WlH st lo,WlH st hi with
   |some ⟨_,false,.slice et⟩,some l,some h=>match look T et with
    |some te=>match WwP A o with
     |some .view=>if te.plain then Wfr st te.ty id l h k else none
     |_=>match l,h,look st.objs id with
      |none,some h,some (.arr e xs)=>if te.ty=e.ro/\te.plain then(bif decide (0<=h)&&decide (h<=(xs.length:Int))then k (.s (.one (.own st.nx))) ((st.nx,.arr e (xs.take h.toNat))::(id,.dead)::st.objs) (st.nx+1)else none)else none
      |none,some h,some (.hole e xs i p)=>if te.ty=e.ro/\te.plain/\Wrz (look st.objs p) e.size then(bif decide (0<=h)&&decide (h<=(xs.length:Int))&&decide (h<=(i:Int))then k (.s (.one (.own st.nx))) ((st.nx,.arr e (xs.take h.toNat))::(id,.dead)::(p,.dead)::st.objs) (st.nx+1)else none)else none
      |_,_,_=>none
    |none=>none
   |_,_,_=>none
  |_=>match Wad T st o.op with
   |some (c,v)=>bif c then k v st.objs st.nx else none
   |none=>none
 | .call c=>match c.callee,c.args.toList,c.argTypes.toList with
  | .builtin .append,[s,x],[t,t2]=>match ev st s,ev st x with
   |some sv,some xv=>WdG T st t t2 sv xv k
   |_,_=>none
  | .builtin .clear,[x],[t]=>match ev st x with
   |some (.s (.one (.vw id lo hi)))=>match look T t,look st.objs id with
    |some ⟨_,false,.slice et⟩,some (.arr e xs)=>match look T et with
     |some te=>if te.ty=e/\te.plain/\e.data then k (.tup []) ((id,.arr e (xs.take lo++Xt (hi-lo) e.dflt++xs.drop hi))::st.objs) st.nx else none
     |none=>none
    |_,_=>none
   |_=>none
  | .builtin _,_,_=>match Wad T st o.op with
   |some (c,v)=>bif c then k v st.objs st.nx else none
   |none=>none
  | .value f,args,_=>match ev st f,evs st args with
   |some (.s (.one (.clos g caps))),some xs=>match look Γ g with
    |some sg=>Wmv sg st (xs++WjP caps) k
    |none=>none
   |_,_=>none
  |_,_,_=>none
 |op=>match Wad T st op with
  |some (c,v)=>bif c then k v st.objs st.nx else none
  |none=>none
def rx1{R:Type}(T:Tab)(Γ:Ctx)(A:List (Nat×An))(o:Oper)(st:St)(k:St->Option R):Option R:=
 rxe T Γ A o st λx objs nx=>k (({env:=st.env,objs:=objs,nx:=nx}:St).put o.dst x)
def rxg{R:Type}(T:Tab)(Γ:Ctx)(A:List (Nat×An))(ops:Array Oper)(o:Oper)(st:St)(k:St->Option R):Option R:=
 match o.guard with
 |none=>rx1 T Γ A o st k
 |some (j,want)=>match(ops[j]?).bind (·.dst)with
  |some t=>match look st.env t with
   |some (.tup [])=>k (st.put o.dst (.tup []))
   |some x=>match asB x with
    |some b=>bif b
     then(if want then rx1 T Γ A o (st.put (some t) (one .bool true)) k else k ((st.put (some t) (one .bool true)).put o.dst (.tup [])))
     else(if want then k ((st.put (some t) (one .bool false)).put o.dst (.tup []))else rx1 T Γ A o (st.put (some t) (one .bool false)) k)
    |none=>none
   |none=>none
  |none=>none
inductive Ex where
 |normal|exit (id:Nat)|ret
def Wn5{R:Type}(f:St->(Ex->St->Option R)->Option R):Nat->St->(Ex->St->Option R)->Option R
 |0,_,_=>none
 |n+1,st,k=>f st λe af=>match e with
  | .normal=>Wn5 f n af k
  | .exit id=>k (.exit id) af
  | .ret=>k .ret af
inductive Ghost where
 |canon (slots:List Nat)
 |adopt (slot:Nat) (e:Ty)
 |freeze (slot:Nat)
 |adoptC (slot off:Nat) (e:Ty)
 |freezeC (slot off:Nat)
 |nest (dst:Nat) (e:Ty)
 |view (dst:Nat)
 |opn (dst:Nat)
 |unfE (slot:Nat)
 |unfS (slot:Nat) (ix:Option Nat)
 |unfC (slot off:Nat) (ix:Option Nat)
 |empt (slot:Nat) (e:Ty)
 |refold (slot:Nat)
 |solo (slot:Nat)
 |soloC (slot off:Nat)
def Wmu:List Ghost->List (Nat×An)
 | []=>[]
 | .nest d e::l=>(d,.nest e)::Wmu l
 | .view d::l=>(d,.view)::Wmu l
 | .opn d::l=>(d,.opn)::Wmu l
 | .canon _::l=>Wmu l
 | .adopt _ _::l=>Wmu l
 | .freeze _::l=>Wmu l
 | .adoptC _ _ _::l=>Wmu l
 | .freezeC _ _::l=>Wmu l
 | .unfE _::l=>Wmu l
 | .unfS _ _::l=>Wmu l
 | .unfC _ _ _::l=>Wmu l
 | .refold _::l=>Wmu l
 | .empt _ _::l=>Wmu l
 | .solo _::l=>Wmu l
 | .soloC _ _::l=>Wmu l
def Wbd:Cell->List Nat
 | .own id| .aptr id| .ptr id _| .eptr id _ _| .vw id _ _=>[id]
 | .clos _ caps=>caps
 |_=>[]
def WfI:AV->List Nat
 | .one c=>Wbd c
 | .agg cs=>cs.flatMap Wbd
def WaX:AVal->List Nat
 | .s x=>WfI x
 | .tup xs=>xs.flatMap WfI
def WlF:Nat->List Nat->List Nat->Wab->List Nat
 |0,_,acc,_=>acc
 |n+1,todo,acc,objs=>match todo with
  | []=>acc
  |i::l=>if WbS i acc then WlF n l acc objs else
   match look objs i with
   |some (.box cs)=>WlF n (l++cs.flatMap Wbd) (acc++ [i]) objs
   |some (.arr _ _)=>WlF n l (acc++ [i]) objs
   |some (.hole _ _ _ p)=>WlF n (l++ [p]) (acc++ [i]) objs
   |_=>WlF n l acc objs
def Wse(i:Nat):List Nat->Option Nat
 | []=>none
 |j::l=>if Xbv i j then some 0 else(Wse i l).map (· +1)
def Wng(m:List Nat):List Nat->Option (List Nat)
 | []=>some []
 |i::l=>match Wse i m,Wng m l with
  |some j,some r=>some (j::r)
  |_,_=>none
def WcJ(m:List Nat):Cell->Cell
 | .own id=>match Wse id m with|some j=>.own j|none=>.junk
 | .vw id lo hi=>match Wse id m with|some j=>.vw j lo hi|none=>.junk
 | .aptr id=>match Wse id m with|some j=>.aptr j|none=>.junk
 | .ptr id off=>match Wse id m with|some j=>.ptr j off|none=>.junk
 | .eptr id i off=>match Wse id m with|some j=>.eptr j i off|none=>.junk
 | .clos f caps=>match Wng m caps with|some js=>.clos f js|none=>.junk
 | .val t d=>.val t d
 | .nils=>.nils
 | .rptr t d off=>.rptr t d off
 | .junk=>.junk
def Wu0(m:List Nat):AV->AV
 | .one c=>.one (WcJ m c)
 | .agg cs=>.agg (cs.map (WcJ m))
def Wor(m:List Nat):AVal->AVal
 | .s x=>.s (Wu0 m x)
 | .tup xs=>.tup (xs.map (Wu0 m))
def WrB(m:List Nat):Ob->Ob
 | .box cs=>.box (cs.map (WcJ m))
 | .arr e xs=>.arr e xs
 | .hole e xs i p=>match Wse p m with|some j=>.hole e xs i j|none=>.dead
 | .dead=>.dead
def WfV(env:List (Nat×AVal)):List Nat->List (Nat×AVal)
 | []=>[]
 |i::l=>match look env i with
  |some x=>(i,x)::WfV env l
  |none=>WfV env l
def WdV(m:List Nat)(objs:Wab):Nat->List Nat->Wab
 |_,[]=>[]
 |j,i::l=>match look objs i with
  |some ob=>(j,WrB m ob)::WdV m objs (j+1) l
  |none=>WdV m objs (j+1) l
def canon(slots:List Nat)(st:St):St:=
 let env:=WfV st.env slots
 let m:=WlF 400 (env.flatMap λp=>WaX p.2) [] st.objs
 {env:=env.map λp=>(p.1,Wor m p.2),objs:=WdV m st.objs 0 m,nx:=m.length}
def WlY(st:St)(r i:Nat):Option St:=
 match look st.objs r with
 |some (.arr e xs)=>
  let x:=unfold e (xs.getD i e.dflt) (st.nx+1)
  some {env:=st.env,objs:=(r,.hole e xs i st.nx)::(st.nx,.box x.1)::(x.2.1++st.objs),nx:=x.2.2}
 |_=>none
def WuB(st:St)(r:Nat):Option Nat->Option (Bool×Nat)
 |none=>match look st.objs r with
  |some (.arr _ xs)=>some (inb (WU .i64 (Wb xs) 1) (Xa xs),(WU .i64 (Wb xs) 1).toNat)
  |_=>none
 |some s=>match look st.objs r,(look st.env s).bind asI with
  |some (.arr _ xs),some n=>some (inb n (Xa xs),n.toNat)
  |_,_=>none
def WoR(st:St)(r:Nat)(ix:Option Nat):Option (Bool×St):=
 match WuB st r ix with
 |some (c,i)=>(WlY st r i).map λaf=>(c,af)
 |none=>none
def Wne(p:Nat):Wab->Option Nat
 | []=>none
 |(r,.hole _ _ _ p')::l=>if Xbv p p' then some r else Wne p l
 |(_,.box _)::l=>Wne p l
 |(_,.arr _ _)::l=>Wne p l
 |(_,.dead)::l=>Wne p l
def Wnx(st:St)(p:Nat):Option St:=
 match Wne p st.objs with
 |some r=>match look st.objs r,look st.objs p with
  |some (.hole e xs i p'),some (.box cs)=>match Wap e cs st.objs with
   |some (d,m,[])=>if Xbv p p'&&Wbm (r::p::m)then some {env:=st.env,objs:=(r,.arr e (xs.set i d))::kill st.objs (p::m),nx:=st.nx}else none
   |_=>none
  |_,_=>none
 |none=>none
def Wfw(g:Ghost)(st:St):Option (Bool×St):=
 match g with
 | .canon slots=>some (true,canon slots st)
 | .adopt slot e=>match look st.env slot with
  |some (.s (.one .nils))=>some (true,st.new (some slot) (.arr e []) (.s (.one (.own st.nx))))
  |some (.s (.one (.own _)))=>some (true,st)
  |_=>none
 | .freeze slot=>match look st.env slot with
  |some (.s (.one (.own id)))=>match look st.objs id with
   |some (.arr e xs)=>some (true,(st.turn id .dead).put (some slot) (one (.slice e.ro) (Wcx e xs)))
   |_=>none
  |_=>none
 | .adoptC slot off e=>match look st.env slot with
  |some (.s (.one (.ptr id 0)))=>match look st.objs id with
   |some (.box cs)=>match cs[off]? with
    |some .nils=>some (true,{env:=st.env,objs:=(id,.box (cs.set off (.own st.nx)))::(st.nx,.arr e [])::st.objs,nx:=st.nx+1})
    |some (.own _)=>some (true,st)
    |_=>none
   |_=>none
  |_=>none
 | .freezeC slot off=>match look st.env slot with
  |some (.s (.one (.ptr id 0)))=>match look st.objs id with
   |some (.box cs)=>match cs[off]? with
    |some (.own j)=>match look st.objs j with
     |some (.arr e xs)=>some (true,{st with objs:=(id,.box (cs.set off (.val (.slice e.ro) (Wcx e xs))))::(j,.dead)::st.objs})
     |_=>none
    |some (.val _ _)=>some (true,st)
    |some .nils=>some (true,st)
    |_=>none
   |_=>none
  |_=>none
 | .nest _ _=>some (true,st)
 | .view _=>some (true,st)
 | .opn _=>some (true,st)
 | .unfE slot=>match look st.env slot with
  |some (.s (.one (.eptr r i 0)))=>(WlY st r i).map λaf=>(true,af.put (some slot) (.s (.one (.ptr st.nx 0))))
  |_=>none
 | .unfS slot ix=>match look st.env slot with
  |some (.s (.one (.own r)))=>WoR st r ix
  |_=>none
 | .unfC slot off ix=>match look st.env slot with
  |some (.s (.one (.ptr id o)))=>match look st.objs id with
   |some (.box cs)=>match cs[o+off]? with
    |some (.own r)=>WoR st r ix
    |_=>none
   |_=>none
  |_=>none
 | .refold slot=>match look st.env slot with
  |some (.s (.one (.ptr p _)))=>(Wnx st p).map λaf=>(true,af)
  |_=>none
 | .empt slot e=>match look st.env slot with
  |some (.s (.one (.own id)))=>match look st.objs id with
   |some (.arr e' [])=>if e.size=e'.size/\e.ro=e'.ro then some (true,st.turn id (.arr e []))else none
   |_=>none
  |_=>none
 | .solo slot=>match look st.env slot with
  |some (.s (.one (.vw id lo hi)))=>match look st.objs id with
   |some (.arr e xs)=>some (true,(st.turn id .dead).new (some slot) (.arr e ((xs.take hi).drop lo)) (.s (.one (.own st.nx))))
   |_=>none
  |some (.s (.one (.own _)))=>some (true,st)
  |_=>none
 | .soloC slot off=>match look st.env slot with
  |some (.s (.one (.ptr id o)))=>match look st.objs id with
   |some (.box cs)=>match cs[o+off]? with
    |some (.vw j lo hi)=>match look st.objs j with
     |some (.arr e xs)=>some (true,{env:=st.env,objs:=(id,.box (cs.set (o+off) (.own st.nx)))::(st.nx,.arr e ((xs.take hi).drop lo))::(j,.dead)::st.objs,nx:=st.nx+1})
     |_=>none
    |some (.own _)=>some (true,st)
    |_=>none
   |_=>none
  |_=>none
def Wd2:List Ghost->St->Option (Bool×St)
 | [],st=>some (true,st)
 |g::l,st=>match Wfw g st with
  |some (c,af)=>match Wd2 l af with
   |some (c',bZ)=>some (c&&c',bZ)
   |none=>none
  |none=>none
def opG(A:List (Nat×An))(o:Oper)(st:St):Option (Bool×St):=match WwP A o,o.dst with
 |some .opn,some d=>match look st.env d with
  |some (.tup [])=>some (true,st)
  |_=>Wfw (.unfE d) st
 |some .view,_=>some (true,st)
 |some (.nest _),_=>some (true,st)
 |none,_=>some (true,st)
 |some .opn,none=>some (true,st)
def rxs{R:Type}(T:Tab)(Γ:Ctx)(A:List (Nat×An))(ops:Array Oper):List Oper->St->(St->Option R)->Option R
 | [],st,k=>k st
 |o::l,st,k=>rxg T Γ A ops o st λaf=>match opG A o af with
  |some (c,bZ)=>bif c then rxs T Γ A ops l bZ k else none
  |none=>none
def WfO:Code->Option Nat
 | .region id _ _=>some id
 | .seq a b=>match WfO a with
  |some i=>some i
  |none=>WfO b
 | .cond _ a b=>match WfO a with
  |some i=>some i
  |none=>WfO b
 | .block _ c=>WfO c
 | .loop c=>(WfO c).map (· +100000)
 |_=>none
def WfR(c:Code):Nat:=match WfO c with
 |some i=>i+100000
 |none=>99999
def Wke{R:Type}(gs:List Ghost)(f:St->(Ex->St->Option R)->Option R)(st:St)(k:Ex->St->Option R):Option R:=
 f st λe af=>match e with
  | .normal=>match Wd2 gs af with
   |some (c,bZ)=>bif c then k .normal bZ else none
   |none=>none
  | .exit id=>k (.exit id) af
  | .ret=>k .ret af
def Wac:Op->List Operand
 | .move x| .assign x| .box _ x| .load _ x| .nilCheck x| .unOp _ _ x| .convert _ _ x| .fieldAddr _ x _| .field _ x _| .extract x _=>[x]
 | .pick c a b=>[c,a,b]
 | .build _ ps| .buildSlice _ _ ps=>ps.toList.map (·.2)
 | .store _ a v| .binOp _ _ a v _| .makeSlice _ a v| .indexAddr _ a v| .index _ a v=>[a,v]
 | .makeFunc _ first captured=>first.toList++captured.toList
 | .slice _ x l h m=>x::(l.toList++(h.toList++m.toList))
 | .call c=>(match c.callee with| .value f=>[f]|_=>[])++c.args.toList
 |_=>[]
def WaM(o:Oper):Bool:=match o.op with
 | .alloc _| .box _ _| .buildSlice _ _ _| .makeSlice _ _ _| .store _ _ _| .slice _ _ _ _ _=>true
 | .call c=>match c.callee with
  | .builtin .append=>true
  | .builtin .clear=>true
  | .builtin _=>false
  |_=>true
 |_=>false
def WvU:Op->Bool
 | .load _ _| .nilCheck _| .convert _ _ _| .fieldAddr _ _ _| .indexAddr _ _ _| .call _=>true
 |_=>false
def Wen(st:St):List Operand->List Nat
 | []=>[]
 |x::l=>match ev st x with
  |some v=>WaX v++Wen st l
  |none=>Wen st l
def WcI(o:Oper)(st:St):List Nat:=bif WvU o.op then Wen st (Wac o.op)else []
def Whz(l:Wab):List Nat:=l.map (·.1)
def WrP(a b:Wab):List Nat:=Whz (b.take (b.length-a.length))
def WwM(x:Nat)(l:List Nat):List Nat:=bif WbS x l then l else x::l
def Wmn:List Nat->List Nat->List Nat
 | [],l=>l
 |x::m,l=>Wmn m (WwM x l)
def Wmg(o:Oper):List Nat:=(o.after.toList.filter (Region.binds .any)).map (·.on)
def Wkx(acc:List (List Nat)):List Nat->List Nat->List Nat
 | [],l=>l
 |j::ds,l=>Wkx acc ds (Wmn (acc.getD j []) (WwM j l))
def Wes:List Oper->List (List Nat)->List (List Nat)
 | [],acc=>acc
 |o::l,acc=>Wes l (acc++ [Wkx acc (Wmg o) []])
def Wc1(B:List (List Nat))(j i:Nat):Bool:=WbS j (B.getD i [])
def Wte:List Oper->Nat->Bool
 | [],_=>true
 |o::l,n=>(Wmg o).all (λd=>Nat.blt d n)&&Wte l (n+1)
def Wsf:Operand->List Nat
 | .tmp t=>[t]
 |_=>[]
def Wdg(ops:Array Oper)(o:Oper):List Nat:=(Wac o.op).flatMap Wsf++(match o.guard with
 |some (j,_)=>((ops[j]?).bind (·.dst)).toList
 |none=>[])
def Whx:List Oper->Nat->List (Nat×Nat)
 | [],_=>[]
 |o::l,i=>match o.dst with
  |some d=>(d,i)::Whx l (i+1)
  |none=>Whx l (i+1)
def Wkz(ops:Array Oper)(B:List (List Nat))(D:List (Nat×Nat)):List Oper->Nat->Bool
 | [],_=>true
 |o::l,i=>(Wdg ops o).all (λt=>D.all λp=>!Xbv p.1 t||Xbv p.2 i||Wc1 B p.2 i||Wc1 B i p.2)&&Wkz ops B D l (i+1)
def Wu8(ops:Array Oper)(B:List (List Nat)):Bool:=
 Wte ops.toList 0&&Wbm ((Whx ops.toList 0).map (·.1))&&Wkz ops B (Whx ops.toList 0) ops.toList 0
def Why:List Oper->Nat->List Nat
 | [],_=>[]
 |o::l,i=>bif WaM o then i::Why l (i+1)else Why l (i+1)
def WvA(B:List (List Nat)):Nat->List Nat->List (List Nat)
 |0,_=>[[]]
 |n+1,rem=>match rem with
  | []=>[[]]
  |_=>(rem.filter λm=>rem.all λm'=>!Wc1 B m' m).flatMap λm=>(WvA B n (rem.filter λx=>!Xbv x m)).map (m:: ·)
def WuI(ops:List Oper)(B:List (List Nat))(done:List Nat)(σ:List Nat):Nat->Option Nat:=λi=>match ops with
 | []=>none
 |o::l=>bif !WbS i done&&(B.getD i []).all (λj=>WbS j done)&&(!WaM o||(match σ with|m::_=>Xbv m i| []=>false))then some i else WuI l B done σ (i+1)
def Wlb(ops:List Oper)(B:List (List Nat)):Nat->List Nat->List Nat->List Nat
 |0,_,_=>[]
 |n+1,done,σ=>match WuI ops B done σ 0 with
  |some i=>i::Wlb ops B n (i::done) (match σ with|m::σ'=>bif Xbv m i then σ' else σ| []=>[])
  |none=>[]
def Wjc(ops:Array Oper):List Nat->List Nat->Bool
 | [],done=>Xbv done.length ops.size
 |i::l,done=>!WbS i done&&(match ops[i]? with|some o=>(Wmg o).all (λd=>WbS d done)|none=>false)&&Wjc ops l (i::done)
def Wf5{α:Type}:List Nat->(List Nat->α)->α
 | [],k=>k []
 |x::l,k=>Wf5 l λl'=>k (x::l')
def WoY{α:Type}:List (List Nat)->(List (List Nat)->α)->α
 | [],k=>k []
 |x::l,k=>Wf5 x λx'=>WoY l λl'=>k (x'::l')
def rdx{R:Type}(T:Tab)(Γ:Ctx)(A:List (Nat×An))(ops:Array Oper)(B:List (List Nat)):List Nat->List (Nat×List Nat)->List (Nat×List Nat)->St->(St->Option R)->Option R
 | [],_,_,st,k=>k st
 |i::l,fl,mu,st,k=>match ops[i]? with
  |some o=>bif WaM o
   then rxg T Γ A ops o st λaf=>Wf5 (WrP st.objs af.objs) λids=>
    bif fl.all (λp=>Wc1 B p.1 i||WgP p.2 ids)then rdx T Γ A ops B l fl ((i,ids)::mu) af k else none
   else Wf5 (WcI o st) λids=>
    bif mu.all (λp=>Wc1 B p.1 i||WgP ids p.2)then rxg T Γ A ops o st λaf=>rdx T Γ A ops B l ((i,ids)::fl) mu af k else none
  |none=>none
def Wq{α β:Type}(x:α)(f:α->β):β:=f x
open Classical in
noncomputable def Wfc{α:Type}(a b:Option α):Option α:=if a=b then a else none
noncomputable def Wwk{R:Type}(T:Tab)(Γ:Ctx)(A:List (Nat×An))(ops:Array Oper)(B:List (List Nat))(st:St)(k:St->Option R):List (List Nat)->Option R
 | []=>none
 |σ::l=>
  let a:=Wf5 (Wlb ops.toList B ops.size [] σ) λL=>bif Wjc ops L []&&eqN (L.filter λi=>WbS i σ) σ then rdx T Γ A ops B L [] [] st k else none
  match l with
  | []=>a
  |_=>Wfc a (Wwk T Γ A ops B st k l)
noncomputable def Wvg{R:Type}(T:Tab)(Γ:Ctx)(A:List (Nat×An))(ops:Array Oper)(st:St)(k:St->Option R):Option R:=
 WoY (Wes ops.toList []) λB=>bif Wu8 ops B then Wwk T Γ A ops B st k (WvA B ops.size (Why ops.toList 0))else none
noncomputable def sx{R:Type}(T:Tab)(Γ:Ctx)(ann:Nat->List Ghost)(N:Nat):Code->St->(Ex->St->Option R)->Option R
 | .skip,st,k=>k .normal st
 | .region id ops draw,st,k=>
  bif draw then Wvg T Γ (Wmu (ann id)) ops st λaf=>match Wd2 (ann id) af with
   |some (c,bZ)=>bif c then k .normal bZ else none
   |none=>none
  else rxs T Γ (Wmu (ann id)) ops ops.toList st λaf=>match Wd2 (ann id) af with
   |some (c,bZ)=>bif c then k .normal bZ else none
   |none=>none
 | .seq a b,st,k=>sx T Γ ann N a st λe af=>match e with
  | .normal=>sx T Γ ann N b af k
  | .exit id=>k (.exit id) af
  | .ret=>k .ret af
 | .cond c x y,st,k=>match(ev st c).bind asB with
  |some b=>bif b then sx T Γ ann N x st k else sx T Γ ann N y st k
  |none=>none
 | .block id c,st,k=>sx T Γ ann N c st λe af=>match e with
  | .exit bG=>if bG=id then k .normal af else k (.exit bG) af
  | .normal=>k .normal af
  | .ret=>k .ret af
 | .loop c,st,k=>match Wd2 (ann (WfR c)) st with
  |some (b,af)=>bif b then Wn5 (Wke (ann (WfR c)) λst k=>sx T Γ ann N c st k) N af k else none
  |none=>none
 | .exit id,st,k=>k (.exit id) st
 | .ret,st,k=>k .ret st
 |_,_,_=>none
def Wrx:List AVal->List Nat
 | []=>[]
 | .s (.one (.ptr id 0))::l=>id::Wrx l
 |_::l=>Wrx l
def WH:(ps:List PTy)->Wfp ps->Wab->Nat->List AVal×Wab×Nat
 | [],_,objs,nx=>([],objs,nx)
 | .v t agg::ps,d,objs,nx=>
  let x:=unfold t d.1 nx
  let y:=WH ps d.2 (x.2.1++objs) x.2.2
  (.s (Wwn agg x.1)::y.1,y.2)
 | .box t::ps,d,objs,nx=>
  let x:=unfold t d.1 (nx+1)
  let y:=WH ps d.2 ((nx,.box x.1)::(x.2.1++objs)) x.2.2
  (.s (.one (.ptr nx 0))::y.1,y.2)
 | .mut e::ps,d,objs,nx=>
  let y:=WH ps d.2 ((nx,.arr e d.1)::objs) (nx+1)
  (.s (.one (.own nx))::y.1,y.2)
 | .clos g n::ps,d,objs,nx=>
  let y:=WH ps d objs nx
  (.s (.one (.clos g (Wrx (y.1.take n))))::y.1.drop n,y.2)
 | .kv t agg::ps,d,objs,nx=>
  let x:=unfold t d.1 nx
  let y:=WH ps d.2 (x.2.1++objs) x.2.2
  (.s (Wwn agg x.1)::y.1,y.2)
 | .rp t::ps,d,objs,nx=>
  let y:=WH ps d.2 objs nx
  (.s (.one (.rptr t d.1 0))::y.1,y.2)
 | .vj _::ps,d,objs,nx=>
  let y:=WH ps d objs nx
  (.tup []::y.1,y.2)
 | .boxal t lf::ps,d,objs,nx=>
  let x:=unfold t d.1 (nx+1)
  let y:=WH ps d.2.2 ((nx,.box x.1)::(x.2.1++objs)) x.2.2
  (.s (.one (.ptr nx 0)):: .s (.one (.eptr (nx+1+lf) d.2.1 0))::y.1,y.2)
def WgY:Nat->List AVal->List (Nat×AVal)
 |_,[]=>[]
 |i,x::xs=>(i,x)::WgY (i+1) xs
def Weo(T:Tab)(st:St):List ResultVar->Option (List AVal)
 | []=>some []
 | .tmp t::rs=>match look st.env t,Weo T st rs with
  |some x,some xs=>some (x::xs)
  |_,_=>none
 | .cell a t::rs=>match(look st.env a).bind (Whh T st t),Weo T st rs with
  |some x,some xs=>some (x::xs)
  |_,_=>none
structure Outs(α:Type) where
 d:α
 moved:List Nat
 lent:List Nat
def WaY:(rs:List PTy)->List AVal->Wab->Option (Outs (WgM rs))
 | [],xs,_=>match xs with
  | []=>some ⟨(),[],[]⟩
  |_=>none
 | .v t agg::rs,xs,objs=>match xs with
  |x::xs=>match(cellsOf agg x).bind λcs=>Wap t cs objs,WaY rs xs objs with
   |some (d,m,l),some A=>some ⟨(d,A.d),m++A.moved,l++A.lent⟩
   |_,_=>none
  |_=>none
 | .box t::rs,xs,objs=>match xs with
  | .s (.one (.ptr id 0))::xs=>match look objs id with
   |some (.box cs)=>match Wap t cs objs,WaY rs xs objs with
    |some (d,m,l),some A=>some ⟨(d,A.d),id::(m++A.moved),l++A.lent⟩
    |_,_=>none
   |_=>none
  |_=>none
 | .mut _::_,_,_=>none
 | .clos _ _::_,_,_=>none
 | .kv _ _::_,_,_=>none
 | .rp _::_,_,_=>none
 | .vj t::rs,xs,objs=>match xs with
  | .s (.agg cs)::xs=>if cs.length=t.size+1 then(match Wap t (cs.take t.size) objs,WaY rs xs objs with
   |some (d,m,l),some A=>some ⟨(d,A.d),m++A.moved,l++A.lent⟩
   |_,_=>none)else none
  |_=>none
 | .boxal _ _::_,_,_=>none
structure OutK(α:Type) where
 d:α
 kept:List Nat
 moved:List Nat
 lent:List Nat
def Wp:List PTy->Nat->Nat->St->List AVal
 | [],_,_,_=>[]
 |_::ps,i,k+1,st=>Wp ps i k st
 | .v _ _::ps,i,0,st=>.tup []::Wp ps (i+1) 0 st
 | .box _::ps,i,0,st=>(look st.env i).getD (.tup [])::Wp ps (i+1) 0 st
 | .mut _::ps,i,0,st=>(look st.env i).getD (.tup [])::Wp ps (i+1) 0 st
 | .clos _ n::ps,i,0,st=>(look st.env i).getD (.tup [])::Wp ps (i+1) n st
 | .kv _ _::ps,i,0,st=>(look st.env i).getD (.tup [])::Wp ps (i+1) 0 st
 | .rp _::ps,i,0,st=>.tup []::Wp ps (i+1) 0 st
 | .vj _::ps,i,0,st=>.tup []::Wp ps (i+1) 0 st
 | .boxal _ _::ps,i,0,st=>(look st.env i).getD (.tup []):: .tup []::Wp ps (i+2) 0 st
def WW:(ps:List PTy)->List AVal->Wab->Option (OutK (WfW ps))
 | [],_,_=>some ⟨(),[],[],[]⟩
 | .v _ _::ps,xs,objs=>(WW ps xs.tail objs).map λA=>⟨A.d,A.kept,A.moved,A.lent⟩
 | .box t::ps,xs,objs=>match xs with
  | .s (.one (.ptr id 0))::xs=>match look objs id with
   |some (.box cs)=>match Wap t cs objs,WW ps xs objs with
    |some (d,m,l),some A=>some ⟨(d,A.d),id::A.kept,m++A.moved,l++A.lent⟩
    |_,_=>none
   |_=>none
  |_=>none
 | .mut e::ps,xs,objs=>match xs with
  | .s (.one (.own id))::xs=>match look objs id with
   |some (.arr e' ys)=>match WfY e' e ys,WW ps xs objs with
    |some d,some A=>some ⟨(d,A.d),id::A.kept,A.moved,A.lent⟩
    |_,_=>none
   |_=>none
  |_=>none
 | .clos g n::ps,xs,objs=>match xs with
  | .s (.one (.clos g' caps))::xs=>if g'=g/\caps.length=n then(WW ps (WjP caps++xs) objs).map λA=>⟨A.d,A.kept,A.moved,A.lent⟩else none
  |_=>none
 | .kv t agg::ps,xs,objs=>match xs with
  |x::xs=>match(cellsOf agg x).bind λcs=>Wap t cs objs,WW ps xs objs with
   |some (d,m,l),some A=>if Wmo objs t m x then some ⟨(d,A.d),m++A.kept,A.moved,l++A.lent⟩else none
   |_,_=>none
  |_=>none
 | .rp _::ps,xs,objs=>(WW ps xs.tail objs).map λA=>⟨A.d,A.kept,A.moved,A.lent⟩
 | .vj _::_,_,_=>none
 | .boxal t _::ps,xs,objs=>match xs with
  | .s (.one (.ptr id 0))::_::xs=>match look objs id with
   |some (.box cs)=>match Wap t cs objs,WW ps xs objs with
    |some (d,m,l),some A=>some ⟨(d,A.d),id::A.kept,m++A.moved,l++A.lent⟩
    |_,_=>none
   |_=>none
  |_=>none
def Ww2{R:Type}(T:Tab)(sg:Sig)(rv:List ResultVar)(k:WfW sg.ps×WgM sg.rs->Option R)(e:Ex)(st:St):Option R:=
 match e with
 | .exit _=>none
 |_=>match Weo T st rv with
  |some xs=>match WaY sg.rs xs st.objs,WW sg.ps (Wp sg.ps 0 0 st) st.objs with
   |some A,some B=>if Wbm (B.kept++(B.moved++A.moved))&&WgP (A.lent++B.lent) (B.kept++(B.moved++A.moved))then k (B.d,A.d)else none
   |_,_=>none
  |none=>none
noncomputable def den{R:Type}(T:Tab)(Γ:Ctx)(ann:Nat->List Ghost)(N:Nat)(sg:Sig)(f:Func)(d:Wfp sg.ps)(k:WfW sg.ps×WgM sg.rs->Option R):Option R:=
 let x:=WH sg.ps d [] 0
 match f.body,Wd2 (ann 1000000) {env:=WgY 0 x.1,objs:=x.2.1,nx:=x.2.2}with
 |some c,some (b,st)=>bif b then sx T Γ ann N c st (Ww2 T sg f.results.toList k)else none
 |_,_=>none
def Wd4:List PTy->Nat->Nat->List Nat
 | [],_,_=>[]
 |_::ps,i,k+1=>Wd4 ps i k
 | .v _ _::ps,i,0=>Wd4 ps (i+1) 0
 | .box _::ps,i,0=>i::Wd4 ps (i+1) 0
 | .mut _::ps,i,0=>i::Wd4 ps (i+1) 0
 | .clos _ n::ps,i,0=>i::Wd4 ps (i+1) n
 | .kv _ _::ps,i,0=>i::Wd4 ps (i+1) 0
 | .rp _::ps,i,0=>Wd4 ps (i+1) 0
 | .vj _::ps,i,0=>Wd4 ps (i+1) 0
 | .boxal _ _::ps,i,0=>i::Wd4 ps (i+2) 0
def WbH:List PTy->Nat
 | []=>0
 | .v _ _::ps=>WbH ps+1
 | .box _::ps=>WbH ps+1
 | .mut _::ps=>WbH ps+1
 | .clos _ _::ps=>WbH ps+1
 | .kv _ _::ps=>WbH ps+1
 | .rp _::ps=>WbH ps+1
 | .vj _::ps=>WbH ps+1
 | .boxal _ _::ps=>WbH ps+2
def Wju:List PTy->Nat->Bool
 |_,0=>true
 | .box _::ps,n+1=>Wju ps n
 |_,_+1=>false
def Wcj:List PTy->Bool
 | []=>true
 | .clos _ n::ps=>Wju ps n&&Wcj ps
 | .v _ _::ps=>Wcj ps
 | .box _::ps=>Wcj ps
 | .mut _::ps=>Wcj ps
 | .kv _ _::ps=>Wcj ps
 | .rp _::ps=>Wcj ps
 | .vj _::ps=>Wcj ps
 | .boxal _ _::ps=>Wcj ps
end Go.Sx
namespace Go.Sx
set_option linter.unusedVariables false
theorem EncL_len{α:Type}{R:α->List Value->Prop}{n:Nat}(h:∀x c,R x c->c.length=n):
  ∀(l:List α) (cs:List Value),EncL R l cs->cs.length=l.length*n
 | [],cs,e=>by simp[EncL]at e;simp[e]
 |x::l,cs,e=>by
  obtain⟨c1,c2,rfl,h1,h2⟩:=e;have:=EncL_len h l c2 h2;rw[Xz,h _ _ h1,this,Xr,Xcc,Xcs]
theorem Wm2{α:Type}{R R':α->List Value->Prop}(h:∀x c,R x c->R' x c):
  ∀(l:List α) (cs:List Value),EncL R l cs->EncL R' l cs
 | [],_,e=>e
 |_::l,_,⟨c1,c2,he,h1,h2⟩=>⟨c1,c2,he,h _ _ h1,Wm2 h l c2 h2⟩
theorem Wd1{α:Type}{R:α->List Value->Prop}:∀(l l':List α) (cs cs':List Value),EncL R l cs->EncL R l' cs'->EncL R (l++l') (cs++cs')
 | [],_,cs,cs',e,e'=>by simp[EncL]at e;subst e;simpa using e'
 |x::l,l',_,cs',⟨c1,c2,he,h1,h2⟩,e'=>⟨c1,c2++cs',by simp[he],h1,Wd1 l l' c2 cs' h2 e'⟩
theorem EncL_nth{α:Type}{R:α->List Value->Prop}{n:Nat}(h:∀x c,R x c->c.length=n):
  ∀(l:List α) (cs:List Value) (i:Nat) (x:α),EncL R l cs->l[i]?=some x->R x ((cs.drop (i*n)).take n)
 | [],_,_,_,_,hi=>by simp at hi
 |y::l,cs,0,x,⟨c1,c2,he,h1,_⟩,hi=>by
  simp at hi;subst hi;have:=h _ _ h1;simp[he,←this,h1]
 |y::l,cs,i+1,x,⟨c1,c2,he,h1,h2⟩,hi=>by
  have hl:=h _ _ h1;have:=EncL_nth h l c2 i x h2 (by simpa using hi);rw[he,Xcc,Xcs,←Xdu,List.drop_left' hl];exact this
theorem Weg{α:Type}{R:α->List Value->Prop}{n:Nat}(h:∀x c,R x c->c.length=n):
  ∀(l:List α) (cs:List Value) (m:Nat),EncL R l cs->EncL R (l.take m) (cs.take (m*n))
 | [],cs,m,e=>by simp[EncL]at e;simp[e,EncL]
 |x::l,cs,0,_=>by simp[EncL]
 |x::l,cs,m+1,⟨c1,c2,he,h1,h2⟩=>by
  have hl:=h _ _ h1;refine⟨c1,c2.take (m*n),?_,h1,Weg h l c2 m h2⟩;rw[he,Xcc,Xcs,←hl,Xfk]
theorem WeF{α:Type}{R:α->List Value->Prop}{n:Nat}(h:∀x c,R x c->c.length=n):
  ∀(l:List α) (cs:List Value) (m:Nat),EncL R l cs->EncL R (l.drop m) (cs.drop (m*n))
 | [],cs,m,e=>by simp[EncL]at e;simp[e,EncL]
 |x::l,cs,0,e=>by simpa using e
 |x::l,cs,m+1,⟨c1,c2,he,h1,h2⟩=>by
  have hl:=h _ _ h1;have:=WeF h l c2 m h2;show EncL R (l.drop m) (cs.drop ((m+1)*n));have e1:(m+1)*n=c1.length+m*n:=by rw[Xcc,hl,Xcs]
  rw[he,e1,←Xdu,Xgi];exact this
theorem Wla{α:Type}{R:α->List Value->Prop}{n:Nat}(h:∀x c,R x c->c.length=n):
  ∀(l:List α) (cs:List Value) (i:Nat) (x:α) (ds:List Value),EncL R l cs->i<l.length->R x ds->
   EncL R (l.set i x) (cs.take (i*n)++ds++cs.drop (i*n+n))
 | [],_,_,_,_,_,hi,_=>by simp at hi
 |y::l,cs,0,x,ds,⟨c1,c2,he,h1,h2⟩,_,hx=>by
  have hl:=h _ _ h1;refine⟨ds,c2,?_,hx,h2⟩;simp[he,←hl]
 |y::l,cs,i+1,x,ds,⟨c1,c2,he,h1,h2⟩,hi,hx=>by
  have hl:=h _ _ h1;refine⟨c1,_,?_,h1,Wla h l c2 i x ds h2 (by simpa using hi) hx⟩;have e1:(i+1)*n=c1.length+i*n:=by rw[Xcc,hl,Xcs]
  rw[he,e1,Xfk,Xar,←Xdu,Xgi];simp
theorem Enc_len{G:GH}:∀(t:Ty) (d:t.den) (cs:List Value),Enc G t d cs->cs.length=t.size
 | .int _,_,_,h=>by simp[Enc]at h;simp[h,Ty.size]
 | .bool,_,_,h=>by simp[Enc]at h;simp[h,Ty.size]
 | .str,_,_,h=>by simp[Enc]at h;simp[h,Ty.size]
 | .slice _,_,_,h=>by obtain⟨v,rfl,_⟩:=h;simp[Ty.size]
 | .own _,_,_,h=>h.elim
 | .prod a b,d,_,h=>by
  obtain⟨c1,c2,rfl,h1,h2⟩:=h;rw[Xz,Enc_len a _ _ h1,Enc_len b _ _ h2,Ty.size]
def GLe(G G':GH):Prop:=∀b o v,G b o=some v->G' b o=some v
theorem Wih{G G':GH}(h:GLe G G'){b o:Nat}{cs:List Value}(hs:Wfl G b o cs):Wfl G' b o cs:=λj v hj=>h _ _ _ (hs j v hj)
theorem Wa0{G G':GH}(h:GLe G G'):∀(t:Ty) (d:t.den) (cs:List Value),Enc G t d cs->Enc G' t d cs
 | .int _,_,_,e=>e
 | .bool,_,_,e=>e
 | .str,_,_,e=>e
 | .slice e,d,cs,hh=>by
  obtain⟨v,hv,hr⟩:=hh;refine⟨v,hv,?_⟩;rcases hr with hr|⟨b,off,cap,cs',h1,h2,h3,h4,h5⟩|hr
  .exact .inl hr
  rotate_left
  .exact .inr (.inr hr)
  .exact .inr<| .inl ⟨b,off,cap,cs',h1,h2,h3,Wm2 (λx c hx=>Wa0 h e x c hx) _ _ h4,Wih h h5⟩
 | .own _,_,_,e=>e
 | .prod a b,d,_,⟨c1,c2,he,h1,h2⟩=>⟨c1,c2,he,Wa0 h a _ _ h1,Wa0 h b _ _ h2⟩
section
variable{G:GH}{ν:Nat->Nu}{nx:Nat}
theorem CellsRel.nil:CellsRel G ν nx [] []:=⟨rfl,λj c v h=>by simp at h⟩
theorem CellsRel.append{cs cs':List Cell}{vs vs':List Value}(h:CellsRel G ν nx cs vs)(h':CellsRel G ν nx cs' vs'):
  CellsRel G ν nx (cs++cs') (vs++vs'):=by
 refine⟨by simp[h.1,h'.1],λj c v hc hv=>?_⟩;rw[Xbc]at hc hv;rw[h.1]at hv;split at hc
 .rename_i hlt;rw[if_pos hlt]at hv;exact h.2 j c v hc hv
 .rename_i hlt;rw[if_neg hlt]at hv;exact h'.2 _ c v hc hv
theorem CellsRel.take{cs:List Cell}{vs:List Value}(h:CellsRel G ν nx cs vs)(n:Nat):CellsRel G ν nx (cs.take n) (vs.take n):=by
 refine⟨by simp[h.1],λj c v hc hv=>?_⟩;rw[Xbn]at hc hv;split at hc
 .rename_i hlt;rw[if_pos hlt]at hv;exact h.2 j c v hc hv
 .simp at hc
theorem CellsRel.drop{cs:List Cell}{vs:List Value}(h:CellsRel G ν nx cs vs)(n:Nat):CellsRel G ν nx (cs.drop n) (vs.drop n):=by
 refine⟨by simp[h.1],λj c v hc hv=>?_⟩;rw[Xbo]at hc hv;exact h.2 _ c v hc hv
theorem CellsRel.one{c:Cell}{v:Value}(h:CellRel G ν nx c v)(sR:v.oneCell'=true):CellsRel G ν nx [c] [v]:=by
 refine⟨rfl,λj c' v' hc hv=>?_⟩;cases j with
 |zero=>simp at hc hv;subst hc hv;exact⟨h,sR⟩
 |succ j=>simp at hc
theorem WaA:∀(t:Ty) (d:t.den) (vs:List Value),Enc G t d vs->CellsRel G ν nx (split t d) vs
 | .int k,d,vs,h=>by have h':=h;simp only[Enc]at h';subst h';exact CellsRel.one h rfl
 | .bool,d,vs,h=>by have h':=h;simp only[Enc]at h';subst h';exact CellsRel.one h rfl
 | .str,d,vs,h=>by have h':=h;simp only[Enc]at h';subst h';exact CellsRel.one h rfl
 | .slice e,d,vs,h=>by
  obtain⟨v,rfl,hr⟩:=h;refine CellsRel.one ⟨v,rfl,hr⟩ ?_;rcases hr with⟨rfl,_⟩|⟨_,_,_,_,rfl,_⟩|⟨_,_,rfl,_⟩<;>rfl
 | .own _,_,_,h=>h.elim
 | .prod a b,d,vs,⟨c1,c2,he,h1,h2⟩=>by
  subst he;exact(WaA a _ _ h1).append (WaA b _ _ h2)
end
def Wrg(nx:Nat)(ν ν':Nat->Nu):Prop:=∀id,id<nx->ν' id=ν id
section
variable{G G':GH}{ν ν':Nat->Nu}{nx ah:Nat}
theorem CellRel.mono(hg:GLe G G')(hn:Wrg nx ν ν')(hx:nx<=ah):
  ∀(c:Cell) (v:Value),CellRel G ν nx c v->CellRel G' ν' ah c v
 | .val t d,v,h=>Wa0 hg t d _ h
 | .nils,_,h=>h
 | .own id,v,⟨h1,h2⟩=>⟨Xbr h1 hx,by rw[hn id h1];exact h2⟩
 | .vw id lo hi,v,⟨h1,h2⟩=>⟨Xbr h1 hx,by rw[hn id h1];exact h2⟩
 | .aptr id,v,⟨h1,h2⟩=>⟨Xbr h1 hx,by rw[hn id h1];exact h2⟩
 | .ptr id off,v,⟨h1,h2⟩=>⟨Xbr h1 hx,by rw[hn id h1];exact h2⟩
 | .eptr id i off,v,⟨h1,h2⟩=>⟨Xbr h1 hx,by rw[hn id h1];exact h2⟩
 | .rptr t d off,v,⟨b,o,cs,h1,h2,h3⟩=>⟨b,o,cs,h1,Wa0 hg t d _ h2,Wih hg h3⟩
 | .clos f caps,v,⟨vs,h1,h2,h3⟩=>⟨vs,h1,h2,λj id u hc hv=>by
   obtain⟨h4,h6,h5⟩:=h3 j id u hc hv;exact⟨Xbr h4 hx,h6,by rw[hn id h4];exact h5⟩⟩
 | .junk,_,_=>trivial
theorem CellsRel.mono(hg:GLe G G')(hn:Wrg nx ν ν')(hx:nx<=ah){cs:List Cell}{vs:List Value}(h:CellsRel G ν nx cs vs):CellsRel G' ν' ah cs vs:=
 ⟨h.1,λj c v hc hv=>⟨CellRel.mono hg hn hx c v (h.2 j c v hc hv).1,(h.2 j c v hc hv).2⟩⟩
theorem AvRel.mono(hg:GLe G G')(hn:Wrg nx ν ν')(hx:nx<=ah):∀(x:AV) (v:Value),AvRel G ν nx x v->AvRel G' ν' ah x v
 | .one c,v,h=>⟨CellRel.mono hg hn hx c v h.1,h.2⟩
 | .agg cs,v,⟨vs,he,h⟩=>⟨vs,he,h.mono hg hn hx⟩
theorem AValRel.mono(hg:GLe G G')(hn:Wrg nx ν ν')(hx:nx<=ah):∀(x:AVal) (v:Value),AValRel G ν nx x v->AValRel G' ν' ah x v
 | .s x,v,h=>AvRel.mono hg hn hx x v h
 | .tup xs,v,⟨vs,he,hl,h⟩=>⟨vs,he,hl,λj x u eQ hu=>AvRel.mono hg hn hx x u (h j x u eQ hu)⟩
end
theorem WiZ(nu:Nu):nu.hdr.oneCell'=true:=by unfold Nu.hdr;split<;>rfl
theorem Wo5(nu:Nu)(lo hi:Nat):(nu.vhdr lo hi).oneCell'=true:=by unfold Nu.vhdr;split<;>rfl
section
variable{α:Type}{R R':α->List Value->List Pc->Prop}
theorem WaQ{n:Nat}(h:∀x c p,R x c p->c.length=n):∀(l:List α) (cs:List Value) (ps:List Pc),EncP R l cs ps->cs.length=l.length*n
 | [],cs,ps,e=>by simp[e.1]
 |x::l,cs,ps,⟨c1,c2,p1,p2,he,hp,h1,h2⟩=>by
  rw[he,Xz,h _ _ _ h1,WaQ h l c2 p2 h2,Xr,Xcc,Xcs]
theorem WbQ{Q:Pc->Prop}(h:∀x c p,(∀q∈p,Q q)->R x c p->R' x c p):∀(l:List α) (cs:List Value) (ps:List Pc),(∀q∈ps,Q q)->EncP R l cs ps->EncP R' l cs ps
 | [],_,_,_,e=>e
 |_::l,_,_,hq,⟨c1,c2,p1,p2,he,hp,h1,h2⟩=>by
  subst hp;exact⟨c1,c2,p1,p2,he,rfl,h _ _ _ (λq hm=>hq q (Xk _ hm)) h1,WbQ h l c2 p2 (λq hm=>hq q (Xg _ hm)) h2⟩
theorem WdT:∀(l l':List α) (cs cs':List Value) (ps pG:List Pc),EncP R l cs ps->EncP R l' cs' pG->EncP R (l++l') (cs++cs') (ps++pG)
 | [],_,cs,cs',ps,pG,e,e'=>by obtain⟨rfl,rfl⟩:=e;exact e'
 |x::l,l',_,cs',_,pG,⟨c1,c2,p1,p2,he,hp,h1,h2⟩,e'=>⟨c1,c2++cs',p1,p2++pG,by simp[he],by simp[hp],h1,WdT l l' c2 cs' p2 pG h2 e'⟩
theorem Wkg:∀(l l':List α) (cs:List Value) (ps:List Pc),EncP R (l++l') cs ps->∃c1 c2 p1 p2,cs=c1++c2/\ps=p1++p2/\EncP R l c1 p1/\EncP R l' c2 p2
 | [],l',cs,ps,e=>⟨[],cs,[],ps,rfl,rfl,⟨rfl,rfl⟩,e⟩
 |x::l,l',cs,ps,⟨c1,c2,p1,p2,he,hp,h1,h2⟩=>by
  obtain⟨d1,d2,q1,q2,g1,g2,g3,g4⟩:=Wkg l l' c2 p2 h2;exact⟨c1++d1,d2,p1++q1,q2,by simp[he,g1],by simp[hp,g2],⟨c1,d1,p1,q1,rfl,rfl,h1,g3⟩,g4⟩
theorem Wo1{x:α}{cs:List Value}{ps:List Pc}:EncP R [x] cs ps↔R x cs ps:=by
 constructor
 .rintro⟨c1,c2,p1,p2,he,hp,h1,h2,h3⟩;subst h2 h3 he hp;simpa using h1
 .intro h;exact⟨cs,[],ps,[],by simp,by simp,h,rfl,rfl⟩
theorem Wey(l:List α)(cs:List Value)(ps:List Pc)(n:Nat)(h:EncP R l cs ps):∃c1 c2 p1 p2,cs=c1++c2/\ps=p1++p2/\EncP R (l.take n) c1 p1/\EncP R (l.drop n) c2 p2:=
 Wkg _ _ _ _ (by rw[Xdg];exact h)
theorem Wny{l:List α}{cs:List Value}{ps:List Pc}{i:Nat}(h:EncP R l cs ps)(d:α)(hi:i<l.length):
  ∃c1 c c2 p1 p p2,cs=c1++(c++c2)/\ps=p1++(p++p2)/\EncP R (l.take i) c1 p1/\R (l.getD i d) c p/\EncP R (l.drop (i+1)) c2 p2:=by
 obtain⟨c1,c',p1,p',h1,h2,h3,h4⟩:=Wey l cs ps i h;have e:l.drop i=l.getD i d::l.drop (i+1):=by
  rw[List.drop_eq_getElem_cons hi];simp[Xd,hi]
 rw[e]at h4;obtain⟨c,c2,p,p2,h5,h6,h7,h8⟩:=h4;exact⟨c1,c,c2,p1,p,p2,by rw[h1,h5],by rw[h2,h6],h3,h7,h8⟩
theorem WoW{l:List α}{c1 c c2:List Value}{p1 p p2:List Pc}{i:Nat}{x:α}(hi:i<l.length)(h1:EncP R (l.take i) c1 p1)(h:R x c p)(h2:EncP R (l.drop (i+1)) c2 p2):
  EncP R (l.set i x) (c1++(c++c2)) (p1++(p++p2)):=by
 have e:l.set i x=l.take i++(x::l.drop (i+1)):=by
  rw[Xep,if_pos hi]
 rw[e];exact WdT _ _ _ _ _ _ h1 ⟨c,c2,p,p2,rfl,rfl,h,h2⟩
end
section
variable{G G':GH}{w w':World}
theorem Wu:∀(t:Ty) (d:t.den) (vs:List Value) (ns:List Pc),TyRel G w t d vs ns->vs.length=t.size
 | .own e,xs,vs,ns,⟨p,_,h,_⟩=>by rw[h];rfl
 | .prod a b,d,vs,ns,⟨v1,v2,n1,n2,h1,h2,h3,h4⟩=>by
  rw[h1,Xz,Wu a _ _ _ h3,Wu b _ _ _ h4];rfl
 | .int k,d,vs,ns,h=>Enc_len _ _ _ h.2
 | .bool,d,vs,ns,h=>Enc_len _ _ _ h.2
 | .str,d,vs,ns,h=>Enc_len _ _ _ h.2
 | .slice e,d,vs,ns,h=>Enc_len _ _ _ h.2
theorem W2:∀(t:Ty) (d:t.den) (vs:List Value) (ns:List Pc),TyRel G w t d vs ns->ns.length=t.owns
 | .own e,xs,vs,ns,⟨nu,h,_⟩=>by rw[h];rfl
 | .prod a b,d,vs,ns,⟨v1,v2,n1,n2,h1,h2,h3,h4⟩=>by rw[h2,Xz,W2 a _ _ _ h3,W2 b _ _ _ h4];rfl
 | .int k,d,vs,ns,h=>by rw[h.1];rfl
 | .bool,d,vs,ns,h=>by rw[h.1];rfl
 | .str,d,vs,ns,h=>by rw[h.1];rfl
 | .slice e,d,vs,ns,h=>by rw[h.1];rfl
theorem WaW:∀(t:Ty) (d:t.den) (vs:List Value) (ns:List Pc),t.data=true->(TyRel G w t d vs ns↔Enc G t d vs/\ns= [])
 | .own e,xs,vs,ns,h=>by simp[Ty.data]at h
 | .prod a b,d,vs,ns,h=>by
  simp only[Ty.data,Xh]at h;constructor
  .rintro⟨v1,v2,n1,n2,h1,h2,h3,h4⟩;obtain⟨e1,e2⟩:=(WaW a _ _ _ h.1).1 h3;obtain⟨e3,e4⟩:=(WaW b _ _ _ h.2).1 h4;exact⟨⟨v1,v2,h1,e1,e3⟩,by rw[h2,e2,e4];rfl⟩
  .rintro⟨⟨v1,v2,h1,h2,h3⟩,h4⟩;exact⟨v1,v2,[],[],h1,h4,(WaW a _ _ _ h.1).2 ⟨h2,rfl⟩,(WaW b _ _ _ h.2).2 ⟨h3,rfl⟩⟩
 | .int k,d,vs,ns,_=>⟨λh=>⟨h.2,h.1⟩,λh=>⟨h.2,h.1⟩⟩
 | .bool,d,vs,ns,_=>⟨λh=>⟨h.2,h.1⟩,λh=>⟨h.2,h.1⟩⟩
 | .str,d,vs,ns,_=>⟨λh=>⟨h.2,h.1⟩,λh=>⟨h.2,h.1⟩⟩
 | .slice e,d,vs,ns,_=>⟨λh=>⟨h.2,h.1⟩,λh=>⟨h.2,h.1⟩⟩
theorem EncP_data{e:Ty}(he:e.data=true):∀(xs:List e.den) (cs:List Value) (ps:List Pc),EncP (TyRel G w e) xs cs ps↔EncL (Enc G e) xs cs/\ps= []
 | [],cs,ps=>Iff.rfl
 |x::xs,cs,ps=>by
  constructor
  .rintro⟨c1,c2,p1,p2,h1,h2,h3,h4⟩;obtain⟨e1,e2⟩:=(WaW e _ _ _ he).1 h3;obtain⟨e3,e4⟩:=(EncP_data he xs _ _).1 h4;exact⟨⟨c1,c2,h1,e1,e3⟩,by rw[h2,e2,e4];rfl⟩
  .rintro⟨⟨c1,c2,h1,h2,h3⟩,h4⟩;exact⟨c1,c2,[],[],h1,h4,(WaW e _ _ _ he).2 ⟨h2,rfl⟩,(EncP_data he xs _ _).2 ⟨h3,rfl⟩⟩
structure Same(S:CS)(w w':World):Prop where
 row:∀b n,Row w b n->Row w' b n
 cell:∀b o,S b o->w'.cell? ⟨b,o,none⟩=w.cell? ⟨b,o,none⟩
theorem Same.mono{S S':CS}(h:Same S w w')(hl:CS.le S' S):Same S' w w':=⟨h.row,λb o hs=>h.cell b o (hl b o hs)⟩
theorem Mem.same{S:CS}(h:Same S w w'){b o n:Nat}{cs:List Value}(hm:Mem w b o cs)(hn:cs.length<=n)(hs:CS.le (rng b o n) S):Mem w' b o cs:=λj v hj=>by
 have hlt:j<cs.length:=(Xs.1 hj).1;rw[h.cell b (o+j) (hs _ _ ⟨rfl,by omega,by omega⟩)];exact hm j v hj
theorem WhR{α:Type}{R R':α->List Value->List Pc->Prop}{n:Nat}{nu:Nu}{xs:List α}{S S':CS}(hR:∀x c p,R x c p->c.length=n)(h:Same S w w')(hle:CS.le S S')
  (hm:∀x c p,(∀q∈p,CS.le q.fp S)->R x c p->R' x c p) (ho:OwnL w R n nu xs S):OwnL w' R' n nu xs S':=by
 obtain⟨h1,h2,h3⟩:=ho;refine⟨h1,h2,?_⟩;cases hb:nu.blk with
 |none=>simpa [hb]using h3
 |some b=>
  simp only[hb]at h3;obtain⟨h4,h5,h6,cs,ps,h7,h8,h9,ca⟩:=h3;have hl:=WaQ hR _ _ _ h7;have jW:xs.length*n<=nu.cap*n:=Xbk _ h4;exact⟨h4,h5,h.row _ _ h6,cs,ps,WbQ (Q:=λq=>CS.le q.fp S) hm _ _ _ (λq hq=>ca _ (Xf _ (Xal hq))) h7,h8.same h (n:=nu.cap*n) (by omega) (ca _ (Xi ..)),h9,λs hs b o hh=>hle b o (ca s hs b o hh)⟩
theorem Way(hg:GLe G G'):∀(t:Ty) (d:t.den) (vs:List Value) (ns:List Pc),(∀p∈ns,Same p.fp w w')->TyRel G w t d vs ns->TyRel G' w' t d vs ns
 | .own e,xs,vs,ns,hs,⟨p,h1,h2,h3⟩=>by
  subst h1;have jl:=hs p (Xac.2 rfl);exact⟨p,rfl,h2,WhR (λx c q hx=>Wu e x c q hx) jl (λ_ _ hh=>hh) (λx c q hq hx=>Way hg e x c q (λq' eE=>jl.mono (hq q' eE)) hx) h3⟩
 | .prod a b,d,vs,ns,hs,⟨v1,v2,n1,n2,h1,h2,h3,h4⟩=>by
  subst h2;exact⟨v1,v2,n1,n2,h1,rfl,Way hg a _ _ _ (λp hp=>hs p (Xk _ hp)) h3,Way hg b _ _ _ (λp hp=>hs p (Xg _ hp)) h4⟩
 | .int k,d,vs,ns,_,h=>⟨h.1,Wa0 hg _ _ _ h.2⟩
 | .bool,d,vs,ns,_,h=>⟨h.1,Wa0 hg _ _ _ h.2⟩
 | .str,d,vs,ns,_,h=>⟨h.1,Wa0 hg _ _ _ h.2⟩
 | .slice e,d,vs,ns,_,h=>⟨h.1,Wa0 hg _ _ _ h.2⟩
theorem Same.refl(S:CS)(w:World):Same S w w:=⟨λ_ _ h=>h,λ_ _ _=>rfl⟩
theorem WcK(hg:GLe G G'){e:Ty}{nu:Nu}{xs:List e.den}{S S':CS}(h:Same S w w')(hle:CS.le S S')(ho:OwnL w (TyRel G w e) e.size nu xs S):OwnL w' (TyRel G' w' e) e.size nu xs S':=
 WhR (λx c q hx=>Wu e x c q hx) h hle (λx c q hq hx=>Way hg e x c q (λq' eE=>h.mono (hq q' eE)) hx) ho
theorem WjW(hg:GLe G G'){e:Ty}{nu np:Nu}{xs:List e.den}{i:Nat}{S S':CS}(h:Same S w w')(hle:CS.le S S')(ho:WhI w (TyRel G w e) e.size nu np xs i S):WhI w' (TyRel G' w' e) e.size nu np xs i S':=by
 obtain⟨h1,h2,h3,b,h4,h5,h6,h7,h8,h9,c1,c2,p1,p2,g1,g2,g3,g4,g5,g6⟩:=ho;have l1:=WaQ (λx c q hx=>Wu e x c q hx) _ _ _ g1;have l2:=WaQ (λx c q hx=>Wu e x c q hx) _ _ _ g2;rw[Xap,Xcg (by omega)]at l1;rw[Xdr]at l2;have jW:(xs.length-(i+1))*e.size<=(nu.cap-(i+1))*e.size:=Xbk _ (by omega);refine⟨h1,h2,h3,b,h4,h5,h6,h7,h8,h.row _ _ h9,c1,c2,p1,p2,?_,?_,?_,?_,g5,λs hs b o hh=>hle b o (g6 s hs b o hh)⟩
 .exact WbQ (Q:=λq=>CS.le q.fp S) (λx c q hq hx=>Way hg e x c q (λq' eE=>h.mono (hq q' eE)) hx) _ _ _ (λq hq=>g6 _ (by simp only[Xo,Xq,Xn];exact .inr (.inr (.inl (Xal hq))))) g1
 .exact WbQ (Q:=λq=>CS.le q.fp S) (λx c q hq hx=>Way hg e x c q (λq' eE=>h.mono (hq q' eE)) hx) _ _ _ (λq hq=>g6 _ (by simp only[Xo,Xq,Xn];exact .inr (.inr (.inr (Xal hq))))) g2
 .exact g3.same h (n:=i*e.size) (by omega) (g6 _ (Xi ..))
 .exact g4.same h (n:=(nu.cap-(i+1))*e.size) (by omega) (g6 _ (Xf _ (Xi ..)))
theorem Wdo(hg:GLe G G'){ν ν':Nat->Nu}{nx ah id:Nat}{S S':CS}(h:Same S w w')(hle:CS.le S S')(hn:Wrg nx ν ν')(hx:nx<=ah)(bv:id<nx):
  ∀(ob:Ob),Wcv G ν nx w id S ob->Wcv G' ν' ah w' id S' ob
 | .dead,_=>trivial
 | .box cs,⟨b,vs,h1,h2,h3,h4,h5⟩=>by
  refine⟨b,vs,by rw[hn id bv];exact h1,by rw[hn id bv];exact h.row _ _ h2,by rw[hn id bv];exact h3.same h (n:=cs.length) (by rw[h4.1];exact Xm _) h5,h4.mono hg hn hx,by rw[hn id bv];exactλb o hh=>hle b o (h5 b o hh)⟩
 | .arr e xs,ho=>by
  show OwnL w' (TyRel G' w' e) e.size (ν' id) xs S';rw[hn id bv];exact WcK hg h hle ho
 | .hole e xs i p,⟨hp,ho⟩=>by
  show p<ah/\WhI w' (TyRel G' w' e) e.size (ν' id) (ν' p) xs i S';rw[hn id bv,hn p hp];exact⟨Xbr hp hx,WjW hg h hle ho⟩
theorem WhO{ν:Nat->Nu}{nx:Nat}:∀(t:Ty) (d:t.den) (vs:List Value) (ns:List Pc),TyRel G w t d vs ns->CellsRel G ν nx (split t d) vs
 | .own e,d,vs,ns,⟨p,_,h,_⟩=>by rw[h];exact CellsRel.one trivial (WiZ _)
 | .prod a b,d,vs,ns,⟨v1,v2,n1,n2,h1,h2,h3,h4⟩=>by
  rw[h1];exact(WhO a _ _ _ h3).append (WhO b _ _ _ h4)
 | .int k,d,vs,ns,h=>WaA _ _ _ h.2
 | .bool,d,vs,ns,h=>WaA _ _ _ h.2
 | .str,d,vs,ns,h=>WaA _ _ _ h.2
 | .slice e,d,vs,ns,h=>WaA _ _ _ h.2
theorem Wr1{A A' B B':Type}(hA:A=A')(hB:B=B')(h:(A×B)=(A'×B'))(d:A×B):cast h d=(cast hA d.1,cast hB d.2):=by
 subst hA hB;rfl
theorem WqS{A A':Type}(hA:A=A')(h:List A=List A')(x:A)(l:List A):cast h (x::l)=cast hA x::cast h l:=by
 subst hA;rfl
theorem Wto{A A':Type}(hA:A=A')(h:List A=List A'):cast h ([]:List A)= []:=by
 subst hA;rfl
theorem Wn8{A A':Type}(hA:A=A')(h:List A=List A')(l:List A):(cast h l).length=l.length:=by
 subst hA;rfl
theorem Wrf(a b:Ty)(d:(Ty.prod a b).den):WuK (.prod a b) d=(WuK a d.1,WuK b d.2):=Wr1 (Wd8 a).symm (Wd8 b).symm _ d
theorem Wp9(e:Ty)(x:e.den)(l:List e.den):Wcx e (x::l)=WuK e x::Wcx e l:=WqS (Wd8 e).symm _ x l
theorem WmN(e:Ty):Wcx e []= []:=Wto (Wd8 e).symm _
theorem WgA(e:Ty)(l:List e.den):(Wcx e l).length=l.length:=Wn8 (Wd8 e).symm _ l
theorem Wbu:∀t:Ty,t.ro.size=t.size
 | .prod a b=>by simp only[Ty.ro,Ty.size,Wbu a,Wbu b]
 | .own _| .slice _| .int _| .bool| .str=>rfl
theorem Wnr:∀t:Ty,t.ro.data=true
 | .prod a b=>by simp only[Ty.ro,Ty.data,Wnr a,Wnr b];rfl
 | .own _| .slice _| .int _| .bool| .str=>rfl
def Froz(G:GH)(w:World)(S:CS):Prop:=∀b o v,S b o->w.cell? ⟨b,o,none⟩=some v->G b o=some v
theorem Froz.mono{G:GH}{S S':CS}(h:Froz G w S)(hl:CS.le S' S):Froz G w S':=λb o v hs=>h b o v (hl b o hs)
theorem Mem.stored{b o n:Nat}{cs:List Value}(hm:Mem w b o cs)(hn:cs.length<=n)(hf:Froz G w (rng b o n)):Wfl G b o cs:=λj v hj=>by
 have hlt:j<cs.length:=(Xs.1 hj).1;exact hf b (o+j) v ⟨rfl,by omega,by omega⟩ (hm j v hj)
theorem Wlv{e:Ty}(hE:∀(x:e.den) (c:List Value) (p:List Pc),(∀q∈p,Froz G' w q.fp)->TyRel G w e x c p->Enc G' e.ro (WuK e x) c):
  ∀(xs:List e.den) (cs:List Value) (ps:List Pc),(∀q∈ps,Froz G' w q.fp)->EncP (TyRel G w e) xs cs ps->EncL (Enc G' e.ro) (Wcx e xs) cs
 | [],cs,ps,_,h=>by rw[WmN];exact h.1
 |x::xs,cs,ps,hf,⟨c1,c2,p1,p2,h1,h2,h3,h4⟩=>by
  subst h2;rw[Wp9];exact⟨c1,c2,h1,hE x c1 p1 (λq hq=>hf q (Xk _ hq)) h3,Wlv hE xs c2 p2 (λq hq=>hf q (Xg _ hq)) h4⟩
theorem Wq5{e:Ty}(hE:∀(x:e.den) (c:List Value) (p:List Pc),(∀q∈p,Froz G' w q.fp)->TyRel G w e x c p->Enc G' e.ro (WuK e x) c){nu:Nu}{xs:List e.den}{S:CS}
  (hf:Froz G' w S) (h:OwnL w (TyRel G w e) e.size nu xs S):Wi4 G' (Enc G' e.ro) (Wcx e xs) nu.hdr:=by
 obtain⟨h1,h2,h3⟩:=h;unfold Nu.hdr;cases hb:nu.blk with
 |none=>simp only[hb]at h3;exact .inl ⟨rfl,by rw[h3,WmN]⟩
 |some b=>
  simp only[hb]at h3;obtain⟨h4,h5,h6,cs,ps,h7,h8,h9,ca⟩:=h3;have hl:=WaQ (λx c q hx=>Wu e x c q hx) _ _ _ h7;have jW:xs.length*e.size<=nu.cap*e.size:=Xbk _ h4;refine .inr (.inl ⟨b,nu.off,nu.cap,cs,by rw[WgA,h1],by rw[WgA];exact h4,h5,Wlv hE xs cs ps (λq hq=>hf.mono (ca _ (Xf _ (Xal hq)))) h7,?_⟩);exact h8.stored (n:=nu.cap*e.size) (by omega) (hf.mono (ca _ (Xi ..)))
theorem WdD(hg:GLe G G'):∀(t:Ty) (d:t.den) (vs:List Value) (ns:List Pc),(∀p∈ns,Froz G' w p.fp)->TyRel G w t d vs ns->Enc G' t.ro (WuK t d) vs
 | .own e,xs,vs,ns,hf,⟨p,h1,h2,h3⟩=>by
  subst h1;exact⟨_,h2,Wq5 (λx c q hq hx=>WdD hg e x c q hq hx) (hf p (Xac.2 rfl)) h3⟩
 | .prod a b,d,vs,ns,hf,⟨v1,v2,n1,n2,h1,h2,h3,h4⟩=>by
  subst h2;rw[Wrf];exact⟨v1,v2,h1,WdD hg a _ _ _ (λp hp=>hf p (Xk _ hp)) h3,WdD hg b _ _ _ (λp hp=>hf p (Xg _ hp)) h4⟩
 | .int k,d,vs,ns,_,h=>Wa0 hg (.int k) _ _ h.2
 | .bool,d,vs,ns,_,h=>Wa0 hg .bool _ _ h.2
 | .str,d,vs,ns,_,h=>Wa0 hg .str _ _ h.2
 | .slice e,d,vs,ns,_,h=>Wa0 hg (.slice e) _ _ h.2
theorem WiT(hg:GLe G G'){e:Ty}{nu:Nu}{xs:List e.den}{S:CS}(hf:Froz G' w S)(h:OwnL w (TyRel G w e) e.size nu xs S):Wi4 G' (Enc G' e.ro) (Wcx e xs) nu.hdr:=
 Wq5 (λx c q hq hx=>WdD hg e x c q hq hx) hf h
theorem WqX{b:Nat}{vs:Array Value}{T:TypeId}(h:w.heap[b]?=some (Obj.cells vs T (0,0))){o:Nat}{cs:List Value}(hc:∀j v,cs[j]?=some v->vs.toList[o+j]?=some v):Mem w b o cs:=λj v hj=>by
 rw[cell_of_row w b _ vs T (0,0) h];have:=hc j v hj;simpa using this
theorem Mem.left{b o:Nat}{c1 c2:List Value}(h:Mem w b o (c1++c2)):Mem w b o c1:=λj v hj=>h j v (by rw[Xbd (Xs.1 hj).1];exact hj)
theorem Mem.right{b o n:Nat}{c1 c2:List Value}(h:Mem w b o (c1++c2))(hn:c1.length=n):Mem w b (o+n) c2:=λj v hj=>by
 have:=h (n+j) v (by rw[Xax (by omega),hn,Nat.add_sub_cancel_left];exact hj);rw[Xar];exact this
theorem Mem.app{b o n:Nat}{c1 c2:List Value}(h1:Mem w b o c1)(h2:Mem w b (o+n) c2)(hn:c1.length=n):Mem w b o (c1++c2):=λj v hj=>by
 rw[Xbc]at hj;split at hj
 .exact h1 j v hj
 .rename_i hlt;have:=h2 (j-c1.length) v hj;rw[hn]at this hlt;rw[show o+j=o+n+(j-n) by omega];exact this
theorem Wrh{e:Ty}{nu:Nu}{xs:List e.den}{S:CS}{b i:Nat}(h:OwnL w (TyRel G w e) e.size nu xs S)(hb:nu.blk=some b)(hi:i<xs.length):
  ∃c p,TyRel G w e (xs.getD i e.dflt) c p/\Mem w b (nu.off+i*e.size) c:=by
 obtain⟨h1,h2,h3⟩:=h;simp only[hb]at h3;obtain⟨h4,h5,h6,cs,ps,h7,h8,h9,ca⟩:=h3;obtain⟨c1,c,c2,p1,p,p2,g1,g2,g3,g4,g5⟩:=Wny h7 e.dflt hi;refine⟨c,p,g4,?_⟩;rw[g1]at h8;have hl:=WaQ (λx c q hx=>Wu e x c q hx) _ _ _ g3;rw[Xap,Xcg (by omega)]at hl;exact(h8.right hl).left
theorem Wdl{e:Ty}(he:e.data=true){nu:Nu}{xs:List e.den}{S:CS}{b:Nat}(h:OwnL w (TyRel G w e) e.size nu xs S)(hb:nu.blk=some b):
  xs.length=nu.len/\xs.length<=nu.cap/\nu.cap<=maxLen/\Row w b (nu.off+nu.cap*e.size)/\∃cs,EncL (Enc G e) xs cs/\Mem w b nu.off cs/\CS.le (rng b nu.off (nu.cap*e.size)) S:=by
 obtain⟨h1,h2,h3⟩:=h;simp only[hb]at h3;obtain⟨h4,h5,h6,cs,ps,h7,h8,h9,ca⟩:=h3;exact⟨h1,h4,h5,h6,cs,((EncP_data he xs cs ps).1 h7).1,h8,ca _ (Xi ..)⟩
theorem WmE{e:Ty}(he:e.data=true){nu:Nu}{xs:List e.den}{S:CS}{b:Nat}{cs:List Value}(hb:nu.blk=some b)(h1:xs.length=nu.len)(h2:nu.esz=e.size)(h4:xs.length<=nu.cap)(h5:nu.cap<=maxLen)
  (h6:Row w b (nu.off+nu.cap*e.size)) (h7:EncL (Enc G e) xs cs) (h8:Mem w b nu.off cs) (h9:CS.le (rng b nu.off (nu.cap*e.size)) S):OwnL w (TyRel G w e) e.size nu xs S:=by
 refine⟨h1,h2,?_⟩;simp only[hb];exact⟨h4,h5,h6,cs,[],(EncP_data he xs cs []).2 ⟨h7,rfl⟩,h8,Xad.2 ⟨by simp,List.Pairwise.nil⟩,λs hs=>by simp at hs;subst hs;exact h9⟩
theorem Wcp{e:Ty}{nu:Nu}{xs:List e.den}{S:CS}(h:OwnL w (TyRel G w e) e.size nu xs S)(hb:nu.blk=none):xs= []:=by
 obtain⟨h1,h2,h3⟩:=h;simpa only[hb]using h3
end
end Go.Sx
namespace Go.Sx
set_option linter.unusedVariables false
set_option linter.unusedSimpArgs false
def Wbs:Ty->List Value
 | .prod a b=>Wbs a++Wbs b
 | .int k=>[.int k 0]
 | .bool=>[.bool false]
 | .str=>[.string ⟨#[]⟩]
 | .slice _=>[.slice none 0 0]
 | .own _=>[.pointer none]
def rep{α:Type}(l:List α):Nat->List α
 |0=>[]
 |n+1=>l++rep l n
def TE.cells(te:TE):List Value:=match te.shape with
 | .arr n _=>rep (Wbs te.ty) n
 |_=>Wbs te.ty
def TE.size(te:TE):Nat:=match te.shape with
 | .arr n _=>n*te.ty.size
 |_=>te.ty.size
structure TEok(P:Program)(T:Tab)(t:TypeId)(te:TE):Prop where
 und:match te.shape with
  | .basic=>te.agg=false/\(match te.ty with
   | .int k=>P.underlying t=some (.int k)
   | .bool=>P.underlying t=some .bool
   | .str=>P.underlying t=some .string
   |_=>False)
  | .slice e=>te.agg=false/\P.underlying t=some (.slice e)/\∃dr,look T e=some dr/\te.ty= .slice dr.ty
  | .struct fs=>te.agg=true/\∃fields:Array Field,P.underlying t=some (.struct fields)/\fields.toList.map (λf=>(f.offset,f.type))=fs/\
    (∀f∈fields,f.name≠ "_")∧P.stoodInHeld t=false∧P.eqGuardType P.depth t=false
  | .ptr e=>te.agg=false/\P.underlying t=some (.pointer e)
  | .arr n e=>te.agg=true/\P.underlying t=some (.array n e)/\∃dr,look T e=some dr/\dr.ty=te.ty/\∀m f,dr.shape≠ .arr m f
 info:∃i z,P.info? t=some i/\i.size=te.size/\i.zero=some z/\z.cells.toList=te.cells/\i.bytes<=4096
def Wai(P:Program)(T:Tab):Prop:=∀t te,look T t=some te->TEok P T t te
theorem Wbr:∀t:Ty,0<t.size
 | .prod a b=>by have:=Wbr a;simp[Ty.size];omega
 | .int _| .bool| .str| .slice _| .own _=>by simp[Ty.size]
section
variable{P:Program}{T:Tab}{w:World}
theorem Wc{t:TypeId}{d:TypeDesc}(h:P.underlying t=some d):(underlying t).run P w= .ok d w:=by
 simp[underlying,h]
theorem Whm{t:TypeId}{i:TypeInfo}(h:P.info? t=some i):(typeInfo t).run P w= .ok i w:=by
 simp[typeInfo,h]
theorem Wqy{t:TypeId}{i:TypeInfo}(h:P.info? t=some i):(sizeOf t).run P w= .ok i.size w:=by
 simp[sizeOf,Whm h]
theorem TEok.sizeOf{t:TypeId}{te:TE}(h:TEok P T t te):(sizeOf t).run P w= .ok te.size w:=by
 obtain⟨i,z,hi,hs,_⟩:=h.info;rw[Wqy hi,hs]
theorem TEok.isAgg{t:TypeId}{te:TE}(h:TEok P T t te):(isAgg t).run P w= .ok te.agg w:=by
 have hu:=h.und;obtain⟨ty,agg,shape⟩:=te;cases shape with
 |basic=>
  obtain⟨ha,hu⟩:=hu;cases ty<;>simp only at hu<;>first|exact hu.elim|(simp[Go.isAgg,Wc hu];exact ha)
 |slice e=>obtain⟨ha,hu,_⟩:=hu;simp[Go.isAgg,Wc hu];exact ha
 |struct fs=>obtain⟨ha,f,hu,_⟩:=hu;simp[Go.isAgg,Wc hu];exact ha
 |ptr e=>obtain⟨ha,hu⟩:=hu;simp[Go.isAgg,Wc hu];exact ha
 |arr n e=>obtain⟨ha,hu,_⟩:=hu;simp[Go.isAgg,Wc hu];exact ha
end
theorem WaU(b o j:Nat):(⟨b,o,none⟩:Addr).add j=⟨b,o+j,none⟩:=by
 unfold Addr.add;split
 .rename_i h;subst h;rfl
 .rfl
section
variable{P:Program}{T:Tab}{w:World}{G:GH}{ν:Nat->Nu}{objs:Wab}{nx:Nat}
theorem WV{te:TE}(h:te.plain=true):te.size=te.ty.size:=by
 unfold TE.plain at h;unfold TE.size;split at h<;>simp_all
theorem WgX{t:TypeId}{te:TE}(bw:TEok P T t te)(eR:te.plain=true){b o off:Nat}{cs:List Cell}{us:List Value}{x:AVal}
  (hc:CellsRel G ν nx cs us) (hm:∀(j:Nat) (v:Value),us[j]?=some v->w.cell? ⟨b,o+j,none⟩=some v)
  (hs:sub te.agg cs off te.ty.size=some x):
  ∃v,(loadVar t ⟨b,o+off,none⟩).run P w= .ok v w/\AValRel G ν nx x v:=by
 have hsz:te.size=te.ty.size:=WV eR;unfold sub at hs;simp only[loadVar,Sem.run_bind,bw.isAgg,Result.andThen_ok];cases ha:te.agg with
 |true=>
  simp only[ha,if_true]at hs⊢;split at hs
  .rename_i hle;injection hs with hs;subst hs;have hlen:((us.drop off).take te.ty.size).length=te.ty.size:=by simp[hc.1];omega
   have hr:=run_loadCells_list (P:=P) w ⟨b,o+off,none⟩ ((us.drop off).take te.ty.size) (λj v hj=>by
    rw[WaU,Xar];rw[Xbn]at hj;split at hj
    .rw[Xbo]at hj;exact hm _ _ hj
    .simp at hj)
   rw[hlen]at hr;refine⟨.agg ((us.drop off).take te.ty.size).toArray,?_,_,rfl,(hc.drop off).take _⟩;simp[bw.sizeOf,hsz,hr]
  .simp at hs
 |false=>
  simp only[ha]at hs⊢;cases bm:cs[off]? with
  |none=>simp[bm]at hs
  |some c=>
   simp[bm]at hs;subst hs;have hlt:off<us.length:=by rw[hc.1];exact(Xs.1 bm).1
   have hu:us[off]?=some us[off]:=Xp hlt;refine⟨us[off],?_,hc.2 off c _ bm hu⟩;simp[hm _ _ hu]
end
section
variable{w0:World}{F:CS}{nt:Slots}{G0 G:GH}{ν:Nat->Nu}{st:St}{a:Act}{w:World}{P:Program}{T:Tab}
theorem Wq7{G:GH}:∀(t:Ty) (d:t.den) (v:Value),Enc G t d [v]->v.oneCell'=true
 | .int _,_,_,h=>by simp[Enc]at h;simp[h,Value.oneCell']
 | .bool,_,_,h=>by simp[Enc]at h;simp[h,Value.oneCell']
 | .str,_,_,h=>by simp[Enc]at h;simp[h,Value.oneCell']
 | .slice _,_,_,h=>by
  obtain⟨v,hv,hr⟩:=h;simp at hv;subst hv;rcases hr with⟨rfl,_⟩|⟨_,_,_,_,rfl,_⟩|⟨_,_,rfl,_⟩<;>rfl
 | .own _,_,_,h=>h.elim
 | .prod a b,d,v,h=>by
  have:=Enc_len _ _ _ h;have h1:=Wbr a;have h2:=Wbr b;simp[Ty.size]at this;omega
theorem WJ{t:Ty}{d:t.den}{v:Value}(h:Enc G t d [v]):AValRel G ν st.nx (one t d) v:=
 ⟨h,Wq7 t d v h⟩
theorem Wf4:∀(v:Value) (c:Cell),Waj v=some c->CellRel G ν st.nx c v/\v.oneCell'=true
 | .int k n,c,h=>by simp[Waj]at h;subst h;exact⟨rfl,rfl⟩
 | .bool b,c,h=>by simp[Waj]at h;subst h;exact⟨rfl,rfl⟩
 | .string s,c,h=>by simp[Waj]at h;subst h;exact⟨by simp[CellRel,Enc],rfl⟩
 | .slice none 0 0,c,h=>by simp[Waj]at h;subst h;exact⟨rfl,rfl⟩
 | .slice none 0 (n+1),c,h=>by simp[Waj]at h
 | .slice none (n+1) _,c,h=>by simp[Waj]at h
 | .slice (some _) _ _,c,h=>by simp[Waj]at h
 | .pointer none,c,h=>by simp[Waj]at h;subst h;exact⟨trivial,rfl⟩
 | .nilFunc,c,h=>by simp[Waj]at h;subst h;exact⟨trivial,rfl⟩
 | .float _ _,_,h| .complex _ _ _,_,h| .pointer (some _),_,h| .map _,_,h| .chan _,_,h| .func _ _ _,_,h| .iface _ _,_,h| .nilIface,_,h| .agg _,_,h| .tuple _,_,h=>by simp[Waj]at h
theorem Wo6:∀(vs:List Value) (cs:List Cell),vs.mapM Waj=some cs->CellsRel G ν st.nx cs vs
 | [],cs,h=>by simp at h;subst h;exact CellsRel.nil
 |v::vs,cs,h=>by
  simp only[Xfi,Option.bind_eq_bind,Option.bind_eq_some_iff]at h;obtain⟨c,hc,ds,hd,he⟩:=h;simp at he;subst he;obtain⟨h1,h2⟩:=Wf4 (G:=G) (ν:=ν) (st:=st) v c hc;exact(CellsRel.one h1 h2).append (Wo6 vs ds hd)
theorem WF(h:Rel w0 F nt G0 G ν st a w):∀(x:Operand) (av:AVal),ev st x=some av->AValRel G ν st.nx av (a.eval x)
 | .tmp t,av,he=>by
  obtain⟨v,hv,hr⟩:=h.env t av he;simpa [Act.eval,hv]using hr
 | .const v,av,he=>by
  simp only[ev,Wr5]at he;split at he
  .rename_i cs;cases hm:cs.toList.mapM Waj with
   |none=>simp[hm]at he
   |some l=>
    simp[hm]at he;subst he;exact⟨cs.toList,by simp[Act.eval],Wo6 _ _ hm⟩
  .cases hm:Waj v with
   |none=>simp[hm]at he
   |some c=>
    simp[hm]at he;subst he;obtain⟨h1,h2⟩:=Wf4 (G:=G) (ν:=ν) (st:=st) v c hm;exact⟨h1,h2⟩
 | .func f,av,he=>by
  simp[ev]at he;subst he;exact⟨⟨[],rfl,rfl,λj id u hj=>by simp at hj⟩,rfl⟩
 | .global g,av,he=>by simp[ev]at he
theorem WfF(av:AVal)(v:Value)(n:Int)(h:AValRel G ν st.nx av v)(he:asI av=some n):∃k,v= .int k n:=by
 unfold asI at he;split at he
 .rename_i k m;injection he with he;subst he;obtain⟨h1,_⟩:=h;simp[CellRel,Enc]at h1;exact⟨k,h1⟩
 .simp at he
theorem WnK(av:AVal)(v:Value)(b:Bool)(h:AValRel G ν st.nx av v)(he:asB av=some b):v= .bool b:=by
 unfold asB at he;split at he
 .injection he with he;subst he;obtain⟨h1,_⟩:=h;simpa [CellRel,Enc]using h1
 .simp at he
def Gives(P:Program)(G:GH)(ν:Nat->Nu)(st:St)(w:World)(s:Sem Value)(r:AVal):Prop:=∃v,s.run P w= .ok v w/\AValRel G ν st.nx r v
theorem Gives.one{s:Sem Value}{t:Ty}{d:t.den}{v:Value}(hr:s.run P w= .ok v w)(h:Enc G t d [v]):Gives P G ν st w s (Sx.one t d):=⟨v,hr,WJ h⟩
theorem Wp1{op:BinOp}{k:IntKind}{x y:Int}{r:AVal}(t:TypeId)(hs:op≠ .shl)(cb:op≠ .shr)(h:Ww8 op k x y=some (true,r)):
  Gives P G ν st w (Go.binOp op t (.int k x) (.int k y)) r:=by
 cases op<;>simp[Ww8,inz]at h<;>first
  |exact absurd rfl hs
  |exact absurd rfl cb
  |(subst h;exact⟨_,by simp only[Go.binOp,ne_eq,not_true_eq_false,if_false,↓reduceIte,Op.intArith,Op.intBits,Op.intCmp]<;>rfl,WJ rfl⟩)
  |(obtain⟨hz,rfl⟩:=h;exact⟨_,by simp[Go.binOp,Op.intDiv,hz,WkQ,Wd5]<;>rfl,WJ rfl⟩)
theorem Wib{op:BinOp}{k yk:IntKind}{x y:Int}{r:AVal}(t:TypeId)(h:(op= .shl/\(true,r)=(inn y,Sx.one (.int k) (Ww5 k x y)))\/(op= .shr/\(true,r)=(inn y,Sx.one (.int k) (WsD k x y)))):
  Gives P G ν st w (Go.binOp op t (.int k x) (.int yk y)) r:=by
 rcases h with⟨rfl,h⟩|⟨rfl,h⟩<;>simp[inn]at h<;>obtain⟨hn,rfl⟩:=h
 .exact⟨_,by simp[Go.binOp,Op.shift,Int.not_lt.2 hn,Ww5]<;>rfl,WJ rfl⟩
 .exact⟨_,by simp[Go.binOp,Op.shift,Int.not_lt.2 hn,WsD]<;>rfl,WJ rfl⟩
theorem Wp0{op:BinOp}{x y:List UInt8}{r:AVal}(t:TypeId)(h:WwT op x y=some (true,r)):
  Gives P G ν st w (Go.binOp op t (.string ⟨x.toArray⟩) (.string ⟨y.toArray⟩)) r:=by
 cases op<;>simp[WwT]at h
 .obtain⟨hf,rfl⟩:=h;simp[Wet]at hf;refine⟨.string ⟨(x++y).toArray⟩,?_,WJ rfl⟩;have e:(ByteArray.mk x.toArray++ByteArray.mk y.toArray)=⟨(x++y).toArray⟩:=by
   apply ByteArray.ext;simp
  have hsz:¬((((ByteArray.mk x.toArray).size+(ByteArray.mk y.toArray).size:Nat):Int)>IntKind.i64.max):=by
   have hm:IntKind.i64.max=9223372036854775807:=by decide
   simp only[ByteArray.size,List.size_toArray,hm];omega
  simp only[Go.binOp,Op.stringOp,if_neg hsz,e];rfl
 .subst h;exact⟨_,by simp[Go.binOp,Op.stringOp]<;>rfl,WJ rfl⟩
 .subst h;exact⟨_,by simp[Go.binOp,Op.stringOp]<;>rfl,WJ rfl⟩
theorem Wwi(x y:List UInt8):((ByteArray.mk x.toArray).toList==(ByteArray.mk y.toArray).toList)=seq x y:=by simp[seq]
theorem WkZ{te:TE}{c d:Cell}{b:Bool}{u v:Value}{t:TypeId}(bw:TEok P T t te)(hc:CellRel G ν st.nx c u)(hd:CellRel G ν st.nx d v)
  (h:Wk2 te c d=some b) (n:Nat):(Op.equalIn (n+1) t u v).run P w= .ok b w/\te.agg=false:=by
 have hu:=bw.und;unfold Wk2 at h;split at h
 .split at h
  .rename_i hk;subst hk;injection h with h;subst h;simp only[CellRel,Enc,List.cons.injEq,and_true]at hc hd;subst hc hd;exact⟨run_equalIn_int w n t _ _ _ _ hu.2,rfl⟩
  .simp at h
 .injection h with h;subst h;simp only[CellRel,Enc,List.cons.injEq,and_true]at hc hd;subst hc hd;exact⟨run_equalIn_bool' w n t _ _ hu.2,rfl⟩
 .injection h with h;subst h;simp only[CellRel,Enc,List.cons.injEq,and_true]at hc hd;subst hc hd;exact⟨(run_equalIn_string w n t _ _ hu.2).trans (congrArg (Result.ok · w) (Wwi _ _)),rfl⟩
 .simp at h
theorem WoL{t:TypeId}{te:TE}(bw:TEok P T t te)(ha:te.agg=false)(cs:Array Value)(off:Nat)(v:Value)(h:cs[off]?=some v):(part t cs off).run P w= .ok v w:=by
 simp only[part,Sem.run_bind,bw.isAgg,Result.andThen_ok,ha];simp[h]
theorem Wfo(hT:Wai P T)(n:Nat)(xs ys:Array Value):∀(fields:List Field) (k:Nat) (cs ds:List Cell) (b:Bool),
  (∀f∈fields,f.name≠ "_")→fields.map (·.offset)=List.range' k fields.length→
  (∀(j:Nat) (c:Cell),cs[j]?=some c->∃v,xs[k+j]?=some v/\CellRel G ν st.nx c v)->
  (∀(j:Nat) (c:Cell),ds[j]?=some c->∃v,ys[k+j]?=some v/\CellRel G ν st.nx c v)->
  WcW T (fields.map (·.type)) cs ds=some b->(Op.eqFields (n+1) xs ys fields).run P w= .ok b w
 | [],k,[],[],b,_,_,_,_,h=>by simp[WcW]at h;subst h;rfl
 |f::fs,k,c::cs,d::ds,b,hn,ho,hx,hy,h=>by
  simp only[Xai,WcW]at h;cases hl:look T f.type with
  |none=>simp[hl]at h
  |some te=>
   simp only[hl]at h;cases h1:Wk2 te c d with
   |none=>simp[h1]at h
   |some p=>
    cases h2:WcW T (fs.map (·.type)) cs ds with
    |none=>simp[h1,h2]at h
    |some q=>
     simp[h1,h2]at h;subst h;obtain⟨u,hu,xT⟩:=hx 0 c rfl;obtain⟨v,hv,xU⟩:=hy 0 d rfl;obtain⟨he,ha⟩:=WkZ (w:=w) (hT _ _ hl) xT xU h1 n;simp only[Xai,Xr,List.range'_succ,List.cons.injEq]at ho;have ih:=Wfo hT n xs ys fs (k+1) cs ds q (λf hf=>hn f (Xf _ hf)) ho.2
      (λj c hj=>by have:=hx (j+1) c (by simpa using hj);rwa [Xar,Xcs 1 j])
      (λj c hj=>by have:=hy (j+1) c (by simpa using hj);rwa [Xar,Xcs 1 j]) h2
     simp only[Op.eqFields,if_pos (hn f (Xi ..)),Sem.run_bind,ho.1];rw[Xaz]at hu hv;rw[WoL (hT _ _ hl) ha xs k u hu,Result.andThen_ok,WoL (hT _ _ hl) ha ys k v hv,Result.andThen_ok,he,Result.andThen_ok];cases p
     .simp
     .simpa using ih
 | [],_,_::_,_,_,_,_,_,_,h=>by simp[WcW]at h
 | [],_,[],_::_,_,_,_,_,_,h=>by simp[WcW]at h
 |_::_,_,[],_,_,_,_,_,_,h=>by simp[WcW]at h
 |_::_,_,_::_,[],_,_,_,_,_,h=>by simp[WcW]at h
theorem WcC{op:BinOp}{t:TypeId}{x y:Operand}{u v:Value}(hu:∀cs,u≠ .agg cs)(hn:u≠ .nilIface):(eqGuard op t x y u v).run P w= .ok () w:=by
 unfold eqGuard;cases op<;>simp<;>cases u<;>cases v<;>first|rfl|exact absurd rfl hn|exact absurd rfl (hu _)
theorem Wnp(hT:Wai P T){op:BinOp}{t:TypeId}{x y:AVal}{u v:Value}{r:AVal}(ox oy:Operand)(hx:AValRel G ν st.nx x u)(hy:AValRel G ν st.nx y v)
  (h:Sx.binOp T op t x y=some (true,r)):Gives P G ν st w (do eqGuard op t ox oy u v;Go.binOp op t u v) r:=by
 unfold Sx.binOp at h;split at h
 .rename_i k m k' m';obtain⟨hx,_⟩:=hx;obtain⟨hy,_⟩:=hy;simp only[CellRel,Enc,List.cons.injEq,and_true]at hx hy;subst hx hy;have hg:(eqGuard op t ox oy (.int k m) (.int k' m')).run P w= .ok () w:=WcC (by simp) (by simp)
  suffices hh:Gives P G ν st w (Go.binOp op t (.int k m) (.int k' m')) r by
   obtain⟨z,h1,h2⟩:=hh;exact⟨z,by simp[hg,h1],h2⟩
  split at h
  .injection h with h;exact Wib t (.inl ⟨rfl,h.symm⟩)
  .injection h with h;exact Wib t (.inr ⟨rfl,h.symm⟩)
  .split at h
   .rename_i hk;subst hk;exact Wp1 t (by assumption) (by assumption) h
   .simp at h
 .rename_i m m';obtain⟨hx,_⟩:=hx;obtain⟨hy,_⟩:=hy;simp only[CellRel,Enc,List.cons.injEq,and_true]at hx hy;subst hx hy;obtain⟨z,h1,h2⟩:=Wp0 (w:=w) (P:=P) (G:=G) (ν:=ν) (st:=st) t h;exact⟨z,by simp[WcC,h1],h2⟩
 .rename_i m m';obtain⟨hx,_⟩:=hx;obtain⟨hy,_⟩:=hy;simp only[CellRel,Enc,List.cons.injEq,and_true]at hx hy;subst hx hy;split at h
  .rename_i hl;have hu:=(hT _ _ hl).und;simp only[true_and]at hu;have key:(Op.equalIn 10000 t (.bool m) (.bool m')).run P w= .ok (beq m m') w:=run_equalIn_bool' w 9999 t m m' hu;split at h<;>simp at h
   .subst h;exact⟨.bool (beq m m'),by simp[WcC,Go.binOp,Op.equal,Op.maxDepth,key],WJ rfl⟩
   .subst h;exact⟨.bool (!beq m m'),by simp[WcC,Go.binOp,Op.equal,Op.maxDepth,key],WJ rfl⟩
  .simp at h
 .rename_i cs ds;obtain⟨us,rfl,bm⟩:=hx;obtain⟨vs,rfl,fU⟩:=hy;split at h
  .rename_i fs hl;obtain⟨_,fields,hu,db,xV,aJ,sS⟩:=(hT _ _ hl).und;split at h
   .rename_i hr;have hr:=of_decide_eq_true hr;have vW:P.fieldsOf t=fields:=by simp[Program.fieldsOf,hu]
    have key:∀b,WcW T (fs.map (·.2)) cs ds=some b->(Op.equalIn 10000 t (.agg us.toArray) (.agg vs.toArray)).run P w= .ok b w:=λb hb=>by
     rw[run_equalIn_struct w 9999 t _ _ (by rw[vW];exact hu) aJ,vW];refine Wfo (G:=G) (ν:=ν) (st:=st) hT 9998 us.toArray vs.toArray fields.toList 0 cs ds b (λf hf=>xV f (by simpa using hf)) ?_ ?_ ?_ ?_
     .rw[←db]at hr;simpa [List.range_eq_range',Function.comp_def]using hr
     .intro j c hj;have hlt:j<us.length:=by rw[bm.1];exact(Xs.1 hj).1
      exact⟨us[j],by simp[hlt],(bm.2 j c _ hj (Xp hlt)).1⟩
     .intro j c hj;have hlt:j<vs.length:=by rw[fU.1];exact(Xs.1 hj).1
      exact⟨vs[j],by simp[hlt],(fU.2 j c _ hj (Xp hlt)).1⟩
     .rw[←db]at hb;simpa [Function.comp_def]using hb
    split at h
    .rename_i b hb;simp at h;subst h;exact⟨.bool b,by simp[run_eqGuard_agg w _ t ox oy _ _ sS,run_eql_struct,key b hb],WJ rfl⟩
    .rename_i b hb;simp at h;subst h;exact⟨.bool (!b),by simp[run_eqGuard_agg w _ t ox oy _ _ sS,run_neq_struct,key b hb],WJ rfl⟩
    .simp at h
   .simp at h
  .simp at h
 .simp at h
end
end Go.Sx
namespace Go.Sx
set_option linter.unusedVariables false
set_option linter.unusedSimpArgs false
section
variable{w0:World}{F:CS}{nt:Slots}{G0 G:GH}{ν:Nat->Nu}{st:St}{a:Act}{w:World}{P:Program}{T:Tab}
theorem HRel.g{objs:Wab}{nx:Nat}(h:HRel w0 F G ν objs nx w){b o:Nat}{v:Value}(hg:G b o=some v):w.cell? ⟨b,o,none⟩=some v:=by
 obtain⟨φ,h⟩:=h;exact h.g b o v hg
theorem HRel.obj{objs:Wab}{nx:Nat}(h:HRel w0 F G ν objs nx w){id:Nat}{ob:Ob}(ho:look objs id=some ob):∃S,Wcv G ν nx w id S ob:=by
 obtain⟨φ,h⟩:=h;exact⟨φ id,h.ob id ob ho⟩
theorem WgV{k:IntKind}{n:Int}{v:Value}(h:AValRel G ν st.nx (.s (.one (.val (.int k) n))) v):v= .int k n:=by
 obtain⟨h,_⟩:=h;simpa [CellRel,Enc]using h
theorem Wkn{n:Bool}{v:Value}(h:AValRel G ν st.nx (.s (.one (.val .bool n))) v):v= .bool n:=by
 obtain⟨h,_⟩:=h;simpa [CellRel,Enc]using h
theorem Wkk{s:List UInt8}{v:Value}(h:AValRel G ν st.nx (.s (.one (.val .str s))) v):v= .string ⟨s.toArray⟩:=by
 obtain⟨h,_⟩:=h;simpa [CellRel,Enc]using h
theorem Wqh{op:UnOp}{x:AVal}{u:Value}{r:AVal}(hx:AValRel G ν st.nx x u)(h:Sx.unOp op x=some (true,r)):Gives P G ν st w (Op.unary op u) r:=by
 unfold Sx.unOp at h;split at h
 .have:=Wkn hx;subst this;simp at h;subst h;exact⟨_,rfl,WJ rfl⟩
 .have:=WgV hx;subst this;simp at h;subst h;exact⟨_,rfl,WJ rfl⟩
 .simp at h
theorem Wvh{id:Nat}{e:Ty}{xs:List e.den}{nx:Nat}{S:CS}(h:Wcv G ν nx w id S (.arr e xs)):∃a c,(ν id).hdr= .slice a xs.length c:=by
 obtain⟨hlen,_,aq⟩:=h;unfold Nu.hdr;cases hb:(ν id).blk with
 |none=>simp only[hb]at aq;subst aq;exact⟨_,_,rfl⟩
 |some b=>rw[hlen];exact⟨_,_,rfl⟩
theorem Wtl{id:Nat}{e:Ty}{xs:List e.den}{i p nx:Nat}{S:CS}(h:Wcv G ν nx w id S (.hole e xs i p)):∃a c,(ν id).hdr= .slice a xs.length c:=by
 obtain⟨_,hlen,_,_,b,hb,_⟩:=h;unfold Nu.hdr;simp only[hb];rw[hlen];exact⟨_,_,rfl⟩
theorem Wvn{t ty:TypeId}(hu:P.underlying t=some .string)(s:List UInt8):(Builtin.len_ #[t] ty #[.string ⟨s.toArray⟩]).run P w= .ok (.int .i64 (Wb s)) w:=by
 have h1:(Builtin.len_ #[t] ty #[.string ⟨s.toArray⟩]).run P w= .ok (goInt (ByteArray.mk s.toArray).size) w:=by
  simp only[Builtin.len_];simp[Wc hu]
 rw[h1];rfl
theorem Woj(hT:Wai P T)(hh:HRel w0 F G ν st.objs st.nx w){t ty:TypeId}{x:AVal}{u:Value}{r:AVal}(hx:AValRel G ν st.nx x u)(h:Wjb T st t x=some (true,r)):
  Gives P G ν st w (Builtin.len_ #[t] ty #[u]) r:=by
 unfold Wjb at h;split at h
 .rename_i te e l _ hl;simp at h;subst h;have hu:=(hT _ _ hl).und.2.1;obtain⟨⟨v,hv,hr⟩,_⟩:=hx;simp at hv;subst hv;rcases hr with⟨rfl,cM⟩|⟨b,off,cap,cs,rfl,_⟩|⟨a,cap,rfl,cM⟩
  rotate_left 2
  .exact⟨_,by simp[Builtin.len_,Wc hu]<;>rfl,WJ (by rw[cM];rfl)⟩
  .exact⟨_,by simp[Builtin.len_,Wc hu]<;>rfl,WJ (by rw[cM];rfl)⟩
  .exact⟨_,by simp[Builtin.len_,Wc hu]<;>rfl,WJ rfl⟩
 .rename_i te e _ hl;simp at h;subst h;have hu:=(hT _ _ hl).und.2.1;obtain⟨hv,_⟩:=hx;simp only[CellRel]at hv;subst hv;exact⟨_,by simp[Builtin.len_,Wc hu]<;>rfl,WJ rfl⟩
 .rename_i te e id hl;have hu:=(hT _ _ hl).und.2.1;obtain⟨⟨_,hv⟩,_⟩:=hx;subst hv;unfold obL at h;split at h
  .rename_i e' xs ho;simp at h;subst h;obtain⟨S,aq⟩:=hh.obj ho;obtain⟨a,c,hd⟩:=Wvh aq;rw[hd];exact⟨.int .i64 (Wb xs),by simp[Builtin.len_,Wc hu]<;>rfl,WJ rfl⟩
  .rename_i e' xs i p ho;simp at h;subst h;obtain⟨S,aq⟩:=hh.obj ho;obtain⟨a,c,hd⟩:=Wtl aq;rw[hd];exact⟨.int .i64 (Wb xs),by simp[Builtin.len_,Wc hu]<;>rfl,WJ rfl⟩
  .simp at h
 .rename_i te e id lo hi hl;simp only[Option.some.injEq,Prod.mk.injEq,true_and]at h;subst h;have hu:=(hT _ _ hl).und.2.1;obtain⟨⟨_,h1,h2,h3,hv⟩,_⟩:=hx;subst hv;unfold Nu.vhdr;cases hb:(ν id).blk with
  |none=>
   have h0:=h3 hb;have e0:hi-lo=0:=by omega
   rw[e0];exact⟨_,by simp[Builtin.len_,Wc hu]<;>rfl,WJ rfl⟩
  |some b=>exact⟨.int .i64 ((hi-lo:Nat):Int),by simp[Builtin.len_,Wc hu]<;>rfl,WJ rfl⟩
 .rename_i s hl;simp at h;subst h;have hu:=(hT _ _ hl).und.2;have:=Wkk hx;subst this;exact⟨.int .i64 (Wb (α:=UInt8) s),Wvn hu s,WJ rfl⟩
 .simp at h
theorem WdU(hT:Wai P T){t:TypeId}{f off:Nat}{te:TE}(h:WgB T t f=some (off,te)):
  ∃(fields:Array Field) (fd:Field),P.underlying t=some (.struct fields)/\fields[f]?=some fd/\fd.offset=off/\TEok P T fd.type te/\te.plain=true:=by
 unfold WgB at h;split at h
 .rename_i fs hl;obtain⟨_,fields,hu,db,_⟩:=(hT _ _ hl).und;split at h
  .rename_i o ft hf;split at h
   .rename_i dr cM;split at h
    .rename_i hp;injection h with h;injection h with h1 h2;subst h1 h2;rw[←db]at hf;simp only[Xan,Xdf]at hf;cases fA:fields[f]? with
     |none=>simp[fA]at hf
     |some fd=>
      simp[fA]at hf;obtain⟨h1,h2⟩:=hf;subst h1 h2;exact⟨fields,fd,hu,fA,rfl,hT _ _ cM,hp⟩
    .simp at h
   .simp at h
  .simp at h
 .simp at h
theorem WfU{t:TypeId}{f off:Nat}{te:TE}{b o:Nat}{fields:Array Field}{fd:Field}(hu:P.underlying t=some (.struct fields))(hf:fields[f]?=some fd)(ho:fd.offset=off)
  (bw:TEok P T fd.type te) (hp:te.plain=true):(Instr.fieldAt t (.pointer (some ⟨b,o,none⟩)) f).run P w= .ok (.pointer (some ⟨b,o+off,none⟩)) w:=by
 have hsz:te.size≠0:=by rw[WV hp];have:=Wbr te.ty;omega
 simp[Instr.fieldAt,Wc hu,hf,Instr.sureAddr,fieldPlace,bw.sizeOf,hsz,WaU,ho]
theorem Wg4(hT:Wai P T)(hh:HRel w0 F G ν st.objs st.nx w){t:TypeId}{f:Nat}{x:AVal}{u:Value}{r:AVal}(hx:AValRel G ν st.nx x u)(h:Wb5 T st t x f=some (true,r)):
  Gives P G ν st w (Instr.fieldAt t u f) r:=by
 unfold Wb5 at h;split at h
 .rename_i off te id o hf;obtain⟨fields,fd,hu,fA,ho,bw,hp⟩:=WdU hT hf;split at h
  .simp at h;subst h;obtain⟨⟨h1,b,hb,rfl⟩,_⟩:=hx;exact⟨_,WfU hu fA ho bw hp,⟨h1,b,hb,by rw[Xar]⟩,rfl⟩
  .simp at h
 .rename_i off te id i o hf;obtain⟨fields,fd,hu,fA,ho,bw,hp⟩:=WdU hT hf;split at h
  .simp at h;subst h;obtain⟨⟨h1,h2,b,hb,rfl⟩,_⟩:=hx;exact⟨_,WfU hu fA ho bw hp,⟨h1,h2,b,hb,by rw[Xar,Xar]⟩,rfl⟩
  .simp at h
 .rename_i off te t' d o hf;obtain⟨fields,fd,hu,fA,ho,bw,hp⟩:=WdU hT hf;simp at h;subst h;obtain⟨⟨b,o',cs,rfl,h1,h2⟩,_⟩:=hx;exact⟨_,WfU hu fA ho bw hp,⟨b,o',cs,by rw[Xar],h1,h2⟩,rfl⟩
 .simp at h
theorem Wk8(hT:Wai P T){t:TypeId}{f:Nat}{x:AVal}{u:Value}{r:AVal}(hx:AValRel G ν st.nx x u)(h:Wno T t x f=some (true,r)):
  Gives P G ν st w (Instr.field t u f) r:=by
 unfold Wno at h;split at h
 .rename_i off te cs hf;obtain⟨fields,fd,hu,fA,ho,bw,hp⟩:=WdU hT hf;obtain⟨us,rfl,bm⟩:=hx;cases hs:sub te.agg cs off te.ty.size with
  |none=>simp[hs]at h
  |some y=>
   simp[hs]at h;subst h;unfold sub at hs;simp only[Gives,Instr.field,Sem.run_bind,Wc hu,Result.andThen_ok,fA,asAgg,Sem.run_pure,part,bw.isAgg];cases ha:te.agg with
   |true=>
    simp only[ha,if_true]at hs⊢;split at hs
    .rename_i hle;injection hs with hs;subst hs;refine⟨.agg ((us.drop off).take te.ty.size).toArray,?_,_,rfl,(bm.drop off).take _⟩;simp[bw.sizeOf,WV hp,ho]
    .simp at hs
   |false=>
    simp only[ha]at hs⊢;cases hc:cs[off]? with
    |none=>simp[hc]at hs
    |some c=>
     simp[hc]at hs;subst hs;have hlt:off<us.length:=by rw[bm.1];exact(Xs.1 hc).1
     refine⟨us[off],?_,bm.2 off c _ hc (Xp hlt)⟩;simp[ho,hlt]
 .simp at h
end
end Go.Sx
namespace Go.Sx
set_option linter.unusedVariables false
set_option linter.unusedSimpArgs false
section
variable{w0:World}{F:CS}{nt:Slots}{G0 G:GH}{ν:Nat->Nu}{st:St}{a:Act}{w:World}{P:Program}{T:Tab}
theorem WlU{α:Type}{R:α->List Value->Prop}{n:Nat}(h:∀x c,R x c->c.length=n)(l:List α)(cs:List Value)(i:Nat)(d:α)(he:EncL R l cs)(hi:i<l.length):
  R (l.getD i d) ((cs.drop (i*n)).take n):=EncL_nth h l cs i _ he (by simp[Xd,hi])
theorem WdX{i:Int}{n:Nat}(h:inb i n=true):0<=i/\i<n:=by simpa [inb]using h
theorem WdF{t et:TypeId}{te:TE}{k:IntKind}{n:Int}{b off len cap:Nat}(hu:P.underlying t=some (.slice et))(bw:TEok P T et te)(hp:te.plain=true)(h0:0<=n)(h1:n<len):
  (Instr.indexAt t (.slice (some ⟨b,off,none⟩) len cap) (.int k n)).run P w= .ok (.pointer (some ⟨b,off+n.toNat*te.ty.size,none⟩)) w:=by
 simp[Instr.indexAt,asIntOf,Wc hu,h0,h1,bw.sizeOf,WV hp,WaU]
theorem Wr9(hT:Wai P T)(hh:HRel w0 F G ν st.objs st.nx w){t et:TypeId}{te:TE}{k:IntKind}{n:Int}{id:Nat}{u:Value}{r:AVal}(hu:P.underlying t=some (.slice et))(bw:TEok P T et te)(hp:te.plain=true)
  (hx:AValRel G ν st.nx (.s (.one (.own id))) u) (h:obI te n id (look st.objs id)=some (true,r)):Gives P G ν st w (Instr.indexAt t u (.int k n)) r:=by
 obtain⟨⟨bv,hv⟩,_⟩:=hx;subst hv;unfold obI at h;split at h
 .rename_i e xs aq;split at h
  .rename_i he;simp only[Option.some.injEq,Prod.mk.injEq]at h;obtain⟨hb,rfl⟩:=h;obtain⟨h0,h1⟩:=WdX hb;obtain⟨S,hlen,bM,ho⟩:=hh.obj aq;unfold Nu.hdr;cases aV:(ν id).blk with
   |none=>simp only[aV]at ho;subst ho;simp at h1;omega
   |some b=>
    refine⟨.pointer (some ⟨b,(ν id).off+n.toNat*te.ty.size,none⟩),WdF hu bw hp h0 (by rw[←hlen];exact h1),⟨bv,by omega,b,aV,?_⟩,rfl⟩;rw[bM,he,Wbu,Xaz]
  .simp at h
 .rename_i e xs i p aq;split at h
  .rename_i he;simp only[Option.some.injEq,Prod.mk.injEq,Xh]at h;obtain⟨⟨hb,hi⟩,rfl⟩:=h;obtain⟨h0,h1⟩:=WdX hb;have hi:=Xcf hi;obtain⟨S,ll,hlen,bM,hlt,b,aV,gB,xW,ho⟩:=hh.obj aq;unfold Nu.hdr;simp only[aV];refine⟨.pointer (some ⟨b,(ν id).off+n.toNat*te.ty.size,none⟩),WdF hu bw hp h0 (by rw[←hlen];exact h1),⟨ll,b,gB,?_⟩,rfl⟩;rw[xW,he,Wbu,Xaz,hi]
  .simp at h
 .simp at h
theorem Wqo(hT:Wai P T)(hh:HRel w0 F G ν st.objs st.nx w){t et:TypeId}{te:TE}{k:IntKind}{n:Int}{id lo hi:Nat}{u:Value}{r:AVal}(hu:P.underlying t=some (.slice et))(bw:TEok P T et te)(hp:te.plain=true)
  (hx:AValRel G ν st.nx (.s (.one (.vw id lo hi))) u) (h:Wv7 te n id lo hi (look st.objs id)=some (true,r)):Gives P G ν st w (Instr.indexAt t u (.int k n)) r:=by
 obtain⟨⟨bv,g1,g2,g3,hv⟩,_⟩:=hx;subst hv;unfold Wv7 at h;split at h
 .rename_i e xs aq;split at h
  .rename_i he;simp only[Option.some.injEq,Prod.mk.injEq]at h;obtain⟨hb,rfl⟩:=h;obtain⟨h0,h1⟩:=WdX hb;obtain⟨S,hlen,bM,ho⟩:=hh.obj aq;unfold Nu.vhdr;cases aV:(ν id).blk with
   |none=>have:=g3 aV;omega
   |some b=>
    simp only[aV]at ho;have hne:(ν id).cap≠lo:=by omega
    rw[if_neg hne];refine⟨.pointer (some ⟨b,(ν id).off+lo*(ν id).esz+n.toNat*te.ty.size,none⟩),WdF hu bw hp h0 h1,⟨bv,by omega,b,aV,?_⟩,rfl⟩;rw[bM,he,Wbu,Xaz,Xcz,Xar]
  .simp at h
 .simp at h
theorem Wp8(hT:Wai P T)(hh:HRel w0 F G ν st.objs st.nx w){t et:TypeId}{te:TE}{k:IntKind}{n:Int}{m id:Nat}{u:Value}{r:AVal}(hu:P.underlying t=some (.array m et))(bw:TEok P T et te)(hp:te.plain=true)
  (hx:AValRel G ν st.nx (.s (.one (.aptr id))) u) (h:Wv8 te n m id (look st.objs id)=some (true,r)):Gives P G ν st w (Instr.indexAt t u (.int k n)) r:=by
 obtain⟨⟨bv,b,aV,hv⟩,_⟩:=hx;subst hv;unfold Wv8 at h;split at h
 .rename_i e xs aq;split at h
  .rename_i he;simp only[Option.some.injEq,Prod.mk.injEq,Xh,decide_eq_true_eq]at h;obtain⟨⟨hb,hm⟩,rfl⟩:=h;obtain⟨h0,h1⟩:=WdX hb;obtain⟨S,hlen,bM,ho⟩:=hh.obj aq;refine⟨.pointer (some ⟨b,(ν id).off+n.toNat*e.size,none⟩),?_,⟨bv,by omega,b,aV,by rw[bM,Xaz]⟩,rfl⟩;have:((0:Int)<=n/\n<(m:Int)):=⟨h0,h1⟩;simp only[Instr.indexAt,asIntOf,Sem.run_bind,Sem.run_pure,Result.andThen_ok,Wc hu,Instr.sureAddr,if_pos this,bw.sizeOf,WV hp,WaU,he]
  .simp at h
 .simp at h
theorem WgR(hT:Wai P T)(hh:HRel w0 F G ν st.objs st.nx w){t:TypeId}{x i:AVal}{u v:Value}{r:AVal}(hx:AValRel G ν st.nx x u)(hi:AValRel G ν st.nx i v)
  (h:Wb4 T st t x i=some (true,r)):Gives P G ν st w (Instr.indexAt t u v) r:=by
 unfold Wb4 at h;split at h
 .rename_i ty ag et n hl hn;obtain⟨k,rfl⟩:=WfF _ _ _ hi hn;have hu:=(hT _ _ hl).und.2.1;split at h
  .rename_i te hle;split at h
   .rename_i hp;split at h
    .rename_i e l;split at h
     .rename_i he;simp only[Option.some.injEq,Prod.mk.injEq]at h;obtain⟨hb,rfl⟩:=h;obtain⟨h0,h1⟩:=WdX hb;obtain⟨⟨z,hz,hr⟩,_⟩:=hx;simp at hz;subst hz;rcases hr with⟨rfl,cM⟩|⟨b,off,cap,cs,rfl,h2,h3,h4,h5⟩|⟨a,cap,rfl,cM⟩
      rotate_left 2
      .rw[cM]at h1;simp at h1;omega
      .rw[cM]at h1;simp at h1;omega
      .have hlt:n.toNat<Xa l:=by omega
       refine⟨_,WdF hu (hT _ _ hle) hp h0 h1,⟨b,off+n.toNat*e.size,_,?_,WlU (λx c hc=>Enc_len e x c hc) l cs n.toNat e.dflt h4 hlt,?_⟩,rfl⟩
       .rw[he];rfl
       .intro j v hj;rw[Xbn]at hj;split at hj
        .rw[Xbo]at hj;rw[Xar];exact h5 _ _ hj
        .simp at hj
     .simp at h
    .simp at h
    .exact Wr9 hT hh hu (hT _ _ hle) hp hx h
    .exact Wqo hT hh hu (hT _ _ hle) hp hx h
    .simp at h
   .simp at h
  .simp at h
 .rename_i ty ag m et n hl hn;obtain⟨k,rfl⟩:=WfF _ _ _ hi hn;have hu:=(hT _ _ hl).und.2.1;split at h
  .rename_i te hle;split at h
   .rename_i hp;split at h
    .exact Wp8 hT hh hu (hT _ _ hle) hp hx h
    .simp at h
   .simp at h
  .simp at h
 .simp at h
theorem WvW(s:List UInt8)(n:Nat)(h:n<s.length):(ByteArray.mk s.toArray)[n]?=some (s.getD n 0):=by
 rw[ByteArray.getElem?_lt' _ _ (by simpa [ByteArray.size]using h)];simp[ByteArray.getElem_eq_getElem_data,h]
theorem Wjt{k:IntKind}:∀(cs:List Cell) (us:List Value) (l:List Int),WbE k cs=some l->CellsRel G ν st.nx cs us->l.length=cs.length/\∀j,j<us.length->us[j]?=some (.int k (Xd l j (0:Int)))
 | [],us,l,h,hc=>by
  simp only[WbE]at h;injection h with h;subst h;have:=hc.1;simp at this;subst this;exact⟨rfl,λj hj=>by simp at hj⟩
 | .val (.int k') d::cs,us,l,h,hc=>by
  simp only[WbE]at h;split at h
  .rename_i hk;subst hk;cases hi:WbE k' cs with
   |none=>rw[hi]at h;cases h
   |some l'=>
    rw[hi]at h;simp only[Xch]at h;injection h with h;subst h;cases us with
    |nil=>have:=hc.1;simp at this
    |cons u us=>
     have h0:=(hc.2 0 _ u rfl rfl).1;have hu:u= .int k' d:=by simpa [CellRel,Enc]using h0
     obtain⟨h1,h2⟩:=Wjt cs us l' hi ⟨by have:=hc.1;simpa using this,λj c v hj hv=>hc.2 (j+1) c v (by simpa using hj) (by simpa using hv)⟩;refine⟨by show l'.length+1=cs.length+1;rw[h1],λj hj=>?_⟩;cases j with
     |zero=>show some u=some (Value.int k' d);rw[hu]
     |succ j=>exact h2 j (by simpa using hj)
  .cases h
 | .val .bool d::cs,us,l,h,_=>by simp[WbE]at h
 | .val .str d::cs,us,l,h,_=>by simp[WbE]at h
 | .val (.slice _) d::cs,us,l,h,_=>by simp[WbE]at h
 | .val (.own _) d::cs,us,l,h,_=>by simp[WbE]at h
 | .val (.prod _ _) d::cs,us,l,h,_=>by simp[WbE]at h
 | .nils::cs,us,l,h,_=>by simp[WbE]at h
 | .own _::cs,us,l,h,_=>by simp[WbE]at h
 | .vw _ _ _::cs,us,l,h,_=>by simp[WbE]at h
 | .aptr _::cs,us,l,h,_=>by simp[WbE]at h
 | .ptr _ _::cs,us,l,h,_=>by simp[WbE]at h
 | .eptr _ _ _::cs,us,l,h,_=>by simp[WbE]at h
 | .rptr _ _ _::cs,us,l,h,_=>by simp[WbE]at h
 | .clos _ _::cs,us,l,h,_=>by simp[WbE]at h
 | .junk::cs,us,l,h,_=>by simp[WbE]at h
theorem WkP(hT:Wai P T){t:TypeId}{x i:AVal}{u v:Value}{r:AVal}(hx:AValRel G ν st.nx x u)(hi:AValRel G ν st.nx i v)
  (h:WnA T t x i=some (true,r)):Gives P G ν st w (Instr.index t u v) r:=by
 unfold WnA at h;split at h
 .rename_i s n hl hn;obtain⟨k,rfl⟩:=WfF _ _ _ hi hn;have:=Wkk hx;subst this;have hu:=(hT _ _ hl).und.2;simp only[Option.some.injEq,Prod.mk.injEq]at h;obtain⟨hb,rfl⟩:=h;obtain⟨h0,h1⟩:=WdX hb;have hlt:n.toNat<Xa s:=by omega
  refine⟨.int .u8 ((Xd s n.toNat 0).toNat:Int),?_,WJ rfl⟩;simp only[Instr.index,asIntOf,Sem.run_bind,Sem.run_pure,Result.andThen_ok,Wc hu,if_pos h0,WvW s n.toNat hlt]
 .rename_i k ag m et cs n hl hn;split at h
  .rename_i k' hle;split at h
   .rename_i l qv;split at h
    .rename_i hc;obtain⟨rfl,hm⟩:=hc;obtain⟨kk,rfl⟩:=WfF _ _ _ hi hn;obtain⟨us,rfl,bm⟩:=hx;simp only[Option.some.injEq,Prod.mk.injEq]at h;obtain⟨hb,rfl⟩:=h;obtain⟨h0,h1⟩:=WdX hb;obtain⟨hlen,fV⟩:=Wjt _ _ _ qv bm;have hu:=(hT _ _ hl).und.2.1;have vX:=hT _ _ hle;have m0:(Go.isAgg et).run P w= .ok false w:=vX.isAgg;have hsz:(Go.sizeOf et).run P w= .ok 1 w:=vX.sizeOf;have hlt:n.toNat<us.length:=by rw[bm.1];omega
     have jm:us[n.toNat]?=some (.int k' (Xd l n.toNat (0:Int))):=fV _ hlt;refine⟨.int k' (Xd l n.toNat (0:Int)),?_,WJ rfl⟩;simp only[Instr.index,asIntOf,Sem.run_bind,Sem.run_pure,Result.andThen_ok,Wc hu,h0,h1,and_self,if_true,hsz,part,m0,Nat.mul_one];simp[jm]
    .simp at h
   .simp at h
  .simp at h
 .simp at h
theorem Wgg{k:IntKind}{n:Int}{y:Nat}{c:BoundsCode}(h0:0<=n)(h1:n<=y):(Instr.sliceBound (.int k n) y c).run P w= .ok n.toNat w:=by
 simp[Instr.sliceBound,asIntOf,h0,h1]
inductive BRel:Option Int->Option Value->Prop where
 |none:BRel .none .none
 |some (k:IntKind) (n:Int):BRel (.some n) (.some (.int k n))
theorem Wc3(h:Rel w0 F nt G0 G ν st a w)(o:Option Operand)(r:Option Int)(he:WlH st o=some r):BRel r (o.map a.eval):=by
 cases o with
 |none=>simp[WlH]at he;subst he;exact .none
 |some x=>
  simp only[WlH]at he;cases hv:ev st x with
  |none=>simp[hv]at he
  |some av=>
   simp only[hv,Option.bind_some]at he;cases hi:asI av with
   |none=>simp[hi]at he
   |some n=>
    simp[hi]at he;subst he;obtain⟨k,hk⟩:=WfF _ _ _ (WF h x av hv) hi;simp only[Xch,hk];exact .some k n
theorem WcH{isSlice:Bool}{n cap:Nat}{lo hi:Option Int}{vl vh:Option Value}(hl:BRel lo vl)(hh:BRel hi vh)(hc:n<=cap)(hb:(WcG n lo hi).1=true):
  (Instr.sliceBounds isSlice n cap vl vh none).run P w= .ok ((WcG n lo hi).2.1,(WcG n lo hi).2.2,cap) w/\(WcG n lo hi).2.1<=(WcG n lo hi).2.2/\(WcG n lo hi).2.2<=n:=by
 cases hl<;>cases hh<;>simp only[WcG,Xh,decide_eq_true_eq]at hb⊢
 .simp[Instr.sliceBounds]
 .rename_i k h;refine⟨?_,by omega,by omega⟩;simp only[Instr.sliceBounds,Sem.run_bind,Sem.run_pure,Result.andThen_ok];rw[Wgg hb.1 (by omega)];rfl
 .rename_i k l;refine⟨?_,by omega,by omega⟩;simp only[Instr.sliceBounds,Sem.run_bind,Sem.run_pure,Result.andThen_ok];rw[Wgg hb.1 (by omega)];rfl
 .rename_i k l k' h;obtain⟨⟨⟨h1,h2⟩,h3⟩,h4⟩:=hb;refine⟨?_,by omega,by omega⟩;simp only[Instr.sliceBounds,Sem.run_bind,Sem.run_pure,Result.andThen_ok];rw[Wgg h1 (by omega)];simp only[Result.andThen_ok];rw[Wgg h3 (by omega)];rfl
theorem WkG{α:Type}(l:List α)(lo hi:Option Int):WuC l lo hi=(l.take (WcG l.length lo hi).2.2).drop (WcG l.length lo hi).2.1:=by
 cases lo<;>cases hi<;>simp[WuC,WcG]
theorem WvQ(s:List UInt8)(l h:Nat):(ByteArray.mk s.toArray).extract l h=⟨((s.take h).drop l).toArray⟩:=by
 apply ByteArray.ext;rw[ByteArray.data_extract];simp[List.extract_eq_take_drop,List.drop_take]
theorem WsW{t:TypeId}{lo hi:Option Int}{vl vh:Option Value}(hu:P.underlying t=some .string)(s:List UInt8)(hl:BRel lo vl)(hh:BRel hi vh)(hb:(WcG s.length lo hi).1=true):
  (Instr.sliceAt t (.string ⟨s.toArray⟩) vl vh none).run P w= .ok (.string ⟨(WuC s lo hi).toArray⟩) w:=by
 have hsz:(ByteArray.mk (List.toArray s)).size=Xa s:=by simp[ByteArray.size]
 obtain⟨hr,h3,h4⟩:=WcH (P:=P) (w:=w) (isSlice:=false) (cap:=Xa s) hl hh (Xm _) hb;simp only[Instr.sliceAt,Instr.slice,Sem.run_bind,Wc hu,Result.andThen_ok,Option.isSome_none,Bool.false_eq_true,if_false,Sem.run_pure,hsz,hr,WvQ,WkG]
theorem Wth{t et:TypeId}{te:TE}{lo hi:Option Int}{vl vh:Option Value}{α:Type}{R:α->List Value->Prop}{n:Nat}(hR:∀x c,R x c->c.length=n)(hu:P.underlying t=some (.slice et))(bw:TEok P T et te)(hp:te.plain=true)(hn:te.ty.size=n)
  (xs:List α) {v:Value} (hx:Wi4 G R xs v) (hl:BRel lo vl) (hh:BRel hi vh) (hb:(WcG xs.length lo hi).1=true):
  ∃v',(Instr.sliceAt t v vl vh none).run P w= .ok v' w/\Wi4 G R (WuC xs lo hi) v':=by
 rcases hx with⟨rfl,bz⟩|⟨b,off,cap,cs,rfl,h3,h4,h5,h6⟩|⟨a,cap,rfl,bz⟩
 rotate_left 2
 .subst bz;obtain⟨hr,h3,h4⟩:=WcH (P:=P) (w:=w) (isSlice:=true) (cap:=cap) hl hh (Xbq _) hb;have e1:(WcG 0 lo hi).2.2=0:=by omega
  have e2:(WcG 0 lo hi).2.1=0:=by omega
  rw[e1,e2]at hr;refine⟨.slice (some a) 0 cap,?_,.inr (.inr ⟨a,cap,rfl,?_⟩)⟩
  .simp only[Instr.sliceAt,Instr.slice,Sem.run_bind,Wc hu,Result.andThen_ok,hr,bw.sizeOf,Sem.run_pure,Xch];simp[Addr.add]
  .rw[WkG];simp
 .subst bz;obtain⟨hr,h3,h4⟩:=WcH (P:=P) (w:=w) (isSlice:=true) (cap:=0) hl hh (Xm _) hb;refine⟨.slice none 0 0,?_,.inl ⟨rfl,?_⟩⟩
  .have e1:(WcG 0 lo hi).2.2=0:=by omega
   have e2:(WcG 0 lo hi).2.1=0:=by omega
   rw[e1,e2]at hr;simp[Instr.sliceAt,Instr.slice,Wc hu,hr,bw.sizeOf]
  .rw[WkG];simp
 .obtain⟨hr,h7,h8⟩:=WcH (P:=P) (w:=w) (isSlice:=true) (cap:=cap) hl hh h3 hb;have qw:=WkG xs lo hi;generalize (WcG xs.length lo hi).2.1=p at*;generalize (WcG xs.length lo hi).2.2=q at*;have hsz:te.size=n:=by rw[WV hp,hn]
  have hlen:(WuC xs lo hi).length=q-p:=by rw[qw];simp;omega
  refine⟨.slice (some (if cap=p then⟨b,off,none⟩else⟨b,off+p*n,none⟩)) (q-p) (cap-p),?_,.inr (.inl ?_)⟩
  .simp only[Instr.sliceAt,Instr.slice,Sem.run_bind,Wc hu,Result.andThen_ok,hr,bw.sizeOf,Sem.run_pure,hsz,Xch,WaU];split<;>rfl
  .by_cases hc:cap=p
   .have h0:WuC xs lo hi= []:=Xy (by omega);refine⟨b,off,cap-p,[],?_,by omega,by omega,?_,λj v hj=>by simp at hj⟩
    .rw[if_pos hc];rw[hlen]
    .rw[h0];rfl
   .refine⟨b,off+p*n,cap-p,(cs.take (q*n)).drop (p*n),?_,by omega,by omega,?_,?_⟩
    .rw[if_neg hc,hlen]
    .rw[qw];exact WeF hR _ _ p (Weg hR _ _ q h5)
    .intro j v hj;rw[Xbo,Xbn]at hj;split at hj
     .rw[Xar];exact h6 _ _ hj
     .simp at hj
theorem WkF(hT:Wai P T){t:TypeId}{x:AVal}{u:Value}{vl vh:Option Value}{lo hi:Option Operand}{r:AVal}(hx:AValRel G ν st.nx x u)
  (hl:∀l,WlH st lo=some l->BRel l vl) (hh:∀l,WlH st hi=some l->BRel l vh)
  (h:Wlj T st t x lo hi=some (true,r)):Gives P G ν st w (Instr.sliceAt t u vl vh none) r:=by
 unfold Wlj at h;split at h
 .rename_i s l h' qx h1 h2;have:=Wkk hx;subst this;simp only[Option.some.injEq,Prod.mk.injEq]at h;obtain⟨hb,rfl⟩:=h;exact⟨_,WsW (hT _ _ qx).und.2 s (hl _ h1) (hh _ h2) hb,WJ rfl⟩
 .rename_i ty ag et e xs l h' qx h1 h2;have hu:=(hT _ _ qx).und.2.1;split at h
  .rename_i te hle;split at h
   .rename_i xX;obtain⟨he,hp⟩:=xX;simp only[Option.some.injEq,Prod.mk.injEq]at h;obtain⟨hb,rfl⟩:=h;obtain⟨⟨z,hz,hr⟩,_⟩:=hx;simp at hz;subst hz;obtain⟨v',h3,h4⟩:=Wth (P:=P) (T:=T) (w:=w) (λx c hc=>Enc_len e x c hc) hu (hT _ _ hle) hp (by rw[he]) xs hr (hl _ h1) (hh _ h2) hb;exact⟨v',h3,WJ ⟨v',rfl,h4⟩⟩
   .simp at h
  .simp at h
 .simp at h
end
end Go.Sx
namespace Go.Sx
set_option linter.unusedVariables false
set_option linter.unusedSimpArgs false
section
variable{w0:World}{F:CS}{nt:Slots}{G0 G:GH}{ν:Nat->Nu}{st:St}{a:Act}{w:World}{P:Program}{T:Tab}
theorem WiQ{k:IntKind}:∀(l:List Int) (cs:List Value),EncL (Enc G (.int k)) l cs->cs=l.map (Value.int k)
 | [],cs,h=>h
 |x::l,cs,⟨c1,c2,he,h1,h2⟩=>by
  have:=WiQ l c2 h2;simp only[Enc]at h1;rw[he,h1,this];rfl
theorem Wmq{t e:TypeId}{dst:TypeId}(hs:P.underlying t=some (.slice e))(he:P.underlying e=some (.int .u8))(hd:P.underlying dst=some .string){b off cap:Nat}(l:List Int)
  (hm:∀j v,(l.map (Value.int .u8))[j]?=some v->w.cell? ⟨b,off+j,none⟩=some v):
  (convert t dst (.slice (some ⟨b,off,none⟩) l.length cap)).run P w= .ok (.string ⟨(WcB l).toArray⟩) w:=by
 rw[run_convert_bytes_string w t dst e _ _ _ hs he hd];have h1:=run_loadCells_list (P:=P) w ⟨b,off,none⟩ (l.map (Value.int .u8)) (λj v hj=>by rw[WaU];exact hm j v hj);rw[Xaf]at h1;rw[run_bytesToString w _ _ _ l h1,foldl_push_bytes];congr 2;apply ByteArray.ext;simp[WcB]
theorem Wie{t e:TypeId}{dst:TypeId}(hs:P.underlying t=some (.slice e))(he:P.underlying e=some (.int .u8))(hd:P.underlying dst=some .string)(l c:Nat):
  (convert t dst (.slice none l c)).run P w= .ok (.string ⟨#[]⟩) w:=by
 rw[run_convert_bytes_string w t dst e _ _ _ hs he hd];rfl
theorem WpF{t e:TypeId}{dst:TypeId}(hs:P.underlying t=some (.slice e))(he:P.underlying e=some (.int .u8))(hd:P.underlying dst=some .string)(a:Addr)(c:Nat):
  (convert t dst (.slice (some a) 0 c)).run P w= .ok (.string ⟨#[]⟩) w:=by
 rw[run_convert_bytes_string w t dst e _ _ _ hs he hd];have h1:=run_loadCells_list (P:=P) w a ([].map (Value.int .u8)) (λj v hj=>by simp at hj);simp only[Xcj,List.length_nil]at h1;rw[run_bytesToString w _ _ _ [] (by simpa using h1),foldl_push_bytes];rfl
theorem WlJ(hT:Wai P T)(hh:HRel w0 F G ν st.objs st.nx w){src dst:TypeId}{x:AVal}{u:Value}{r:AVal}(hx:AValRel G ν st.nx x u)
  (h:WjQ T st src dst x=some (true,r)):Gives P G ν st w (convert src dst u) r:=by
 unfold WjQ Wwd at h;split at h
 .rename_i k0 k k1 n h1 h2;have:=WgV hx;subst this;have hs:=(hT _ _ h1).und.2;have hd:=(hT _ _ h2).und.2;simp at h;subst h;exact⟨.int k (k.wrap n),by simp[convert,Wc hs,Wc hd,Conv.intToInt],WJ rfl⟩
 .rename_i s h1 h2;have:=Wkk hx;subst this;have hs:=(hT _ _ h1).und.2;have hd:=(hT _ _ h2).und.2;simp at h;subst h;exact⟨_,by simp[convert,Wc hs,Wc hd]<;>rfl,WJ rfl⟩
 .rename_i ty ag et c h1 h2;have hs:=(hT _ _ h1).und.2.1;have hd:=(hT _ _ h2).und.2;split at h
  .rename_i h3;have he:=(hT _ _ h3).und.2;split at h
   .rename_i l;simp at h;subst h;obtain⟨⟨z,hz,hr⟩,_⟩:=hx;simp at hz;subst hz;rcases hr with⟨rfl,bz⟩|⟨b,off,cap,cs,rfl,h4,h5,h6,h7⟩|⟨a,cap,rfl,bz⟩
    rotate_left 2
    .refine⟨_,WpF hs he hd a _,WJ ?_⟩;rw[bz];rfl
    .refine⟨_,Wie hs he hd _ _,WJ ?_⟩;rw[bz];rfl
    .have bm:=WiQ _ _ h6;exact⟨_,Wmq hs he hd l (λj v hj=>hh.g (h7 j v (by rw[bm];exact hj))),WJ rfl⟩
   .simp at h;subst h;obtain⟨hv,_⟩:=hx;simp only[CellRel]at hv;subst hv;exact⟨_,Wie hs he hd _ _,WJ rfl⟩
   .rename_i id;split at h
    .rename_i xs aq;simp at h;subst h;obtain⟨⟨bv,hv⟩,_⟩:=hx;subst hv;obtain⟨S,ho⟩:=hh.obj aq;unfold Nu.hdr;cases aV:(ν id).blk with
     |none=>
      have hn:=Wcp ho aV;refine⟨_,Wie hs he hd _ _,WJ ?_⟩;rw[hn];rfl
     |some b=>
      obtain⟨hlen,h4,h5,h6,cs,h7,h8,h9⟩:=Wdl (e:=.int .u8) rfl ho aV;have bm:=WiQ _ _ h7;simp only[←hlen];exact⟨_,Wmq hs he hd xs (λj v hj=>h8 j v (by rw[bm];exact hj)),WJ rfl⟩
    .simp at h
   .simp at h
  .simp at h
 .simp at h
theorem Wvt{x:Operand}{o:Oper}(ho:o.op= .nilCheck x){ρ:Operand->Value}{p:Addr}(h:ρ x= .pointer (some p)):(execOp ρ o).run P w= .ok (.value (.pointer (some p))) w:=by
 simp[execOp,ho,h]
theorem Wsd{x r:AVal}{u:Value}(hx:AValRel G ν st.nx x u)(h:Wqq st x=some (true,r)):r=x/\∃p,u= .pointer (some p):=by
 unfold Wqq at h;split at h
 .simp at h;subst h;obtain⟨⟨b,o,cs,rfl,_⟩,_⟩:=hx;exact⟨rfl,_,rfl⟩
 .split at h
  .simp at h;subst h;obtain⟨⟨_,b,_,rfl⟩,_⟩:=hx;exact⟨rfl,_,rfl⟩
  .simp at h
 .split at h
  .simp at h;subst h;obtain⟨⟨_,_,b,_,rfl⟩,_⟩:=hx;exact⟨rfl,_,rfl⟩
  .simp at h
 .split at h
  .simp at h;subst h;obtain⟨⟨_,b,_,rfl⟩,_⟩:=hx;exact⟨rfl,_,rfl⟩
  .simp at h
 .simp at h
theorem Wjs(hr:Rel w0 F nt G0 G ν st a w):∀(l:List Operand) (ids:List Nat),Wgz st l=some ids->
  ids.length=l.length/\∀(j id:Nat) (u:Value),ids[j]?=some id->(l.map a.eval)[j]?=some u->id<st.nx/\u.oneCell'=true/\∃b,(ν id).blk=some b/\u= .pointer (some ⟨b,(ν id).off+0,none⟩)
 | [],ids,h=>by simp[Wgz]at h;subst h;exact⟨rfl,λj id u hj=>by simp at hj⟩
 |o::l,ids,h=>by
  simp only[Wgz]at h;split at h
  .rename_i id r h1 h2;injection h with h;subst h;obtain⟨h3,h4⟩:=Wjs hr l r h2;refine⟨by simp[h3],λj i u hj hu=>?_⟩;cases j with
   |zero=>
    simp at hj hu;subst hj hu;obtain⟨⟨g1,g2⟩,g3⟩:=WF hr o _ h1;exact⟨g1,g3,g2⟩
   |succ j=>exact h4 j i u (by simpa using hj) (by simpa using hu)
  .simp at h
theorem Whf(hT:Wai P T)(hh:HRel w0 F G ν st.objs st.nx w){t:TypeId}{x:AVal}{u:Value}{r:AVal}(hx:AValRel G ν st.nx x u)(h:Whh T st t x=some r):
  Gives P G ν st w (Instr.loadAt t u) r:=by
 unfold Whh at h;split at h
 .rename_i te hl;split at h
  .rename_i hp;split at h
   .rename_i id off;split at h
    .rename_i cs aq;obtain⟨⟨_,b,hb,rfl⟩,_⟩:=hx;obtain⟨S,b',vs,hb',hrow,hmem,bm,_⟩:=hh.obj aq;rw[hb]at hb';injection hb' with hb';subst hb';obtain⟨v,h3,h4⟩:=WgX (hT _ _ hl) hp bm (o:=(ν id).off) hmem h;exact⟨v,by simpa [Instr.loadAt,Instr.sureAddr]using h3,h4⟩
    .simp at h
   .rename_i id i off;split at h
    .rename_i e xs aq;obtain⟨⟨_,hlt,b,hb,rfl⟩,_⟩:=hx;obtain⟨S,ho⟩:=hh.obj aq;have bM:=ho.2.1;obtain⟨c,p,h1,h2⟩:=Wrh ho hb (by rw[ho.1];exact hlt);obtain⟨v,h9,ca⟩:=WgX (hT _ _ hl) hp (WhO (ν:=ν) (nx:=st.nx) e _ _ _ h1) (w:=w) (b:=b) (o:=(ν id).off+i*e.size) h2 h;exact⟨v,by simpa [Instr.loadAt,Instr.sureAddr,bM,Xar]using h9,ca⟩
    .simp at h
   .rename_i t' d off;obtain⟨⟨b,o,cs,rfl,h1,h2⟩,_⟩:=hx;obtain⟨v,h9,ca⟩:=WgX (hT _ _ hl) hp (WaA (G:=G) (ν:=ν) (nx:=st.nx) t' d _ h1) (w:=w) (b:=b) (o:=o) (λj v hj=>hh.g (h2 j v hj)) h;exact⟨v,by simpa [Instr.loadAt,Instr.sureAddr]using h9,ca⟩
   .simp at h
  .simp at h
 .simp at h
theorem WoA{G:GH}{k:IntKind}:∀(xs:List Int) (cs:List Value),EncL (Enc G (.int k)) xs cs->cs=xs.map λx=>Value.int k x
 | [],cs,h=>h
 |x::xs,cs,⟨c1,c2,h1,h2,h3⟩=>by
  have:c1= [.int k x]:=h2;rw[h1,this,WoA xs c2 h3];rfl
theorem WoH{k:IntKind}{xs:List Int}:∀(n i j:Nat),(Wux k xs i n)[j]?=if j<n then some (.val (.int k) (xs.getD (i+j) (0:Int)))else none
 |0,i,j=>by simp[Wux]
 |n+1,i,j=>by
  cases j with
  |zero=>simp[Wux]
  |succ j=>
   rw[Wux,List.getElem?_cons_succ,WoH n (i+1) j,show i+1+j=i+(j+1) by omega];by_cases h:j<n
   .rw[if_pos h,if_pos (by omega)]
   .rw[if_neg h,if_neg (by omega)]
theorem WoC{k:IntKind}{xs:List Int}:∀(n i:Nat),(Wux k xs i n).length=n
 |0,i=>rfl
 |n+1,i=>by rw[Wux,Xr,WoC n (i+1)]
theorem Wkw(hT:Wai P T)(hh:HRel w0 F G ν st.objs st.nx w){t:TypeId}{x:AVal}{u:Value}{r:AVal}(hx:AValRel G ν st.nx x u)(h:WfH T st t x=some (true,r)):
  Gives P G ν st w (Instr.loadAt t u) r:=by
 unfold WfH at h;split at h
 .rename_i k n et hl;split at h
  .rename_i id;split at h
   .rename_i k' xs aq;change List Int at xs;split at h
    .rename_i hk;subst hk;simp only[Option.some.injEq,Prod.mk.injEq,decide_eq_true_eq]at h;obtain⟨hn,rfl⟩:=h;obtain⟨⟨_,b,hb,rfl⟩,_⟩:=hx;obtain⟨S,ho⟩:=hh.obj aq;obtain⟨hlen,h4,h5,h6,cs,h7,h8,h9⟩:=Wdl (e:=.int k') rfl ho hb;have bm:=WoA _ _ h7;have bw:=hT _ _ hl;have m0:(Go.isAgg t).run P w= .ok true w:=bw.isAgg;have hsz:(Go.sizeOf t).run P w= .ok n w:=by have:=bw.sizeOf (w:=w);simpa [TE.size,Ty.size]using this
     have hcl:cs.length=n:=by rw[bm,Xaf];exact hn
     have hr:=run_loadCells_list (P:=P) w ⟨b,(ν id).off,none⟩ cs (λj v hj=>by rw[WaU];exact h8 j v hj);rw[hcl]at hr;refine⟨.agg cs.toArray,?_,cs,rfl,?_,λj c v hj hv=>?_⟩
     .simp only[Instr.loadAt,Instr.sureAddr,Sem.run_bind,Sem.run_pure,Result.andThen_ok,loadVar,m0,if_true,hsz,hr]
     .rw[WoC,hcl]
     .rw[WoH]at hj;split at hj
      .rename_i tF;injection hj with hj;subst hj;rw[bm,Xan]at hv;have vY:j<Xa xs:=Nat.lt_of_lt_of_eq tF hn.symm;rw[Xp vY]at hv;simp only[Xch]at hv;injection hv with hv;subst hv;refine⟨?_,rfl⟩;simp[CellRel,Enc,vY]
      .cases hj
    .simp at h
   .simp at h
  .simp at h
 .simp at h
end
section
variable{w0:World}{F:CS}{nt:Slots}{G0 G:GH}{ν:Nat->Nu}{st:St}{a:Act}{w:World}{P:Program}{T:Tab}
theorem Wcu{o:Oper}{s:Sem Value}{r:AVal}(he:execOp a.eval o=(do pure (.value (←s))))(h:Gives P G ν st w s r):
  ∃v,(execOp a.eval o).run P w= .ok (.value v) w/\AValRel G ν st.nx r v:=by
 obtain⟨v,h1,h2⟩:=h;exact⟨v,by rw[he];simp[h1],h2⟩
theorem Wcs{α β:Type}{x:Option α}{f:α->Option (Bool×β)}{r:β}(h:x.bind f=some (true,r)):∃y,x=some y/\f y=some (true,r):=by
 cases x with
 |none=>simp at h
 |some y=>exact⟨y,rfl,h⟩
theorem Wqk(hT:Wai P T)(hr:Rel w0 F nt G0 G ν st a w){o:Oper}{r:AVal}(h:Wad T st o.op=some (true,r)):
  ∃v,(execOp a.eval o).run P w= .ok (.value v) w/\AValRel G ν st.nx r v:=by
 obtain⟨dst,op,type,pos,after,guard⟩:=o;simp only at h;unfold Wad at h;split at h
 .rename_i x;cases hx:ev st x with
  |none=>simp[hx]at h
  |some v=>simp[hx]at h;subst h;exact⟨_,rfl,WF hr x _ hx⟩
 .rename_i x;cases hx:ev st x with
  |none=>simp[hx]at h
  |some v=>simp[hx]at h;subst h;exact⟨_,rfl,WF hr x _ hx⟩
 .rename_i c x y;split at h
  .rename_i p h1;cases hc:ev st c with
   |none=>simp[hc]at h1
   |some cv=>
    simp[hc]at h1;have e1:=WnK _ _ _ (WF hr c _ hc) h1;split at h
    .rename_i m n h2 h3;simp at h;subst h;have e2:=Wkn (WF hr x _ h2);have e3:=Wkn (WF hr y _ h3);refine⟨.bool (bif p then m else n),?_,WJ rfl⟩;simp only[execOp,e1,e2,e3,asBool];cases p<;>rfl
    .cases p with
     |true=>
      cases hx:ev st x with
      |none=>simp[hx]at h
      |some v=>simp[hx]at h;subst h;exact⟨a.eval x,by simp only[execOp,e1,asBool];rfl,WF hr x _ hx⟩
     |false=>
      cases hx:ev st y with
      |none=>simp[hx]at h
      |some v=>simp[hx]at h;subst h;exact⟨a.eval y,by simp only[execOp,e1,asBool];rfl,WF hr y _ hx⟩
  .simp at h
 .rename_i t x;obtain⟨y,hy,h⟩:=Wcs h;cases ha:WfH T st t y with
  |some z=>rw[ha]at h;simp only[]at h;injection h with h;subst h;exact Wcu rfl (Wkw hT hr.h (WF hr x _ hy) ha)
  |none=>
   rw[ha]at h;cases hl:Whh T st t y with
   |none=>simp[hl]at h
   |some z=>simp[hl]at h;subst h;exact Wcu rfl (Whf hT hr.h (WF hr x _ hy) hl)
 .rename_i x;obtain⟨y,hy,h⟩:=Wcs h;obtain⟨rfl,p,hp⟩:=Wsd (WF hr x _ hy) h;exact⟨_,Wvt rfl hp,by rw[←hp];exact WF hr x _ hy⟩
 .rename_i op t x y _;split at h
  .rename_i u v h1 h2;exact Wcu rfl (Wnp hT x y (WF hr x _ h1) (WF hr y _ h2) h)
  .simp at h
 .rename_i op t x;obtain⟨y,hy,h⟩:=Wcs h;exact Wcu rfl (Wqh (WF hr x _ hy) h)
 .rename_i src dst x;obtain⟨y,hy,h⟩:=Wcs h;exact Wcu rfl (WlJ hT hr.h (WF hr x _ hy) h)
 .rename_i t x lo hi;obtain⟨y,hy,h⟩:=Wcs h;exact Wcu rfl (WkF hT (WF hr x _ hy) (λl hl=>Wc3 hr lo l hl) (λl hl=>Wc3 hr hi l hl) h)
 .rename_i s x f;obtain⟨y,hy,h⟩:=Wcs h;exact Wcu rfl (Wg4 hT hr.h (WF hr x _ hy) h)
 .rename_i s x f;obtain⟨y,hy,h⟩:=Wcs h;exact Wcu rfl (Wk8 hT (WF hr x _ hy) h)
 .rename_i t x i;split at h
  .rename_i u v h1 h2;exact Wcu rfl (WgR hT hr.h (WF hr x _ h1) (WF hr i _ h2) h)
  .simp at h
 .rename_i t x i;split at h
  .rename_i u v h1 h2;exact Wcu rfl (WkP hT (WF hr x _ h1) (WF hr i _ h2) h)
  .simp at h
 .rename_i t ix;split at h
  .rename_i xs h1;cases hx:xs[ix]? with
   |none=>simp[hx]at h
   |some y=>
    simp[hx]at h;subst h;obtain⟨vs,hv,hl,eS⟩:=WF hr t _ h1;have hlt:ix<vs.length:=by rw[hl];exact(Xs.1 hx).1
    exact Wcu rfl ⟨vs[ix],by simp[hv,Instr.extract,hlt],eS ix y _ hx (Xp hlt)⟩
  .simp at h
 .rename_i f first captured
  split at h
  .rename_i hf;cases hc:Wgz st captured.toList with
   |none=>simp[hc]at h
   |some ids=>
    simp[hc]at h;subst h;obtain⟨h1,h2⟩:=Wjs hr _ _ hc;have mi:first= #[]:=by simpa using hf
    subst mi;refine Wcu rfl ⟨.func (.func f) #[] (captured.map a.eval),by simp[Instr.makeFunc],⟨captured.toList.map a.eval,?_,?_,h2⟩,rfl⟩
    .apply congrArg;apply Xgk;simp
    .simp[h1]
  .simp at h
 .rename_i c;obtain⟨callee,args,argTypes⟩:=c;obtain⟨args⟩:=args;obtain⟨argTypes⟩:=argTypes;simp only at h;split at h
  .rename_i x t;obtain⟨y,hy,h⟩:=Wcs h;obtain⟨v,h1,h2⟩:=Woj (ty:=type) hT hr.h (WF hr x _ hy) h;refine⟨v,?_,h2⟩;simp only[execOp,resolve,invoke,builtin,Sem.run_bind,Sem.run_pure,Result.andThen_ok,Xdx,Xai,Xcj,h1]
  .rename_i x y _ _;split at h
   .rename_i k m k' n h1 h2;split at h
    .rename_i hk;subst hk;simp at h;subst h;have e1:=WgV (WF hr x _ h1);have e2:=WgV (WF hr y _ h2);refine⟨.int k (Wxc m n),?_,WJ rfl⟩;simp only[execOp,resolve,invoke,builtin,Sem.run_bind,Sem.run_pure,Result.andThen_ok,Xdx,Xai,Xcj,e1,e2,Builtin.min_];rfl
    .simp at h
   .simp at h
  .rename_i x y _ _;split at h
   .rename_i k m k' n h1 h2;split at h
    .rename_i hk;subst hk;simp at h;subst h;have e1:=WgV (WF hr x _ h1);have e2:=WgV (WF hr y _ h2);refine⟨.int k (Wv3 m n),?_,WJ rfl⟩;simp only[execOp,resolve,invoke,builtin,Sem.run_bind,Sem.run_pure,Result.andThen_ok,Xdx,Xai,Xcj,e1,e2,Builtin.max_];rfl
    .simp at h
   .simp at h
  .simp at h
 .simp at h
end
end Go.Sx
namespace Go.Sx
set_option linter.unusedVariables false
set_option linter.unusedSimpArgs false
section
variable{w0:World}{F:CS}{nt:Slots}{G0 G G':GH}{ν ν':Nat->Nu}{φ φ':Nat->CS}{objs objs':Wab}{nx ah:Nat}{w w':World}{P:Program}{T:Tab}
theorem Live.of{id:Nat}{ob:Ob}(h:look objs id=some ob)(hd:ob≠ .dead):Live objs id:=⟨ob,h,hd⟩
theorem Wx{α:Type}(k:Nat)(v:α)(l:List (Nat×α))(i:Nat):look ((k,v)::l) i=if k=i then some v else look l i:=by
 simp only[look];by_cases h:k=i
 .subst h;simp
 .have:Xbv k i=false:=by
   cases hb:Xbv k i with
   |false=>rfl
   |true=>exact absurd (Xcf hb) h
  rw[this,if_neg h]
theorem Wbz{α:Type}:∀(l m:List (Nat×α)) (i:Nat),look (l++m) i=match look l i with
  |some x=>some x
  |none=>look m i
 | [],m,i=>rfl
 |(k,v)::l,m,i=>by
  rw[List.cons_append,Wx,Wx];split
  .rfl
  .exact Wbz l m i
theorem HR.blk_lt_g(h:HR w0 F G ν φ objs nx w){b o:Nat}{v:Value}(hg:G b o=some v):b<w.heap.size:=block_lt_of_cell (h.g b o v hg)
theorem WLe.refl(S:CS)(w:World):WLe S w w:=⟨Xm _,λ_ vs _ h=>⟨vs,h,rfl⟩,λ_ _ _ _=>rfl,λ_ _ _=>rfl,rfl,rfl,rfl⟩
theorem WLe.mono{S S':CS}(h:WLe S w w')(hl:CS.le S S'):WLe S' w w':=
 ⟨h.size,h.row,λb o hb hn=>h.cell b o hb (λhs=>hn (hl b o hs)),λb hb hn=>h.whole b hb (λo hs=>hn o (hl b o hs)),h.os,h.output,h.tape⟩
theorem WLe.same{S S':CS}(h:WLe S w w')(hd:CS.disj S S')(hb:∀b o,S' b o->b<w.heap.size):Same S' w w':=
 ⟨λb n ⟨vs,T,h1,h2⟩=>by obtain⟨vs',h3,h4⟩:=h.row b vs T h1;exact⟨vs',T,h3,by omega⟩,λb o hs=>h.cell b o (hb b o hs) (λcb=>hd b o cb hs)⟩
theorem WLe.rows{S:CS}(h:WLe S w w'):Same (λ_ _=>False) w w':=
 ⟨λb n ⟨vs,T,h1,h2⟩=>by obtain⟨vs',h3,h4⟩:=h.row b vs T h1;exact⟨vs',T,h3,by omega⟩,λ_ _ hs=>hs.elim⟩
theorem WLe.trans{S S':CS}{w1 w2 w3:World}(h:WLe S w1 w2)(h':WLe S' w2 w3)(hs:∀b o,S' b o->w1.heap.size<=b\/S b o):WLe S w1 w3 where
 size:=Xct h.size h'.size
 row b vs T hb:=by
  obtain⟨vs',h1,h2⟩:=h.row b vs T hb;obtain⟨vs2,h3,h4⟩:=h'.row b vs' T h1;exact⟨vs2,h3,h4.trans h2⟩
 cell b o hb hn:=by
  rw[h'.cell b o (Xbr hb h.size) (λcb=>by rcases hs b o cb with h1|h1;omega;exact hn h1)];exact h.cell b o hb hn
 whole b hb hn:=by
  rw[h'.whole b (Xbr hb h.size) (λo cb=>by rcases hs b o cb with h1|h1;omega;exact hn o h1)];exact h.whole b hb hn
 os:=h'.os.trans h.os
 output:=h'.output.trans h.output
 tape:=h'.tape.trans h.tape
theorem WLe.alloc(S:CS)(wd:World)(o:Obj)(hh:wd.heap=w.heap)(pH:wd.os=w.os)(iR:wd.output=w.output)(fj:wd.tape=w.tape):WLe S w (wd.alloc o) where
 size:=by simp[hh]
 row b vs T hb:=by
  have hlt:b<w.heap.size:=(Array.getElem?_eq_some_iff.1 hb).1;exact⟨vs,by rw[heap_alloc_old wd o (by rw[hh];exact hlt),hh];exact hb,rfl⟩
 cell b o' hb _:=World.cell?_of_block (by show(wd.alloc o).heap[b]?=w.heap[b]?;rw[heap_alloc_old wd o (by rw[hh];exact hb),hh])
 whole b hb _:=by rw[heap_alloc_old wd o (by rw[hh];exact hb),hh]
 os:=pH
 output:=iR
 tape:=fj
theorem WLe.setRow{S:CS}{b:Nat}{vs us:Array Value}{T:TypeId}(h:w.heap[b]?=some (Obj.cells vs T (0,0)))(hsz:us.size=vs.size)(hc:∀o,¬S b o->us[o]?=vs[o]?):WLe S w (w.setRow b us) where
 size:=by simp
 row k vs' T' hk:=by
  by_cases e:k=b
  .subst e;rw[h]at hk;injection hk with hk;injection hk with h1 h2 h3;subst h1 h2;exact⟨us,setRow_heap w k vs us T (0,0) h,hsz⟩
  .exact⟨vs',by rw[setRow_other w b k us e];exact hk,rfl⟩
 cell k o hk hn:=by
  by_cases e:k=b
  .subst e;rw[cell_of_row _ k o us T (0,0) (setRow_heap w k vs us T (0,0) h),cell_of_row w k o vs T (0,0) h];exact hc o hn
  .exact World.cell?_of_block (setRow_other w b k us e)
 whole k hk hn:=by
  by_cases e:k=b
  .subst e;have:us=vs:=Array.ext_getElem? λo=>hc o (hn o);rw[setRow_heap w k vs us T (0,0) h,h,this]
  .exact setRow_other w b k us e
 os:=rfl
 output:=rfl
 tape:=rfl
def WvB(φ:Nat->CS)(objs:Wab):CS:=λb o=>∃id,Live objs id/\φ id b o
theorem HR.step(h:HR w0 F G ν φ objs nx w)(hw:WLe (WvB φ objs) w w')
  (aq:∀id ob,look objs' id=some ob->ob≠ .dead->Wcv G ν' ah w' id (φ' id) ob)
  (hlt:∀id,Live objs' id->id<ah)
  (cS:∀id b o,Live objs' id->φ' id b o->WvB φ objs b o\/w.heap.size<=b)
  (hbl:∀id b o,Live objs' id->φ' id b o->b<w'.heap.size)
  (tG:∀id bG b o,Live objs' id->Live objs' bG->φ' id b o->φ' bG b o->id=bG):
  HR w0 F G ν' φ' objs' ah w' where
 g b o v hg:=by
  rw[hw.cell b o (h.blk_lt_g hg) (λ⟨id,hl,hp⟩=>by rw[h.gf id b o hl hp]at hg;cases hg)];exact h.g b o v hg
 ob id ob ho:=by
  by_cases hd:ob= .dead
  .subst hd;trivial
  .exact aq id ob ho hd
 gf id b o hl hp:=by
  rcases cS id b o hl hp with⟨tH,hl0,tI⟩|fm
  .exact h.gf tH b o hl0 tI
  .cases hg:G b o with
   |none=>rfl
   |some v=>have:=h.blk_lt_g hg;omega
 inj:=tG
 own id b o hl hp:=by
  rcases cS id b o hl hp with⟨tH,hl0,tI⟩|fm
  .exact h.own tH b o hl0 tI
  .exact .inl (Xct h.le.size fm)
 lt:=hlt
 bl:=hbl
 le:=h.le.trans hw (λb o ⟨id,hl,hp⟩=>h.own id b o hl hp)
def Wv9(φ:Nat->CS)(i:Nat)(S:CS):Nat->CS:=λj=>if j=i then S else φ j
theorem Win(φ:Nat->CS)(i:Nat)(S:CS):Wv9 φ i S i=S:=by simp[Wv9]
theorem WfK(φ:Nat->CS){i j:Nat}(S:CS)(h:j≠i):Wv9 φ i S j=φ j:=by simp[Wv9,h]
theorem Weh:∀(l:List Nat) (id:Nat) (ob:Ob),look (kill objs l) id=some ob->ob≠ .dead->look objs id=some ob/\id∉l
 | [],id,ob,h,_=>⟨h,by simp⟩
 |i::l,id,ob,h,hd=>by
  simp only[kill]at h;rw[Wx]at h;split at h
  .injection h with h;exact absurd h.symm hd
  .rename_i hne;obtain⟨h1,h2⟩:=Weh l id ob h hd;exact⟨h1,λhm=>by rcases Xo.1 hm with hm|hm;exact hne hm.symm;exact h2 hm⟩
theorem Wds{l:List Nat}{id:Nat}(h:Live (kill objs l) id):Live objs id/\id∉l:=by
 obtain⟨ob,h1,h2⟩:=h;obtain⟨h3,h4⟩:=Weh l id ob h1 h2;exact⟨⟨ob,h3,h2⟩,h4⟩
def WwR(φ:Nat->CS)(objs:Wab)(t:Nat)(m:List Nat):CS:=λb o=>∃i,(i=t\/i∈m)/\Live objs i/\φ i b o
theorem HR.put(h:HR w0 F G ν φ objs nx w){t:Nat}{m:List Nat}{ob:Ob}{S:CS}(hn:Wrg nx ν ν')(hx:nx<=ah)(ht:t<ah)
  (hw:WLe (WwR φ objs t m) w w') (hS:∀b o,S b o->WwR φ objs t m b o\/(w.heap.size<=b/\b<w'.heap.size))
  (cF:ob≠ .dead->Wcv G ν' ah w' t S ob):HR w0 F G ν' (Wv9 φ t S) ((t,ob)::kill objs m) ah w':=by
 have hl:∀id ch,look ((t,ob)::kill objs m) id=some ch->ch≠ .dead->(id=t/\ch=ob)\/(id≠t/\id∉m/\look objs id=some ch):=λid ch ho hd=>by
  rw[Wx]at ho;split at ho
  .rename_i e;injection ho with ho;exact .inl ⟨e.symm,ho.symm⟩
  .rename_i hne;obtain⟨h1,h2⟩:=Weh m id ch ho hd;exact .inr ⟨λe=>hne e.symm,h2,h1⟩
 have kL:∀id,Live ((t,ob)::kill objs m) id->(id=t)\/(id≠t/\id∉m/\Live objs id):=λid ⟨ch,ho,hd⟩=>by
  rcases hl id ch ho hd with⟨h1,h2⟩|⟨h1,h2,h3⟩
  .exact .inl h1
  .exact .inr ⟨h1,h2,ch,h3,hd⟩
 refine h.step (hw.mono λb o ⟨i,_,h1,h2⟩=>⟨i,h1,h2⟩) (λid ch ho hd=>?_) (λid ar=>?_) (λid b o ar hp=>?_) (λid b o ar hp=>?_) (λid bG b o ar fW hp c8=>?_)
 .rcases hl id ch ho hd with⟨h1,h2⟩|⟨h1,h2,h3⟩
  .subst h1 h2;rw[Win];exact cF hd
  .rw[WfK φ S h1];have ar:Live objs id:=⟨ch,h3,hd⟩;refine Wdo (λ_ _ _ hh=>hh) (hw.same (λb o ⟨i,hi,tJ,xY⟩ hp=>?_) (λb o hp=>h.bl id b o ar hp)) (λ_ _ hh=>hh) hn hx (h.lt id ar) ch (h.ob id ch h3);have:=h.inj i id b o tJ ar xY hp;subst this;rcases hi with hi|hi
   .exact h1 hi
   .exact h2 hi
 .rcases kL id ar with h1|⟨_,_,h3⟩
  .rw[h1];exact ht
  .exact Xbr (h.lt id h3) hx
 .rcases kL id ar with h1|⟨h1,_,h3⟩
  .subst h1;rw[Win]at hp;rcases hS b o hp with⟨i,_,h4,h5⟩|h4
   .exact .inl ⟨i,h4,h5⟩
   .exact .inr h4.1
  .rw[WfK φ S h1]at hp;exact .inl ⟨id,h3,hp⟩
 .rcases kL id ar with h1|⟨h1,_,h3⟩
  .subst h1;rw[Win]at hp;rcases hS b o hp with⟨i,_,h4,h5⟩|h4
   .exact Xbr (h.bl i b o h4 h5) hw.size
   .exact h4.2
  .rw[WfK φ S h1]at hp;exact Xbr (h.bl id b o h3 hp) hw.size
 .have key:∀bG,bG≠t->bG∉m->Live objs bG->φ bG b o->S b o->False:=λbG h1 h2 h3 h4 h5=>by
   rcases hS b o h5 with⟨i,hi,h6,h7⟩|h6
   .have:=h.inj i bG b o h6 h3 h7 h4;subst this;rcases hi with hi|hi
    .exact h1 hi
    .exact h2 hi
   .have:=h.bl bG b o h3 h4;omega
  rcases kL id ar with h1|⟨h1,h2,h3⟩<;>rcases kL bG fW with gD|⟨gD,iS,qy⟩
  .rw[h1,gD]
  .subst h1;rw[Win]at hp;rw[WfK φ S gD]at c8;exact(key bG gD iS qy c8 hp).elim
  .subst gD;rw[Win]at c8;rw[WfK φ S h1]at hp;exact(key id h1 h2 h3 hp c8).elim
  .rw[WfK φ S h1]at hp;rw[WfK φ S gD]at c8;exact h.inj id bG b o h3 qy hp c8
theorem HR.drew(h:HR w0 F G ν φ objs nx w):HR w0 F G ν φ objs nx w.drew:=by
 have hw:WLe (WvB φ objs) w w.drew:=⟨Xm _,λ_ vs _ h=>⟨vs,h,rfl⟩,λ_ _ _ _=>rfl,λ_ _ _=>rfl,rfl,rfl,rfl⟩;exact h.step hw (λid ob ho _=>Wdo (w:=w) (w':=w.drew) (S:=φ id) (λ_ _ _ hh=>hh) ⟨λ_ _ hh=>hh,λ_ _ _=>rfl⟩ (λ_ _ hh=>hh) (λ_ _=>rfl) (Xm _) (h.lt id ⟨ob,ho,by assumption⟩) ob (h.ob id ob ho))
  h.lt (λid b o hl hp=>.inl ⟨id,hl,hp⟩) (λid b o hl hp=>h.bl id b o hl hp) h.inj
theorem HRel.drew(h:HRel w0 F G ν objs nx w):HRel w0 F G ν objs nx w.drew:=by
 obtain⟨φ,h⟩:=h;exact⟨φ,h.drew⟩
end
section
variable{w0:World}{F:CS}{nt:Slots}{G0 G G':GH}{ν ν':Nat->Nu}{st:St}{a:Act}{w w':World}{P:Program}{T:Tab}
theorem Rel.put(h:Rel w0 F nt G0 G ν st a w){dst:Option Tmp}(hd:∀d,dst=some d->nt.Ok d){x:AVal}{v:Value}(hx:AValRel G ν st.nx x v):Rel w0 F nt G0 G ν (st.put dst x) (a.put dst v) w:=by
 cases dst with
 |none=>exact h
 |some d=>
  have hlt:d<a.tmps.size:=by rw[h.ntm];exact(hd d rfl).1
  refine⟨h.defers,by simpa [Act.put]using h.ntm,λp hp=>?_,λi y hy=>?_,h.h,h.gx⟩
  .simp only[Act.put];rw[Xew (λe=>(hd d rfl).2 p hp e.symm)];exact h.par p hp
  simp only[St.put]at hy;rw[Wx]at hy;split at hy
  .rename_i e;subst e;injection hy with hy;subst hy;exact⟨v,by simp[Act.put,hlt],hx⟩
  .rename_i hne;obtain⟨u,hu,hr⟩:=h.env i y hy;exact⟨u,by simp only[Act.put];rw[Xew hne];exact hu,hr⟩
theorem Rel.on(h:Rel w0 F nt G0 G ν st a w){objs':Wab}{ah:Nat}(hg:GLe G G')(hn:Wrg st.nx ν ν')(hx:st.nx<=ah)
  (hh:HRel w0 F G' ν' objs' ah w') (gx:GExt w0.heap.size F G0 G'):Rel w0 F nt G0 G' ν' {env:=st.env,objs:=objs',nx:=ah} a w':=
 ⟨h.defers,h.ntm,h.par,λi y hy=>by
  obtain⟨u,hu,hr⟩:=h.env i y hy;exact⟨u,hu,AValRel.mono hg hn hx y u hr⟩,hh,gx⟩
def upd(ν:Nat->Nu)(i:Nat)(n:Nu):Nat->Nu:=λj=>if j=i then n else ν j
theorem Wfh(ν:Nat->Nu)(i:Nat)(n:Nu):Wrg i ν (upd ν i n):=λj hj=>by simp[upd];omega
theorem Wbp(ν:Nat->Nu)(i:Nat)(n:Nu):upd ν i n i=n:=by simp[upd]
theorem Rel.lay(h:Rel w0 F nt G0 G ν st a w){dst:Option Tmp}(hd:∀d,dst=some d->nt.Ok d){objs':Wab}{ah:Nat}(hn:Wrg st.nx ν ν')(hx:st.nx<=ah)
  (hh:HRel w0 F G ν' objs' ah w') {x:AVal} {v:Value} (hv:AValRel G ν' ah x v):Rel w0 F nt G0 G ν' (({env:=st.env,objs:=objs',nx:=ah}:St).put dst x) (a.put dst v) w':=
 (h.on (λ_ _ _ hh=>hh) hn hx hh h.gx).put hd hv
theorem Rel.fresh(h:Rel w0 F nt G0 G ν st a w){dst:Option Tmp}(hd:∀d,dst=some d->nt.Ok d)(m:List Nat)(ob:Ob)(nu:Nu)(S:(Nat->CS)->CS)(x:AVal)(v:Value)
  (hw:∀φ,HR w0 F G ν φ st.objs st.nx w->WLe (WwR φ st.objs st.nx m) w w') (hS:∀φ,HR w0 F G ν φ st.objs st.nx w->∀b o,S φ b o->WwR φ st.objs st.nx m b o\/(w.heap.size<=b/\b<w'.heap.size))
  (cF:∀φ,HR w0 F G ν φ st.objs st.nx w->Wcv G (upd ν st.nx nu) (st.nx+1) w' st.nx (S φ) ob)
  (hv:AValRel G (upd ν st.nx nu) (st.nx+1) x v):
  Rel w0 F nt G0 G (upd ν st.nx nu) (({env:=st.env,objs:=(st.nx,ob)::kill st.objs m,nx:=st.nx+1}:St).put dst x) (a.put dst v) w':=by
 obtain⟨φ,hφ⟩:=h.h;exact h.lay hd (Wfh ν st.nx nu) (Xdl _) ⟨_,hφ.put (Wfh ν st.nx nu) (Xdl _) (Xbx _) (hw φ hφ) (hS φ hφ) (λ_=>cF φ hφ)⟩ hv
theorem Rel.new(h:Rel w0 F nt G0 G ν st a w){dst:Option Tmp}(hd:∀d,dst=some d->nt.Ok d)(ob:Ob)(nu:Nu)(x:AVal)(v:Value)
  (hw:WLe (λ_ _=>False) w w')
  (cF:Wcv G (upd ν st.nx nu) (st.nx+1) w' st.nx (λb _=>w.heap.size<=b/\b<w'.heap.size) ob)
  (hv:AValRel G (upd ν st.nx nu) (st.nx+1) x v):
  Rel w0 F nt G0 G (upd ν st.nx nu) (st.new dst ob x) (a.put dst v) w':=
 h.fresh hd [] ob nu (λ_ b _=>w.heap.size<=b/\b<w'.heap.size) x v (λφ _=>hw.mono λ_ _ hh=>hh.elim) (λφ _ b o hs=>.inr hs) (λφ _=>cF) hv
end
end Go.Sx
namespace Go.Sx
set_option linter.unusedVariables false
set_option linter.unusedSimpArgs false
theorem Wrc{v:Value}(h:v.oneCell'=true):v.cells= #[v]:=by
 cases v<;>first|rfl|simp[Value.oneCell']at h
section
variable{w0:World}{F:CS}{nt:Slots}{G0 G:GH}{ν:Nat->Nu}{objs:Wab}{nx:Nat}{st:St}{a:Act}{w w':World}{P:Program}{T:Tab}
theorem WwZ:∀(t:Ty),t.data=true->Enc G t t.dflt (Wbs t)
 | .int _,_=>rfl
 | .bool,_=>rfl
 | .str,_=>rfl
 | .slice e,_=>⟨_,rfl,.inl ⟨rfl,rfl⟩⟩
 | .own _,h=>by simp[Ty.data]at h
 | .prod a b,h=>by
  simp only[Ty.data,Xh]at h;exact⟨_,_,rfl,WwZ a h.1,WwZ b h.2⟩
theorem WwK:∀(t:Ty),CellsRel G ν nx (WeG t) (Wbs t)
 | .int _=>CellsRel.one rfl rfl
 | .bool=>CellsRel.one rfl rfl
 | .str=>CellsRel.one rfl rfl
 | .slice e=>CellsRel.one rfl rfl
 | .own _=>CellsRel.one trivial rfl
 | .prod a b=>(WwK a).append (WwK b)
theorem Wbl:∀(t:Ty),(Wbs t).length=t.size
 | .int _| .bool| .str| .slice _| .own _=>rfl
 | .prod a b=>by simp[Wbs,Wbl a,Wbl b,Ty.size]
theorem WlB{α:Type}(l:List α):∀n,(rep l n).length=n*l.length
 |0=>by simp[rep]
 |n+1=>by rw[rep,Xz,WlB l n,Xcc,Xcs]
theorem WgN{e:Ty}(h:e.data=true):∀n,EncL (Enc G e) (Xt n e.dflt) (rep (Wbs e) n)
 |0=>rfl
 |n+1=>⟨_,_,rfl,WwZ e h,WgN h n⟩
theorem WeY{t:TypeId}{te:TE}(bw:TEok P T t te):∃z,(zeroValue t).run P w= .ok z w/\z.cells.toList=te.cells:=by
 obtain⟨i,z,hi,_,hz,hc,_⟩:=bw.info;exact⟨z,by simp[zeroValue,Whm hi,hz],hc⟩
theorem Wbx{te:TE}(h:te.plain=true):te.cells=Wbs te.ty:=by
 unfold TE.plain at h;unfold TE.cells;split at h<;>simp_all
theorem Wkp(w:World)(o:Obj):(w.alloc o).heap[w.heap.size]?=some o:=heap_alloc_new w o
theorem zty:∀(t:Ty),∃ps,TyRel G w t t.dflt (Wbs t.ro) ps/\∀p∈ps,p.fp= λ_ _=>False
 | .int _=>⟨[],⟨rfl,rfl⟩,by simp⟩
 | .bool=>⟨[],⟨rfl,rfl⟩,by simp⟩
 | .str=>⟨[],⟨rfl,rfl⟩,by simp⟩
 | .slice e=>⟨[],⟨rfl,_,rfl,.inl ⟨rfl,rfl⟩⟩,by simp⟩
 | .own e=>⟨[⟨⟨none,0,0,0,e.size⟩,λ_ _=>False⟩],⟨_,rfl,rfl,rfl,rfl,rfl⟩,by simp⟩
 | .prod a b=>by
  obtain⟨p1,h1,h2⟩:=zty a;obtain⟨p2,h3,h4⟩:=zty b;refine⟨p1++p2,⟨_,_,p1,p2,rfl,rfl,h1,h3⟩,λp hp=>?_⟩;rcases Xn.1 hp with hp|hp
  .exact h2 p hp
  .exact h4 p hp
theorem WuH(e:Ty):∀n,∃ps,EncP (TyRel G w e) (Xt n e.dflt) (rep (Wbs e.ro) n) ps/\∀p∈ps,p.fp= λ_ _=>False
 |0=>⟨[],⟨rfl,rfl⟩,by simp⟩
 |n+1=>by
  obtain⟨p1,h1,h2⟩:=zty (G:=G) (w:=w) e;obtain⟨p2,h3,h4⟩:=WuH e n;refine⟨p1++p2,⟨_,_,p1,p2,rfl,rfl,h1,h3⟩,λp hp=>?_⟩;rcases Xn.1 hp with hp|hp
  .exact h2 p hp
  .exact h4 p hp
theorem Wmz:∀(ps:List Pc),(∀p∈ps,p.fp= λ_ _=>False)->Sep (ps.map Pc.fp)
 | [],_=>List.Pairwise.nil
 |p::ps,h=>Xad.2 ⟨λs _ b o hb _=>by rw[h p (Xi ..)]at hb;exact hb,Wmz ps λq hq=>h q (Xf _ hq)⟩
theorem Wsc(h:Rel w0 F nt G0 G ν st a w){dst:Option Tmp}(hd:∀d,dst=some d->nt.Ok d){cs:List Cell}{vs:Array Value}{t:TypeId}(hc:CellsRel G ν st.nx cs vs.toList):
  ∃ν',Rel w0 F nt G0 G ν' (st.new dst (.box cs) (.s (.one (.ptr st.nx 0)))) (a.put dst (.pointer (some ⟨w.heap.size,0,none⟩))) (w.alloc (.cells vs t)):=by
 refine⟨upd ν st.nx ⟨some w.heap.size,0,0,0,0⟩,h.new hd (.box cs) _ _ _ (WLe.alloc _ w _ rfl rfl rfl rfl) ?_ ?_⟩
 .have hl:vs.size=cs.length:=by have:=hc.1;simpa using this
  refine⟨w.heap.size,vs.toList,by rw[Wbp],⟨vs,t,Wkp w _,by rw[Wbp];show 0+cs.length<=vs.size;omega⟩,?_,hc.mono (λ_ _ _ hh=>hh) (Wfh _ _ _) (Xdl _),λb o ⟨hb,_⟩=>by rw[hb];exact⟨Xm _,by simp⟩⟩;rw[Wbp];exact WqX (Wkp w _) (λj v hj=>by rw[Xbb];exact hj)
 .exact⟨⟨Xbx _,w.heap.size,by rw[Wbp],by rw[Wbp]⟩,rfl⟩
def FromL(φ:Nat->CS)(objs:Wab)(m:List Nat):CS:=λb o=>∃i∈m,Live objs i/\φ i b o
theorem WhN(h:Rel w0 F nt G0 G ν st a w){dst:Option Tmp}(hd:∀d,dst=some d->nt.Ok d)(m:List Nat){e:Ty}{xs:List e.den}{cap:Nat}{vs:Array Value}{t:TypeId}{cs:List Value}(hx:xs.length<=cap)(gE:cap<=maxLen)
  (hsz:vs.size=cap*e.size) (hc:∀φ,HR w0 F G ν φ st.objs st.nx w->∃ps,EncP (TyRel G w e) xs cs ps/\Sep (ps.map Pc.fp)/\∀p∈ps,CS.le p.fp (FromL φ st.objs m)) (hp:cs<+:vs.toList)
  (wd:World) (pI:wd.heap=w.heap) (pH:wd.os=w.os) (iR:wd.output=w.output) (fj:wd.tape=w.tape):
  (∃ν',Rel w0 F nt G0 G ν' (({env:=st.env,objs:=(st.nx,.arr e xs)::kill st.objs m,nx:=st.nx+1}:St).put dst (.s (.one (.own st.nx)))) (a.put dst (.slice (some ⟨w.heap.size,0,none⟩) xs.length cap)) (wd.alloc (.cells vs t)))/\
  (∃ν',Rel w0 F nt G0 G ν' (({env:=st.env,objs:=(st.nx,.arr e xs)::kill st.objs m,nx:=st.nx+1}:St).put dst (.s (.one (.aptr st.nx)))) (a.put dst (.pointer (some ⟨w.heap.size,0,none⟩))) (wd.alloc (.cells vs t))):=by
 have mj:(wd.alloc (.cells vs t)).heap[w.heap.size]?=some (Obj.cells vs t (0,0)):=by rw[←pI];exact Wkp wd _
 have key:∀(x:AVal) (v:Value),AValRel G (upd ν st.nx ⟨some w.heap.size,0,xs.length,cap,e.size⟩) (st.nx+1) x v->
   ∃ν',Rel w0 F nt G0 G ν' (({env:=st.env,objs:=(st.nx,.arr e xs)::kill st.objs m,nx:=st.nx+1}:St).put dst x) (a.put dst v) (wd.alloc (.cells vs t)):=λx v hv=>by
  refine⟨upd ν st.nx ⟨some w.heap.size,0,xs.length,cap,e.size⟩,h.fresh hd m (.arr e xs) _ (λφ b o=>FromL φ st.objs m b o\/b=w.heap.size) x v (λφ _=>WLe.alloc _ wd _ pI pH iR fj) (λφ hφ b o hs=>?_) (λφ hφ=>?_) hv⟩
  .rcases hs with⟨i,hi,h1,h2⟩|hs
   .exact .inl ⟨i,.inr hi,h1,h2⟩
   .exact .inr ⟨by omega,by rw[hs];simp[pI]⟩
  .obtain⟨ps,h1,h2,h3⟩:=hc φ hφ;have hbl:∀p∈ps,∀b o,p.fp b o->b<w.heap.size:=λp c8 b o hh=>by
    obtain⟨i,_,g1,g2⟩:=h3 p c8 b o hh;exact hφ.bl i b o g1 g2
   show OwnL (wd.alloc (.cells vs t)) (TyRel G _ e) e.size (upd ν st.nx ⟨some w.heap.size,0,xs.length,cap,e.size⟩ st.nx) xs _;rw[Wbp];refine⟨rfl,rfl,hx,gE,⟨vs,t,mj,by show 0+cap*e.size<=vs.size;omega⟩,cs,ps,?_,?_,Xad.2 ⟨λs hs b o ⟨hb,_⟩ fL=>?_,h2⟩,λs hs b o fL=>?_⟩
   .refine WbQ (Q:=λp=>∀b o,p.fp b o->b<w.heap.size) (λx c p c8 hh=>?_) _ _ _ hbl h1;exact Way (λ_ _ _ hh=>hh) e x c p (λq hq=>(WLe.alloc (λ_ _=>False) wd _ pI pH iR fj).same (λ_ _ hh _=>hh) (c8 q hq)) hh
   .obtain⟨tl,qx⟩:=hp;exact WqX mj (λj v hj=>by rw[←qx];show(cs++tl)[0+j]?=some v;rw[Xbb,Xbd (Xs.1 hj).1];exact hj)
   .obtain⟨p,c8,rfl⟩:=Xu.1 hs;have:=hbl p c8 b o fL;omega
   .rcases Xo.1 hs with rfl|hs
    .exact .inr fL.1
    .obtain⟨p,c8,rfl⟩:=Xu.1 hs;exact .inl (h3 p c8 b o fL)
 refine⟨key _ _ ⟨⟨Xbx _,?_⟩,rfl⟩,key _ _ ⟨⟨Xbx _,w.heap.size,by rw[Wbp],by rw[Wbp]⟩,rfl⟩⟩;rw[Wbp];rfl
theorem Wou(h:Rel w0 F nt G0 G ν st a w){dst:Option Tmp}(hd:∀d,dst=some d->nt.Ok d){e:Ty}(he:e.data=true){xs:List e.den}{cap:Nat}{vs:Array Value}{t:TypeId}{cs:List Value}(hx:xs.length<=cap)(gE:cap<=maxLen)
  (hsz:vs.size=cap*e.size) (hc:EncL (Enc G e) xs cs) (hp:cs<+:vs.toList) (wd:World) (pI:wd.heap=w.heap) (pH:wd.os=w.os) (iR:wd.output=w.output) (fj:wd.tape=w.tape):
  (∃ν',Rel w0 F nt G0 G ν' (st.new dst (.arr e xs) (.s (.one (.own st.nx)))) (a.put dst (.slice (some ⟨w.heap.size,0,none⟩) xs.length cap)) (wd.alloc (.cells vs t)))/\
  (∃ν',Rel w0 F nt G0 G ν' (st.new dst (.arr e xs) (.s (.one (.aptr st.nx)))) (a.put dst (.pointer (some ⟨w.heap.size,0,none⟩))) (wd.alloc (.cells vs t))):=
 WhN h hd [] hx gE hsz (λφ _=>⟨[],(EncP_data he xs cs []).2 ⟨hc,rfl⟩,List.Pairwise.nil,by simp⟩) hp wd pI pH iR fj
theorem Wdx{x:AVal}{v:Value}{cs:List Cell}(hx:AValRel G ν nx x v)(hb:WgU x=some cs):CellsRel G ν nx cs v.cells.toList/\∀u∈v.cells.toList,u.oneCell'=true:=by
 cases x with
 |tup xs=>simp[WgU]at hb
 |s y=>
  cases y with
  |one c=>
   simp[WgU]at hb;subst hb;obtain⟨h1,h2⟩:=hx;rw[Wrc h2];exact⟨CellsRel.one h1 h2,λu hu=>by simp at hu;subst hu;exact h2⟩
  |agg ds=>
   simp[WgU]at hb;subst hb;obtain⟨vs,rfl,h1⟩:=hx;refine⟨by simpa [Value.cells]using h1,λu hu=>?_⟩;simp[Value.cells]at hu;obtain⟨j,hj⟩:=List.getElem?_of_mem hu;have hlt:j<ds.length:=by rw[←h1.1];exact(Xs.1 hj).1
   exact(h1.2 j _ u (Xp hlt) hj).2
theorem WcF(t:TypeId)(vs:Array Value):(newRow t vs).run P w= .ok ⟨w.heap.size,0,none⟩ (w.alloc (.cells vs t)):=rfl
theorem WeO{cs ds:List Cell}{off:Nat}(h:off+ds.length<=cs.length):(Wd3 cs off ds).length=cs.length:=by
 simp[Wd3];omega
theorem WeW{cs ds:List Cell}{vs us:List Value}{off:Nat}(hc:CellsRel G ν nx cs vs)(hd:CellsRel G ν nx ds us):
  CellsRel G ν nx (Wd3 cs off ds) (vs.take off++us++vs.drop (off+us.length)):=by
 rw[hd.1];exact((hc.take off).append hd).append (hc.drop _)
theorem WiL(us:List Value):∀(off k:Nat) (cs:Array Value),off+k+us.length<=cs.size->
  ((us.zipIdx k).foldl (λcs (c,j)=>cs.setIfInBounds (off+j) c) cs).toList=cs.toList.take (off+k)++us++cs.toList.drop (off+k+us.length):=by
 induction us with
 |nil=>intro off k cs h;simp
 |cons u us ih=>
  intro off k cs h;simp only[List.zipIdx_cons,List.foldl_cons,Xr]at h⊢;rw[ih off (k+1) _ (by simp;omega)];have hlt:off+k<cs.toList.length:=by simp;omega
  simp only[Array.toList_setIfInBounds];generalize cs.toList=l at*;have e1:(l.set (off+k) u).take (off+(k+1))=l.take (off+k)++ [u]:=by
   rw[←Xar,List.take_succ_eq_append_getElem (by simpa using hlt),List.take_set_of_le (Xm _)];simp
  have e2:(l.set (off+k) u).drop (off+(k+1)+us.length)=l.drop (off+k+(us.length+1)):=by
   rw[List.drop_set_of_lt (by omega)];congr 1;omega
  rw[e1,e2];simp
end
end Go.Sx
namespace Go.Sx
set_option linter.unusedVariables false
set_option linter.unusedSimpArgs false
section
variable{w0:World}{F:CS}{nt:Slots}{G0 G:GH}{ν:Nat->Nu}{objs:Wab}{nx:Nat}{st af:St}{a:Act}{w w':World}{P:Program}{T:Tab}
def Done(P:Program)(w0:World)(F:CS)(nt:Slots)(G0:GH)(o:Oper)(a:Act)(w:World)(af:St):Prop:=
 ∃n v w' G' ν',(execOp a.eval o).run P w= .ok n w'/\(n= .value v\/(n= .skip/\v=undef))/\Rel w0 F nt G0 G' ν' af (a.put o.dst v) w'
theorem Wgq(hr:Rel w0 F nt G0 G ν st a w):∀(l:List (Nat×Operand)) (ps:List (Nat×AVal)),Wct st l=some ps->
  ps.length=l.length/\∀(j:Nat) (p:Nat×AVal) (q:Nat×Operand),ps[j]?=some p->l[j]?=some q->p.1=q.1/\AValRel G ν st.nx p.2 (a.eval q.2)
 | [],ps,h=>by simp[Wct]at h;subst h;exact⟨rfl,λj p q hp=>by simp at hp⟩
 |(i,x)::l,ps,h=>by
  simp only[Wct]at h;split at h
  .rename_i y ys h1 h2;injection h with h;subst h;obtain⟨h3,h4⟩:=Wgq hr l ys h2;refine⟨by simp[h3],λj p q hp hq=>?_⟩;cases j with
   |zero=>simp at hp hq;subst hp hq;exact⟨rfl,WF hr x _ h1⟩
   |succ j=>exact h4 j p q (by simpa using hp) (by simpa using hq)
  .simp at h
theorem WjT(hT:Wai P T){fs:List (Nat×TypeId)}{place:Nat->Option (Nat×Nat)}
  (eR:∀(i off:Nat) (ft:TypeId) (te:TE),fs[i]?=some (off,ft)->look T ft=some te->place i=some (off,te.size)) (gF:∀(i off:Nat) (ft:TypeId) (te:TE),fs[i]?=some (off,ft)->look T ft=some te->te.plain=true):
  ∀(l:List (Nat×AVal)) (ps:List (Nat×Value)) (cs cs':List Cell) (vs:Array Value),CellsRel G ν nx cs vs.toList->ps.length=l.length->
   (∀(j:Nat) (p:Nat×AVal) (q:Nat×Value),l[j]?=some p->ps[j]?=some q->p.1=q.1/\AValRel G ν nx p.2 q.2)->Wl5 T fs l cs=some cs'->
   ∃vs',Instr.fill place vs ps=some vs'/\CellsRel G ν nx cs' vs'.toList
 | [],[],cs,cs',vs,hc,_,_,h=>by simp[Wl5]at h;subst h;exact⟨vs,rfl,hc⟩
 |(i,x)::l,[],_,_,_,_,hl,_,_=>by simp at hl
 | [],_::_,_,_,_,_,hl,_,_=>by simp at hl
 |(i,x)::l,(i',v)::ps,cs,cs',vs,hc,hl,hp,h=>by
  obtain⟨he,hx⟩:=hp 0 _ _ rfl rfl;simp only at he hx;subst he;simp only[Wl5]at h;split at h
  .rename_i off ft hf;split at h
   .rename_i te ds bw fU;split at h
    .rename_i bp;simp only[Xh,decide_eq_true_eq]at bp;obtain⟨h1,h2⟩:=bp;obtain⟨h3,_⟩:=Wdx hx fU;have hsz:v.cells.size=ds.length:=by have:=h3.1;simpa using this
     have eS:vs.size=cs.length:=by have:=hc.1;simpa using this
     have tK:=gF _ _ _ _ hf bw;have dL:=WiL v.cells.toList off 0 vs (by simp;omega);simp only[Xaz,Xav]at dL;have gG:CellsRel G ν nx (Wd3 cs off ds) (v.cells.toList.zipIdx.foldl (λcs (c,j)=>cs.setIfInBounds (off+j) c) vs).toList:=by
      rw[dL];have:=WeW (off:=off) hc h3;simpa using this
     obtain⟨vs',h4,h5⟩:=WjT hT eR gF l ps _ cs' _ gG (by simpa using hl) (λj p q hj hq=>hp (j+1) p q (by simpa using hj) (by simpa using hq)) h;refine⟨vs',?_,h5⟩;simp only[Instr.fill,eR _ _ _ _ hf bw];rw[if_neg (by rw[WV tK];simp;omega)];rw[←h4];congr 1;rw[←Array.foldl_toList];simp
    .simp at h
   .simp at h
  .simp at h
theorem Wf2{α β:Type}(f:α->Sem β)(g:α->β):∀(l:List α),(∀x∈l,(f x).run P w= .ok (g x) w)->(l.mapM f).run P w= .ok (l.map g) w
 | [],_=>by simp
 |x::l,h=>by
  simp only[Xfi,Sem.run_bind,h x (Xi ..),Result.andThen_ok,Wf2 f g l (λy hy=>h y (Xf _ hy)),Sem.run_pure,Xai]
theorem WlW{α β:Type}(f:α->Sem β)(g:α->β)(l:Array α)(h:∀x∈l,(f x).run P w= .ok (g x) w):(l.mapM f).run P w= .ok (l.map g) w:=by
 rw[Array.mapM_eq_mapM_toList];simp only[Sem.run_map,Wf2 f g l.toList (λx hx=>h x (by simpa using hx)),Result.andThen_ok];congr 1;apply Xgk;simp
theorem WpZ(hT:Wai P T)(hr:Rel w0 F nt G0 G ν st a w){o:Oper}(hd:∀d,o.dst=some d->nt.Ok d){t:TypeId}{parts:Array (Nat×Operand)}(ho:o.op= .build t parts)
  {ty:Ty} {fs:List (Nat×TypeId)} {ps:List (Nat×AVal)} {cs:List Cell} (hl:look T t=some ⟨ty,true,.struct fs⟩) (bN:Wct st parts.toList=some ps) (hf:Wl5 T fs ps (WeG ty)=some cs)
  (eR:∀f∈fs,∃te,look T f.2=some te/\te.plain=true):
  Done P w0 F nt G0 o a w (st.put o.dst (.s (.agg cs))):=by
 have bw:=hT _ _ hl;obtain⟨_,fields,hu,db,_⟩:=bw.und;obtain⟨z,hz,dc⟩:=WeY (w:=w) bw;obtain⟨h1,h2⟩:=Wgq hr _ _ bN;have hsz:∀f∈fields,∃te,look T f.type=some te/\te.plain=true:=λf hf=>eR (f.offset,f.type) (by rw[←db];exact Xu.2 ⟨f,by simpa using hf,rfl⟩)
 let sz:Field->Nat:=λf=>match look T f.type with|some te=>te.size|none=>0
 have hrun:(fields.mapM λf=>(do pure (f.offset,←sizeOf f.type):Sem (Nat×Nat))).run P w= .ok (fields.map λf=>(f.offset,sz f)) w:=by
  refine WlW _ (λf=>(f.offset,sz f)) fields (λf hf=>?_);obtain⟨te,cM,_⟩:=hsz f hf;simp[sz,(hT _ _ cM).sizeOf,cM]
 have m6:∀(i off:Nat) (ft:TypeId) (te:TE),fs[i]?=some (off,ft)->look T ft=some te->(fields.map λf=>(f.offset,sz f))[i]?=some (off,te.size):=λi off ft te hi cM=>by
  rw[←db]at hi;simp only[Xan,Xdf]at hi;cases fA:fields[i]? with
  |none=>simp[fA]at hi
  |some fd=>
   simp[fA]at hi;obtain⟨e1,e2⟩:=hi;subst e1 e2;simp[fA,sz,cM]
 have qz:CellsRel G ν st.nx (WeG ty) z.cells.toList:=by
  rw[dc];exact WwK ty
 obtain⟨vs',h3,h4⟩:=WjT hT m6 (λi off ft te hi cM=>by
   obtain⟨dr,h5,h6⟩:=eR _ (List.mem_of_getElem? hi);simp only at h5;rw[h5]at cM;injection cM with cM;subst cM;exact h6) ps (parts.toList.map λp=>(p.1,a.eval p.2)) _ cs z.cells qz (by simp[h1]) (λj p q hp hq=>by
   simp only[Xan]at hq;cases eE:parts.toList[j]? with
   |none=>simp only[Xdf]at eE;simp[eE]at hq
   |some q'=>
    rw[eE]at hq;simp at hq;subst hq;exact h2 j p q' hp eE) hf
 refine⟨.value (.agg vs'),.agg vs',w,G,ν,?_,.inl rfl,hr.put hd ⟨vs'.toList,by simp,h4⟩⟩;simp only[execOp,ho,Instr.build,Sem.run_bind,hz,Result.andThen_ok,Wc hu,hrun];have:(parts.map λx=>match x with|(i,x)=>(i,a.eval x)).toList=parts.toList.map λp=>(p.1,a.eval p.2):=by simp
 rw[this,h3];rfl
theorem Wqj(hT:Wai P T)(hr:Rel w0 F nt G0 G ν st a w){o:Oper}(hd:∀d,o.dst=some d->nt.Ok d){t:TypeId}(ho:o.op= .alloc t){te:TE}(hl:look T t=some te)(hp:te.plain=true):
  Done P w0 F nt G0 o a w (st.new o.dst (.box (WeG te.ty)) (.s (.one (.ptr st.nx 0)))):=by
 obtain⟨z,hz,dc⟩:=WeY (w:=w) (hT _ _ hl);obtain⟨ν',h⟩:=Wsc (t:=t) (vs:=z.cells) hr hd (cs:=WeG te.ty) (by rw[dc,Wbx hp];exact WwK _);refine⟨_,_,_,G,ν',?_,.inl rfl,h⟩;simp only[execOp,ho,Instr.alloc,Sem.run_bind,hz,Result.andThen_ok,newVar,WcF,Sem.run_pure]
theorem WkO(hT:Wai P T)(hr:Rel w0 F nt G0 G ν st a w){o:Oper}(hd:∀d,o.dst=some d->nt.Ok d){t:TypeId}(ho:o.op= .alloc t){e:Ty}{n:Nat}{et:TypeId}(hl:look T t=some ⟨e,true,.arr n et⟩)(aT:e.data=true)(ao:Ww n=true):
  Done P w0 F nt G0 o a w (st.new o.dst (.arr e (Xt n e.dflt)) (.s (.one (.aptr st.nx)))):=by
 obtain⟨z,hz,dc⟩:=WeY (w:=w) (hT _ _ hl);have hn:n<=maxLen:=by simp[Ww]at ao;unfold maxLen;omega
 have hlen:z.cells.size=n*e.size:=by
  rw[←Xav,dc];simp only[TE.cells,WlB,Wbl]
 obtain⟨_,ν',h⟩:=Wou (t:=t) (vs:=z.cells) hr hd (e:=e) aT (xs:=Xt n e.dflt) (cap:=n) (cs:=rep (Wbs e) n) (by simp) hn hlen (WgN aT n) (by rw[dc];exact List.prefix_refl _) w rfl rfl rfl rfl;refine⟨_,_,_,G,ν',?_,.inl rfl,h⟩;simp only[execOp,ho,Instr.alloc,Sem.run_bind,hz,Result.andThen_ok,newVar,WcF,Sem.run_pure]
theorem WtB(hr:Rel w0 F nt G0 G ν st a w){o:Oper}(hd:∀d,o.dst=some d->nt.Ok d){t:TypeId}{x:Operand}(ho:o.op= .box t x){v:AVal}{cs:List Cell}(hv:ev st x=some v)(hb:WgU v=some cs):
  Done P w0 F nt G0 o a w (st.new o.dst (.box cs) (.s (.one (.ptr st.nx 0)))):=by
 obtain⟨h1,_⟩:=Wdx (WF hr x _ hv) hb;obtain⟨ν',h⟩:=Wsc (t:=t) hr hd h1;refine⟨_,_,_,G,ν',?_,.inl rfl,h⟩;simp only[execOp,ho,Instr.box,Sem.run_bind,Result.andThen_ok,newVar,WcF,Sem.run_pure]
theorem Wrr(hT:Wai P T)(hr:Rel w0 F nt G0 G ν st a w){o:Oper}(hd:∀d,o.dst=some d->nt.Ok d){r:AVal}(h:Wad T st o.op=some (true,r)):Done P w0 F nt G0 o a w (st.put o.dst r):=by
 obtain⟨v,h1,h2⟩:=Wqk hT hr h;exact⟨_,v,w,G,ν,h1,.inl rfl,hr.put hd h2⟩
end
end Go.Sx
namespace Go.Sx
set_option linter.unusedVariables false
set_option linter.unusedSimpArgs false
theorem WfL{t t':Ty}{d:t.den}{d':t'.den}(h:WmY t t' d=some d'):∃e:t=t',e▸d=d':=by
 unfold WmY at h;split at h
 .rename_i e;injection h with h;exact⟨e,h⟩
 .simp at h
theorem Wao{e e':Ty}{d:List e.den}{d':List e'.den}(h:WfY e e' d=some d'):∃he:e=e',he▸d=d':=by
 unfold WfY at h;split at h
 .rename_i he;injection h with h;exact⟨he,h⟩
 .simp at h
theorem WqY{A A':Type}(hA:A=A')(h:List A=List A')(l:List A)(i:Nat):cast h (l.take i)=(cast h l).take i:=by
 subst hA;rfl
theorem WqW{A A':Type}(hA:A=A')(h:List A=List A')(l:List A)(i:Nat):cast h (l.drop i)=(cast h l).drop i:=by
 subst hA;rfl
theorem WpY(e:Ty)(l:List e.den)(i:Nat):Wcx e (l.take i)=(Wcx e l).take i:=WqY (Wd8 e).symm _ l i
theorem Wqu(e:Ty)(l:List e.den)(i:Nat):Wcx e (l.drop i)=(Wcx e l).drop i:=WqW (Wd8 e).symm _ l i
section
variable{w0:World}{F:CS}{G G':GH}{ν:Nat->Nu}{φ:Nat->CS}{objs:Wab}{nx:Nat}{w:World}
def Lent(G':GH)(w:World)(φ:Nat->CS)(objs:Wab)(l:List Nat):Prop:=∀id∈l,Live objs id->Froz G' w (φ id)
theorem Lent.mono{l m:List Nat}(h:Lent G' w φ objs m)(hs:∀i∈l,i∈m):Lent G' w φ objs l:=λid bv=>h id (hs id bv)
theorem CellsRel.single{c:Cell}{vs:List Value}(h:CellsRel G ν nx [c] vs):∃v,vs= [v]/\CellRel G ν nx c v/\v.oneCell'=true:=by
 obtain⟨h1,h2⟩:=h
 match vs,h1 with
 | [v],_=>exact⟨v,rfl,h2 0 c v rfl rfl⟩
theorem Wgc{t:Ty}{c:Cell}{d:t.den}{v:Value}(hg:GLe G G')(h:CellRel G ν nx c v)(hf:Wi8 t c=some d):Enc G' t d [v]:=by
 unfold Wi8 at hf;split at hf
 .obtain⟨e,hd⟩:=WfL hf;subst e;simp only at hd;subst hd;exact Wa0 hg _ _ _ h
 .simp at hf
theorem FromL.mono{m m':List Nat}(h:∀i∈m,i∈m'):CS.le (FromL φ objs m) (FromL φ objs m'):=λb o ⟨i,hi,h1⟩=>⟨i,h i hi,h1⟩
theorem FromL.one{i:Nat}{m:List Nat}(hi:i∈m)(hl:Live objs i):CS.le (φ i) (FromL φ objs m):=λb o h=>⟨i,hi,hl,h⟩
theorem FromL.disj(h:HR w0 F G ν φ objs nx w){m m':List Nat}(hd:∀i∈m,i∉m'):CS.disj (FromL φ objs m) (FromL φ objs m'):=λb o ⟨i,hi,h1,h2⟩ ⟨j,hj,h3,h4⟩=>by
 have:=h.inj i j b o h1 h3 h2 h4;subst this;exact hd i hi hj
theorem CS.disj.mono{A B A' B':CS}(h:CS.disj A B)(h1:CS.le A' A)(h2:CS.le B' B):CS.disj A' B':=λb o ha hb=>h b o (h1 b o ha) (h2 b o hb)
theorem CS.disj.symm{A B:CS}(h:CS.disj A B):CS.disj B A:=λb o ha hb=>h b o hb ha
theorem Woo{l m:List CS}{A B:CS}(h1:Sep l)(h2:Sep m)(ha:∀s∈l,CS.le s A)(hb:∀s∈m,CS.le s B)(hd:CS.disj A B):Sep (l++m):=
 Xag.2 ⟨h1,h2,λs hs t ht=>hd.mono (ha s hs) (hb t ht)⟩
theorem Wmp{l1 l2 l3:List CS}(jn:Sep (l1++l3))(h2:Sep l2)(hd:∀s∈l2,∀t∈l1++l3,CS.disj s t):Sep (l1++(l2++l3)):=by
 obtain⟨h1,h3,h4⟩:=Xag.1 jn;refine Xag.2 ⟨h1,Xag.2 ⟨h2,h3,λs hs t ht=>hd s hs t (Xg _ ht)⟩,λs hs t ht=>?_⟩;rcases Xn.1 ht with ht|ht
 .exact(hd t ht s (Xk _ hs)).symm
 .exact h4 s hs t ht
theorem Wgx{b off i n cap:Nat}(hi:i<cap){S:CS}(h1:CS.le (rng b off (i*n)) S)(h2:CS.le (rng b (off+i*n) n) S)(h3:CS.le (rng b (off+(i+1)*n) ((cap-(i+1))*n)) S):CS.le (rng b off (cap*n)) S:=λb' o ⟨e,g1,g2⟩=>by
 have e1:(i+1)*n=i*n+n:=Xcc i n;have e2:(cap-(i+1))*n+(i+1)*n=cap*n:=by rw[←Xcz];congr 1;omega
 by_cases c1:o<off+i*n
 .exact h1 b' o ⟨e,g1,c1⟩
 .by_cases c2:o<off+i*n+n
  .exact h2 b' o ⟨e,by omega,c2⟩
  .exact h3 b' o ⟨e,by omega,by omega⟩
theorem Wt4{b a n c m:Nat}(h:a+n<=c):CS.disj (rng b a n) (rng b c m):=λb' o ⟨_,h1,h2⟩ ⟨_,h3,h4⟩=>by omega
theorem Wps{e:Ty}{nu np:Nu}{xs:List e.den}{i:Nat}{S S1 S2:CS}(h:WhI w (TyRel G w e) e.size nu np xs i S){d:e.den}{vs:List Value}{ns:List Pc}(hd:TyRel G w e d vs ns)
  {b:Nat} (hb:np.blk=some b) (hm:Mem w b np.off vs) (hr:CS.le (rng b np.off e.size) S1) (hs:Sep (ns.map Pc.fp)) (dU:∀p∈ns,CS.le p.fp S2) (d1:CS.disj S S1) (d2:CS.disj S S2) (d3:CS.disj S1 S2)
  {S':CS} (l1:CS.le S S') (l2:CS.le S1 S') (l3:CS.le S2 S'):OwnL w (TyRel G w e) e.size nu (xs.set i d) S':=by
 obtain⟨h1,h2,h3,b',h4,h5,h6,h7,h8,h9,c1,c2,p1,p2,g1,g2,g3,g4,g5,g6⟩:=h;rw[hb]at h5;injection h5 with h5;subst h5;have aU:=WaQ (λx c q hx=>Wu e x c q hx) _ _ _ g1;rw[Xap,Xcg (by omega)]at aU;have ar:=Wu _ _ _ _ hd;have e1:(i+1)*e.size=i*e.size+e.size:=Xcc i e.size;refine⟨by rw[Xab];exact h1,h2,?_⟩;simp only[h4];have gA:=g6 _ (Xi ..);have gC:=g6 _ (Xf _ (Xi ..));have gp:∀s∈(p1++p2).map Pc.fp,CS.le s S:=λs hs=>g6 s (Xf _ (Xf _ hs));obtain⟨q1,q2⟩:=Xad.1 g5;obtain⟨q3,q4⟩:=Xad.1 q2;rw[h6]at hm hr;refine⟨by rw[Xab];exact h7,h8,h9,c1++(vs++c2),p1++(ns++p2),WoW h3 g1 hd g2,?_,Xad.2 ⟨λs cb=>?_,?_⟩,λs cb=>?_⟩
 .refine g3.app (n:=i*e.size) ?_ aU;refine hm.app (n:=e.size) ?_ ar;rw[Xar,←e1];exact g4
 .
  simp only[Xq,Xn]at cb;have key:∀s,(CS.disj s (rng b nu.off (i*e.size)))->CS.disj s (rng b (nu.off+i*e.size) e.size)->CS.disj s (rng b (nu.off+(i+1)*e.size) ((nu.cap-(i+1))*e.size))->CS.disj (rng b nu.off (nu.cap*e.size)) s:=λs k1 k2 k3 b' o lm fL=>
   (Wgx (show i<nu.cap by omega) (S:=λb o=>¬s b o) (λb o hh hs=>k1 b o hs hh) (λb o hh hs=>k2 b o hs hh) (λb o hh hs=>k3 b o hs hh) b' o lm) fL
  have m7:∀s∈(p1++p2).map Pc.fp,CS.disj (rng b nu.off (nu.cap*e.size)) s:=λs hs=>key s (q1 s (Xf _ hs)).symm (d1.mono (gp s hs) hr) (q3 s hs).symm;rcases cb with cb|cb|cb
  .exact m7 s (by rw[Xq];exact Xk _ cb)
  .obtain⟨p,hp,rfl⟩:=Xu.1 cb;exact key _ (d2.mono gA (dU p hp)).symm (d3.mono hr (dU p hp)).symm (d2.mono gC (dU p hp)).symm
  .exact m7 s (by rw[Xq];exact Xg _ cb)
 .rw[Xq,Xq];rw[Xq]at q4 gp;refine Wmp q4 hs (λs cb t ht=>?_);obtain⟨p,hp,rfl⟩:=Xu.1 cb;exact(d2.mono (gp t ht) (dU p hp)).symm
 .rcases Xo.1 cb with rfl|cb
  .exact Wgx (show i<nu.cap by omega) (λb o hh=>l1 b o (gA b o hh)) (λb o hh=>l2 b o (hr b o hh)) (λb o hh=>l1 b o (gC b o hh))
  .simp only[Xq,Xn]at cb;rcases cb with cb|cb|cb
   .exactλb o hh=>l1 b o (gp s (by rw[Xq];exact Xk _ cb) b o hh)
   .obtain⟨p,hp,rfl⟩:=Xu.1 cb
    exactλb o hh=>l3 b o (dU p hp b o hh)
   .exactλb o hh=>l1 b o (gp s (by rw[Xq];exact Xg _ cb) b o hh)
def Nu.part(n:Nu)(lo hi:Nat):Nu:=⟨n.blk,if n.cap=lo then n.off else n.off+lo*n.esz,hi-lo,n.cap-lo,n.esz⟩
theorem Wlp{n:Nu}{lo hi:Nat}:(n.part lo hi).hdr=n.vhdr lo hi:=by
 unfold Nu.hdr Nu.vhdr Nu.part;cases n.blk<;>rfl
theorem WoX{e:Ty}{nu:Nu}{xs:List e.den}{S:CS}{lo hi:Nat}(h:OwnL w (TyRel G w e) e.size nu xs S)(h1:lo<=hi)(h2:hi<=nu.len):OwnL w (TyRel G w e) e.size (nu.part lo hi) ((xs.take hi).drop lo) S:=by
 obtain⟨g1,g2,g3⟩:=h;refine⟨by simp[Nu.part];omega,g2,?_⟩;show match nu.blk with|none=>_|some b=>_
 cases hb:nu.blk with
 |none=>simp only[hb]at g3;subst g3;simp
 |some b=>
  simp only[hb]at g3;obtain⟨g4,g5,g6,cs,ps,g7,g8,g9,qC⟩:=g3;obtain⟨c1,c2,p1,p2,k1,k2,k3,k4⟩:=Wey xs cs ps hi g7;obtain⟨d1,d2,q1,q2,k5,k6,k7,k8⟩:=Wey (xs.take hi) c1 p1 lo k3;have hl:=WaQ (λx c q hx=>Wu e x c q hx) _ _ _ k7;rw[Xap,Xap,Xcg (by omega)]at hl;have hcl:(nu.cap-lo)*e.size+lo*e.size=nu.cap*e.size:=by rw[←Xcz];congr 1;omega
  have hlen:((xs.take hi).drop lo).length=hi-lo:=by simp;omega
  by_cases hc:nu.cap=lo
  .have h0:(xs.take hi).drop lo= []:=Xy (by omega);have e0:nu.cap-lo=0:=by omega
   simp only[Nu.part,if_pos hc,e0,Nat.zero_mul,Xaz];rw[h0]at k8⊢;refine⟨Xbq _,Xbq _,?_,[],[],⟨rfl,rfl⟩,λj v hj=>by simp at hj,Xad.2 ⟨by simp,List.Pairwise.nil⟩,λs hs=>?_⟩
   .obtain⟨vs,T,r1,r2⟩:=g6;exact⟨vs,T,r1,by omega⟩
   .simp at hs;subst hs
    exactλb o ⟨_,r1,r2⟩=>absurd r2 (by omega)
  .simp only[Nu.part,if_neg hc,g2];have hle:CS.le (rng b (nu.off+lo*e.size) ((nu.cap-lo)*e.size)) (rng b nu.off (nu.cap*e.size)):=λb' o ⟨r0,r1,r2⟩=>⟨r0,by omega,by omega⟩;refine⟨by rw[hlen];omega,by omega,?_,d2,q2,k8,?_,?_,λs hs=>?_⟩
   .obtain⟨vs,T,r1,r2⟩:=g6;exact⟨vs,T,r1,by omega⟩
   .rw[k1,k5,List.append_assoc]at g8;exact(g8.right hl).left
   .obtain⟨r1,r2⟩:=Xad.1 g9;rw[k2,k6,Xq,Xq]at r1 r2;refine Xad.2 ⟨λs hs=>(r1 s (Xk _ (Xg _ hs))).mono hle (λ_ _ hh=>hh),?_⟩;exact(Xag.1 (Xag.1 r2).1).2.1
   .rcases Xo.1 hs with rfl|hs
    .exactλb' o hh=>qC _ (Xi ..) b' o (hle b' o hh)
    .refine qC s (Xf _ ?_);rw[k2,k6,Xq,Xq];exact Xk _ (Xg _ hs)
theorem Wmy{e:Ty}{nu:Nu}{xs:List e.den}{S:CS}{lo hi:Nat}(h:OwnL w (TyRel G w e) e.size nu xs S)(h1:lo<=hi)(h2:hi<=nu.len):OwnL w (TyRel G w e) e.size (nu.part lo hi) (List.drop lo (List.take hi xs)) S:=WoX h h1 h2
theorem WpS(hg:GLe G G'){e:Ty}{nu np:Nu}{xs:List e.den}{i:Nat}{S S1:CS}(h:WhI w (TyRel G w e) e.size nu np xs i S){d:e.ro.den}{vs:List Value}(hd:Enc G' e.ro d vs)
  {b:Nat} (hb:np.blk=some b) (hm:Mem w b np.off vs) (hr:CS.le (rng b np.off e.size) S1) (f1:Froz G' w S) (f2:Froz G' w S1):Wi4 G' (Enc G' e.ro) ((Wcx e xs).set i d) nu.hdr:=by
 obtain⟨h1,h2,h3,b',h4,h5,h6,h7,h8,h9,c1,c2,p1,p2,g1,g2,g3,g4,g5,g6⟩:=h;rw[hb]at h5;injection h5 with h5;subst h5;have aU:=WaQ (λx c q hx=>Wu e x c q hx) _ _ _ g1;have iu:=WaQ (λx c q hx=>Wu e x c q hx) _ _ _ g2;rw[Xap,Xcg (by omega)]at aU;rw[Xdr]at iu;have ar:=Enc_len _ _ _ hd;rw[Wbu]at ar;have e1:(i+1)*e.size=i*e.size+e.size:=Xcc i e.size;rw[h6]at hm hr;have gA:=g6 _ (Xi ..);have gC:=g6 _ (Xf _ (Xi ..));have gp:∀p∈p1++p2,Froz G' w p.fp:=λp hp=>f1.mono (g6 _ (Xf _ (Xf _ (Xal hp))));have jW:(xs.length-(i+1))*e.size<=(nu.cap-(i+1))*e.size:=Xbk _ (by omega);have E1:=Wlv (λx c p hp hx=>WdD hg e x c p hp hx) _ _ _ (λq hq=>gp q (Xk _ hq)) g1;have E2:=Wlv (λx c p hp hx=>WdD hg e x c p hp hx) _ _ _ (λq hq=>gp q (Xg _ hq)) g2;rw[WpY]at E1;rw[Wqu]at E2;have hlen:(Wcx e xs).length=xs.length:=WgA e xs;have eset:(Wcx e xs).set i d=(Wcx e xs).take i++(d::(Wcx e xs).drop (i+1)):=by
  rw[Xep,if_pos (by omega)]
 unfold Nu.hdr;simp only[h4];refine .inr (.inl ⟨b,nu.off,nu.cap,c1++(vs++c2),by rw[Xab,hlen,h1],by rw[Xab,hlen];exact h7,h8,?_,λj v hj=>?_⟩)
 .rw[eset];exact Wd1 _ _ _ _ E1 ⟨vs,c2,rfl,hd,E2⟩
 .have s1:Wfl G' b nu.off c1:=g3.stored (n:=i*e.size) (by omega) (f1.mono gA);have s2:Wfl G' b (nu.off+i*e.size) vs:=hm.stored (n:=e.size) (by omega) (f2.mono hr);have s3:Wfl G' b (nu.off+(i+1)*e.size) c2:=g4.stored (n:=(nu.cap-(i+1))*e.size) (by omega) (f1.mono gC);rw[Xbc]at hj;split at hj
  .exact s1 j v hj
  .rename_i fm;rw[Xbc]at hj;split at hj
   .have:=s2 _ v hj;rw[show nu.off+j=nu.off+i*e.size+(j-c1.length) by omega];exact this
   .have:=s3 _ v hj;rw[show nu.off+j=nu.off+(i+1)*e.size+(j-c1.length-vs.length) by omega];exact this
theorem Wp6{α:Type}{R:α->List Value->Prop}{n:Nat}(hR:∀x c,R x c->c.length=n){nu:Nu}{xs:List α}(h:Wi4 G R xs nu.hdr)(hlen:xs.length=nu.len)(hn:nu.esz=n){lo hi:Nat}(h1:lo<=hi)(h2:hi<=nu.len)(h3:nu.blk=none->hi=0)(gE:nu.blk≠none->nu.len<=nu.cap/\nu.cap<=maxLen):
  Wi4 G R ((xs.take hi).drop lo) (nu.vhdr lo hi):=by
 unfold Nu.hdr at h;unfold Nu.vhdr;cases hb:nu.blk with
 |none=>
  have:=h3 hb;refine .inl ⟨rfl,Xy (by simp;omega)⟩
 |some b=>
  obtain⟨m9,gH⟩:=gE (by rw[hb];simp);simp only[hb]at h;have hle:((xs.take hi).drop lo).length=hi-lo:=by simp;omega
  by_cases h0:hi-lo=0
  .refine .inr (.inr ⟨_,nu.cap-lo,by rw[h0],Xy (by omega)⟩)
  .rcases h with⟨e,_⟩|⟨b',off,cap,cs,e,g1,g2,g3,g4⟩|⟨a,cap,e,bz⟩
   .cases e
   .injection e with e1 e2 e3;injection e1 with e1;injection e1 with e4 e5 e6;subst e4 e5 e3;rw[if_neg (by omega)];refine .inr (.inl ⟨b,nu.off+lo*nu.esz,nu.cap-lo,(cs.take (hi*n)).drop (lo*n),by rw[hle],by omega,by omega,WeF hR _ _ lo (Weg hR _ _ hi g3),λj v hj=>?_⟩);rw[Xbo,Xbn]at hj;split at hj
    .rw[Xar,hn];exact g4 _ _ hj
    .simp at hj
   .subst bz;simp at hlen;omega
def Leaf(ν:Nat->Nu)(t:Ty)(cs:List Cell)(ns:List Pc):Prop:=∀(lf k r:Nat),Wa1 t lf=some k->cs[k]?=some (.own r)->∃pc,ns[lf]?=some pc/\pc.nu=ν r
theorem We3:∀(t:Ty) (lf k:Nat),Wa1 t lf=some k->lf<t.owns/\k<t.size
 | .own _,lf,k,h=>by
  cases lf with
  |zero=>simp[Wa1]at h;subst h;exact⟨Nat.one_pos,Nat.one_pos⟩
  |succ n=>simp[Wa1]at h
 | .prod a b,lf,k,h=>by
  simp only[Wa1]at h;split at h
  .obtain⟨h1,h2⟩:=We3 a lf k h;exact⟨by show _<a.owns+b.owns;omega,by show _<a.size+b.size;omega⟩
  .obtain⟨j,hj,rfl⟩:=Xx.1 h;obtain⟨h1,h2⟩:=We3 b _ j hj;exact⟨by show _<a.owns+b.owns;omega,by show _<a.size+b.size;omega⟩
 | .int _,_,_,h=>by simp[Wa1]at h
 | .bool,_,_,h=>by simp[Wa1]at h
 | .str,_,_,h=>by simp[Wa1]at h
 | .slice _,_,_,h=>by simp[Wa1]at h
theorem Leaf.none{ν:Nat->Nu}{t:Ty}{cs:List Cell}{ns:List Pc}(h:t.owns=0):Leaf ν t cs ns:=λlf k r h1 h2=>by
 have:=(We3 t lf k h1).1;omega
theorem Wwz{ν:Nat->Nu}{e:Ty}{c:Cell}{ns:List Pc}(hc:∀r,c≠ .own r):Leaf ν (.own e) [c] ns:=λlf k r k1 k2=>by
 cases lf with
 |zero=>
  simp[Wa1]at k1;subst k1;simp at k2;exact absurd k2 (hc r)
 |succ n=>simp[Wa1]at k1
theorem Waf(h:HR w0 F G ν φ objs nx w)(hg:GLe G G'):∀(t:Ty) (cs:List Cell) (vs:List Value) (d:t.den) (m l:List Nat),CellsRel G ν nx cs vs->Lent G' w φ objs l->m.Nodup->
  Wap t cs objs=some (d,m,l)->∃ns,TyRel G' w t d vs ns/\Sep (ns.map Pc.fp)/\(∀p∈ns,CS.le p.fp (FromL φ objs m))/\(∀i∈m,Live objs i)/\(∀i∈l,Live objs i)/\Leaf ν t cs ns
 | .prod a b,cs,vs,d,m,l,hc,hl,aR,hf=>by
  simp only[Wap]at hf;split at hf
  .rename_i x m1 l1 y m2 l2 h1 h2;simp only[Option.some.injEq,Prod.mk.injEq]at hf;obtain⟨rfl,rfl,rfl⟩:=hf;obtain⟨n1,n2,n3⟩:=List.nodup_append.1 aR;obtain⟨q1,h3,s1,h4,h5,xZ,f1⟩:=Waf h hg a _ (vs.take a.size) x m1 l1 (hc.take _) (hl.mono (by simp;intro i hi;exact .inl hi)) n1 h1;obtain⟨q2,h6,s2,h7,h8,ml,f2⟩:=Waf h hg b _ (vs.drop a.size) y m2 l2 (hc.drop _) (hl.mono (by simp;intro i hi;exact .inr hi)) n2 h2;refine⟨q1++q2,⟨_,_,q1,q2,(Xdg a.size vs).symm,rfl,h3,h6⟩,?_,?_,?_,?_,?_⟩
   .rw[Xq];refine Woo s1 s2 (A:=FromL φ objs m1) (B:=FromL φ objs m2) (λs hs=>?_) (λs hs=>?_) (FromL.disj h (λi hi hj=>n3 i hi i hj rfl))
    .obtain⟨p,hp,rfl⟩:=Xu.1 hs;exact h4 p hp
    .obtain⟨p,hp,rfl⟩:=Xu.1 hs;exact h7 p hp
   .intro p hp b o hh;rcases Xn.1 hp with hp|hp
    .exact FromL.mono (λi hi=>Xk _ hi) b o (h4 p hp b o hh)
    .exact FromL.mono (λi hi=>Xg _ hi) b o (h7 p hp b o hh)
   .intro i hi;rcases Xn.1 hi with hi|hi
    .exact h5 i hi
    .exact h8 i hi
   .intro i hi;rcases Xn.1 hi with hi|hi
    .exact xZ i hi
    .exact ml i hi
   .intro lf k r k1 k2;have hq:=W2 _ _ _ _ h3;simp only[Wa1]at k1;split at k1
    .rename_i hlt;obtain⟨_,hk⟩:=We3 a lf k k1;obtain⟨pc,k3,k4⟩:=f1 lf k r k1 (by rw[Xbn,if_pos hk];exact k2);exact⟨pc,by rw[Xbd (by omega)];exact k3,k4⟩
    .obtain⟨j,hj,rfl⟩:=Xx.1 k1;obtain⟨pc,k3,k4⟩:=f2 _ j r hj (by rw[Xbo];exact k2);exact⟨pc,by rw[Xax (by omega),hq];exact k3,k4⟩
  .simp at hf
 | .own e,cs,vs,d,m,l,hc,hl,aR,hf=>by
  simp only[Wap]at hf;split at hf
  .rename_i id;obtain⟨v,rfl,⟨_,hv⟩,_⟩:=hc.single;subst hv;have mm:∀{S:CS},Leaf ν (.own e) [.own id] [⟨ν id,S⟩]:=λ{S} lf k r k1 k2=>by
    cases lf with
    |zero=>
     simp[Wa1]at k1;subst k1;simp at k2;subst k2;exact⟨_,rfl,rfl⟩
    |succ n=>simp[Wa1]at k1
   obtain⟨⟨ys,m'⟩,ho,hf⟩:=Xx.1 hf;simp only[Prod.mk.injEq]at hf;obtain⟨rfl,rfl,rfl⟩:=hf;unfold Wtb at ho;split at ho
   .rename_i e' xs aZ;obtain⟨zs,bq,ho⟩:=Xx.1 ho;have ho:=Prod.mk.inj ho;obtain⟨rfl,rfl⟩:=ho;obtain⟨he,hy⟩:=Wao bq;subst he;simp only at hy;subst hy;have ar:Live objs id:=⟨_,aZ,by simp⟩;have aq:OwnL w (TyRel G w e') e'.size (ν id) xs (φ id):=h.ob _ _ aZ;refine⟨[⟨ν id,φ id⟩],⟨_,rfl,rfl,WcK hg (Same.refl _ w) (λ_ _ hh=>hh) aq⟩,Xbm _ _,?_,?_,by simp,mm⟩
    .intro p hp;simp at hp;subst hp;exact FromL.one (by simp) ar
    .intro i hi;simp at hi;subst hi;exact ar
   .rename_i e' xs i p aZ;split at ho
    .rename_i zs cs' bq dV;split at ho
     .rename_i d' m'' mi;simp only[Option.some.injEq,Prod.mk.injEq]at ho;obtain⟨rfl,rfl⟩:=ho;obtain⟨he,hy⟩:=Wao bq;subst he;simp only at hy;subst hy;obtain⟨n1,n2⟩:=Xaj.1 aR;obtain⟨n3,n4⟩:=Xaj.1 n2;have ar:Live objs id:=⟨_,aZ,by simp⟩;have de:Live objs p:=⟨_,dV,by simp⟩;obtain⟨ll,hole⟩:p<nx/\WhI w (TyRel G w e') e'.size (ν id) (ν p) xs i (φ id):=h.ob _ _ aZ;obtain⟨b,us,hb,hrow,hmem,bm,eT⟩:Wcv G ν nx w p (φ p) (.box cs'):=h.ob _ _ dV;obtain⟨ns,t1,t2,t3,t4,_,_⟩:=Waf h hg e' cs' us d' m'' [] bm (λi hi=>by simp at hi) n4 mi;have cG:=Wu _ _ _ _ t1;have qD:=WjW hg (Same.refl _ w) (λ_ _ hh=>hh) hole;rw[←bm.1,cG]at eT;have hne:id≠p:=λe=>n1 (by rw[e];exact Xi ..);refine⟨[⟨ν id,FromL φ objs (id::p::m'')⟩],⟨_,rfl,rfl,Wps qD t1 hb hmem eT t2 t3 ?_ ?_ ?_ ?_ ?_ ?_⟩,Xbm _ _,?_,?_,by simp,mm⟩
      .exactλb o h1 h2=>hne (h.inj id p b o ar de h1 h2)
      .exactλb o h1 ⟨j,hj,h2,h3⟩=>by
        have:=h.inj id j b o ar h2 h1 h3;subst this;exact n1 (Xf _ hj)
      .exactλb o h1 ⟨j,hj,h2,h3⟩=>by
        have:=h.inj p j b o de h2 h1 h3;subst this;exact n3 hj
      .exact FromL.one (by simp) ar
      .exact FromL.one (by simp) de
      .exact FromL.mono (λi hi=>Xf _ (Xf _ hi))
      .intro p hp;simp at hp;subst hp;exactλ_ _ hh=>hh
      .intro j hj;rcases Xo.1 hj with rfl|hj
       .exact ar
       .rcases Xo.1 hj with rfl|hj
        .exact de
        .exact t4 j hj
     .simp at ho
    .simp at ho
   .simp at ho
  .rename_i id lo hi;obtain⟨v,rfl,⟨_,g1,g2,g3,hv⟩,_⟩:=hc.single;subst hv;split at hf
   .rename_i e' xs aZ;obtain⟨zs,bq,hf⟩:=Xx.1 hf;have hf:=And.intro (Prod.mk.inj hf).1 (Prod.mk.inj (Prod.mk.inj hf).2);obtain⟨rfl,rfl,rfl⟩:=hf;obtain⟨he,hy⟩:=Wao bq;subst he;simp only at hy;subst hy;have ar:Live objs id:=⟨_,aZ,by simp⟩;have aq:OwnL w (TyRel G w e') e'.size (ν id) xs (φ id):=h.ob _ _ aZ;refine⟨[⟨(ν id).part lo hi,φ id⟩],⟨_,rfl,by rw[Wlp],Wmy (WcK hg (Same.refl _ w) (λ_ _ hh=>hh) aq) g1 g2⟩,Xbm _ _,?_,?_,by simp,Wwz (by intro r h;cases h)⟩
    .intro p hp;simp at hp;subst hp;exact FromL.one (by simp) ar
    .intro i hi;simp at hi;subst hi;exact ar
   .simp at hf
  .simp only[Option.some.injEq,Prod.mk.injEq]at hf;obtain⟨rfl,rfl,rfl⟩:=hf;obtain⟨v,rfl,hv,_⟩:=hc.single;simp only[CellRel]at hv;subst hv;exact⟨[⟨⟨none,0,0,0,e.size⟩,λ_ _=>False⟩],⟨_,rfl,rfl,rfl,rfl,rfl⟩,Xbm _ _,λp hp b o hh=>by simp at hp;subst hp;exact hh.elim,by simp,by simp,Wwz (by intro r h;cases h)⟩
  .simp at hf
 | .slice e,cs,vs,d,m,l,hc,hl,aR,hf=>by
  simp only[Wap]at hf;split at hf
  .rename_i id;obtain⟨v,rfl,⟨_,hv⟩,_⟩:=hc.single;subst hv;obtain⟨⟨ys,l'⟩,ho,hf⟩:=Xx.1 hf;simp only[Prod.mk.injEq]at hf;obtain⟨rfl,rfl,rfl⟩:=hf;unfold Wuw at ho;split at ho
   .rename_i e' xs aZ;obtain⟨zs,bq,ho⟩:=Xx.1 ho;have ho:=Prod.mk.inj ho;obtain⟨rfl,rfl⟩:=ho;obtain⟨he,hy⟩:=Wao bq;subst he;simp only at hy;subst hy;have ar:Live objs id:=⟨_,aZ,by simp⟩;have aq:OwnL w (TyRel G w e') e'.size (ν id) xs (φ id):=h.ob _ _ aZ;refine⟨[],⟨rfl,_,rfl,WiT hg (hl id (by simp) ar) aq⟩,List.Pairwise.nil,by simp,by simp,?_,Leaf.none rfl⟩;intro i hi;simp at hi;subst hi;exact ar
   .rename_i e' xs i p aZ;split at ho
    .rename_i zs cs' bq dV;split at ho
     .rename_i d' l'' mi;simp only[Option.some.injEq,Prod.mk.injEq]at ho;obtain⟨rfl,rfl⟩:=ho;obtain⟨he,hy⟩:=Wao bq;subst he;simp only at hy;subst hy;have ar:Live objs id:=⟨_,aZ,by simp⟩;have de:Live objs p:=⟨_,dV,by simp⟩;obtain⟨ll,hole⟩:p<nx/\WhI w (TyRel G w e') e'.size (ν id) (ν p) xs i (φ id):=h.ob _ _ aZ;obtain⟨b,us,hb,hrow,hmem,bm,eT⟩:Wcv G ν nx w p (φ p) (.box cs'):=h.ob _ _ dV;obtain⟨ns,t1,t2,t3,t4,t5,_⟩:=Waf h hg e'.ro cs' us d' [] l'' bm (hl.mono (λi hi=>Xf _ (Xf _ hi))) Xdm mi;obtain⟨t6,_⟩:=(WaW e'.ro d' us ns (Wnr e')).1 t1;have cG:=Enc_len _ _ _ t6;rw[Wbu]at cG;rw[←bm.1,cG]at eT;refine⟨[],⟨rfl,_,rfl,WpS hg hole t6 hb hmem eT (hl id (by simp) ar) (hl p (by simp) de)⟩,List.Pairwise.nil,by simp,by simp,?_,Leaf.none rfl⟩;intro j hj;rcases Xo.1 hj with rfl|hj
      .exact ar
      .rcases Xo.1 hj with rfl|hj
       .exact de
       .exact t5 j hj
     .simp at ho
    .simp at ho
   .simp at ho
  .rename_i id lo hi;obtain⟨v,rfl,⟨_,g1,g2,g3,hv⟩,_⟩:=hc.single;subst hv;split at hf
   .rename_i e' xs aZ;obtain⟨zs,bq,hf⟩:=Xx.1 hf;have hf:=And.intro (Prod.mk.inj hf).1 (Prod.mk.inj (Prod.mk.inj hf).2);obtain⟨rfl,rfl,rfl⟩:=hf;obtain⟨he,hy⟩:=Wao bq;subst he;simp only at hy;subst hy;have ar:Live objs id:=⟨_,aZ,by simp⟩;have aq:OwnL w (TyRel G w e') e'.size (ν id) xs (φ id):=h.ob _ _ aZ;have hsl:=WiT hg (hl id (by simp) ar) aq;refine⟨[],⟨rfl,_,rfl,?_⟩,List.Pairwise.nil,by simp,by simp,?_,Leaf.none rfl⟩
    .refine Wp6 (n:=e'.size) (λx c hc=>by rw[←Wbu];exact Enc_len _ _ _ hc) hsl (by rw[WgA];exact aq.1) aq.2.1 g1 g2 g3 (λhb=>?_);cases mn:(ν id).blk with
     |none=>exact absurd mn hb
     |some b=>
      have:=aq.2.2;simp only[mn]at this;exact⟨by rw[←aq.1];exact this.1,this.2.1⟩
    .intro i hi;simp at hi;subst hi;exact ar
   .simp at hf
  .simp only[Option.some.injEq,Prod.mk.injEq]at hf;obtain⟨rfl,rfl,rfl⟩:=hf;obtain⟨v,rfl,hv,_⟩:=hc.single;simp only[CellRel]at hv;subst hv;exact⟨[],⟨rfl,_,rfl,.inl ⟨rfl,rfl⟩⟩,List.Pairwise.nil,by simp,by simp,by simp,Leaf.none rfl⟩
  .rename_i c _ _ _;cases db:Wi8 (.slice e) c with
   |none=>simp[db]at hf
   |some x=>
    simp only[db,Xch,Option.some.injEq,Prod.mk.injEq]at hf;obtain⟨rfl,rfl,rfl⟩:=hf;obtain⟨v,rfl,hv,_⟩:=hc.single;exact⟨[],⟨rfl,Wgc hg hv db⟩,List.Pairwise.nil,by simp,by simp,by simp,Leaf.none rfl⟩
  .simp at hf
 | .int k,cs,vs,d,m,l,hc,hl,aR,hf=>by
  simp only[Wap]at hf;split at hf
  .rename_i c;cases db:Wi8 (.int k) c with
   |none=>simp[db]at hf
   |some x=>
    simp only[db,Xch,Option.some.injEq,Prod.mk.injEq]at hf;obtain⟨rfl,rfl,rfl⟩:=hf;obtain⟨v,rfl,hv,_⟩:=hc.single;exact⟨[],⟨rfl,Wgc hg hv db⟩,List.Pairwise.nil,by simp,by simp,by simp,Leaf.none rfl⟩
  .simp at hf
 | .bool,cs,vs,d,m,l,hc,hl,aR,hf=>by
  simp only[Wap]at hf;split at hf
  .rename_i c;cases db:Wi8 .bool c with
   |none=>simp[db]at hf
   |some x=>
    simp only[db,Xch,Option.some.injEq,Prod.mk.injEq]at hf;obtain⟨rfl,rfl,rfl⟩:=hf;obtain⟨v,rfl,hv,_⟩:=hc.single;exact⟨[],⟨rfl,Wgc hg hv db⟩,List.Pairwise.nil,by simp,by simp,by simp,Leaf.none rfl⟩
  .simp at hf
 | .str,cs,vs,d,m,l,hc,hl,aR,hf=>by
  simp only[Wap]at hf;split at hf
  .rename_i c;cases db:Wi8 .str c with
   |none=>simp[db]at hf
   |some x=>
    simp only[db,Xch,Option.some.injEq,Prod.mk.injEq]at hf;obtain⟨rfl,rfl,rfl⟩:=hf;obtain⟨v,rfl,hv,_⟩:=hc.single;exact⟨[],⟨rfl,Wgc hg hv db⟩,List.Pairwise.nil,by simp,by simp,by simp,Leaf.none rfl⟩
  .simp at hf
theorem Wmh(h:HRel w0 F G ν objs nx w){t:Ty}{cs:List Cell}{vs:List Value}{d:t.den}(hc:CellsRel G ν nx cs vs)(ht:t.data=true)(hf:Wap t cs objs=some (d,[],[])):Enc G t d vs:=by
 obtain⟨φ,h⟩:=h;obtain⟨ns,h1,_⟩:=Waf (G':=G) h (λ_ _ _ hh=>hh) t cs vs d [] [] hc (λid bv=>by simp at bv) Xdm hf;exact((WaW t d vs ns ht).1 h1).1
end
end Go.Sx
namespace Go.Sx
set_option linter.unusedVariables false
set_option linter.unusedSimpArgs false
section
variable{w0:World}{F:CS}{nt:Slots}{G0 G G':GH}{ν ν':Nat->Nu}{φ:Nat->CS}{objs objs':Wab}{nx ah:Nat}{st af:St}{a:Act}{w w':World}{P:Program}{T:Tab}{Γ:Ctx}
theorem Wg5(i:Nat):∀(l:List Nat),WbS i l=true↔i∈l
 | []=>by simp[WbS]
 |j::l=>by
  simp only[WbS,Bool.or_eq_true,Wg5 i l,Xo];constructor
  .rintro(h|h)
   .exact .inl (Xcf h)
   .exact .inr h
  .rintro(h|h)
   .exact .inl (by subst h;exact Nat.beq_refl i)
   .exact .inr h
open Classical in
noncomputable def WqJ(G:GH)(w:World)(S:CS):GH:=λb o=>if S b o then w.cell? ⟨b,o,none⟩else G b o
theorem Wrv{S:CS}{b o:Nat}(h:S b o):WqJ G w S b o=w.cell? ⟨b,o,none⟩:=by unfold WqJ;rw[if_pos h]
theorem Wda{S:CS}{b o:Nat}(h:¬S b o):WqJ G w S b o=G b o:=by unfold WqJ;rw[if_neg h]
theorem WiY(S:CS):Froz (WqJ G w S) w S:=λb o v hs hv=>by rw[Wrv hs];exact hv
theorem HR.addG_le(h:HR w0 F G ν φ objs nx w)(l:List Nat):GLe G (WqJ G w (FromL φ objs l)):=λb o v hv=>by
 by_cases hs:FromL φ objs l b o
 .obtain⟨i,_,h1,h2⟩:=hs;rw[h.gf i b o h1 h2]at hv;cases hv
 .rw[Wda hs];exact hv
theorem HR.addG_w(h:HR w0 F G ν φ objs nx w)(l:List Nat):∀b o v,WqJ G w (FromL φ objs l) b o=some v->w.cell? ⟨b,o,none⟩=some v:=λb o v hv=>by
 by_cases hs:FromL φ objs l b o
 .rw[Wrv hs]at hv;exact hv
 .rw[Wda hs]at hv;exact h.g b o v hv
theorem HRel.freezeL(h:HRel w0 F G ν objs nx w)(gx:GExt w0.heap.size F G0 G)(l:List Nat):∃G1,GLe G G1/\HRel w0 F G1 ν (Sx.kill objs l) nx w/\GExt w0.heap.size F G0 G1/\
  ∀id∈l,∀(e:Ty) (xs:List e.den),look objs id=some (.arr e xs)->Wi4 G1 (Enc G1 e.ro) (Wcx e xs) (ν id).hdr:=by
 obtain⟨φ,h⟩:=h;have fX:=h.addG_le l;refine⟨WqJ G w (FromL φ objs l),fX,⟨φ,?_⟩,⟨λb o v hv=>fX b o v (gx.le b o v hv),λb o v hv=>?_⟩,λid bv e xs ho=>?_⟩
 .exact{
   g:=h.addG_w l
   ob:=λj ob hj=>by
    by_cases hd:ob= .dead
    .subst hd;trivial
    .obtain⟨hj,hn⟩:=Weh l j ob hj hd;exact Wdo fX (Same.refl _ w) (λ_ _ hh=>hh) (λ_ _=>rfl) (Xm _) (h.lt j ⟨ob,hj,hd⟩) ob (h.ob j ob hj)
   gf:=λj b o hj hp=>by
    obtain⟨hj,hn⟩:=Wds hj;rw[Wda (λ⟨i,hi,h1,h2⟩=>hn (by rw[h.inj j i b o hj h1 hp h2];exact hi))];exact h.gf j b o hj hp
   inj:=λj j' b o hj hj'=>h.inj j j' b o (Wds hj).1 (Wds hj').1
   own:=λj b o hj=>h.own j b o (Wds hj).1
   lt:=λj hj=>h.lt j (Wds hj).1
   bl:=λj b o hj=>h.bl j b o (Wds hj).1
   le:=h.le}
 .by_cases hs:FromL φ objs l b o
  .obtain⟨i,_,h1,h2⟩:=hs;exact .inr (h.own i b o h1 h2)
  .rw[Wda hs]at hv;exact gx.new b o v hv
 .exact WiT fX ((WiY _).mono (FromL.one bv ⟨_,ho,by simp⟩)) (h.ob _ _ ho)
structure Frz(w0:World)(F:CS)(nt:Slots)(G0 G:GH)(ν:Nat->Nu)(st:St)(l:List Nat)(a:Act)(w:World)(G1:GH):Prop where
 le:GLe G G1
 rel:Rel w0 F nt G0 G1 ν {env:=st.env,objs:=kill st.objs l,nx:=st.nx} a w
 sl:∀id∈l,∀(e:Ty) (xs:List e.den),look st.objs id=some (.arr e xs)->Wi4 G1 (Enc G1 e.ro) (Wcx e xs) (ν id).hdr
theorem Rel.frz(h:Rel w0 F nt G0 G ν st a w)(l:List Nat):∃G1,Frz w0 F nt G0 G ν st l a w G1:=by
 obtain⟨G1,h1,h2,h3,h4⟩:=h.h.freezeL h.gx l;exact⟨G1,h1,h.on h1 (λ_ _=>rfl) (Xm _) h2 h3,h4⟩
theorem Frz.cell{l:List Nat}{G1:GH}(h:Frz w0 F nt G0 G ν st l a w G1):∀(c:Cell) (v:Value),CellRel G ν st.nx c v->CellRel G1 ν st.nx (Wkv st.objs l c) v:=by
 have mono:=λc v (hc:CellRel G ν st.nx c v)=>CellRel.mono (G':=G1) (ν':=ν) (ah:=st.nx) h.le (λ_ _=>rfl) (Xm _) c v hc;intro c v hc;cases c with
 |own id=>
  simp only[Wkv];cases he:WbS id l with
  |false=>exact mono _ v hc
  |true=>
   simp only[cond_true];have hm:=(Wg5 id l).1 he;split
   .rename_i e xs ho;obtain⟨_,hv⟩:=hc;rw[hv];exact⟨_,rfl,h.sl id hm e xs ho⟩
   .trivial
 |vw id lo hi=>exact mono _ v hc
 |val t d=>exact mono _ v hc
 |nils=>exact mono _ v hc
 |aptr id=>exact mono _ v hc
 |ptr id off=>exact mono _ v hc
 |eptr id i off=>exact mono _ v hc
 |rptr t d off=>exact mono _ v hc
 |clos f caps=>exact mono _ v hc
 |junk=>trivial
theorem Frz.val{l:List Nat}{G1:GH}(h:Frz w0 F nt G0 G ν st l a w G1):∀(x:AVal) (v:Value),AValRel G ν st.nx x v->AValRel G1 ν st.nx (Whv st.objs l x) v
 | .s (.one c),v,hx=>⟨h.cell c v hx.1,hx.2⟩
 | .s (.agg cs),v,⟨vs,he,h1,h2⟩=>by
  refine⟨vs,he,by simp[h1],λj c u hc hu=>?_⟩;rw[Xan]at hc;obtain⟨d,hd,rfl⟩:=Xx.1 hc;exact⟨h.cell d u (h2 j d u hd hu).1,(h2 j d u hd hu).2⟩
 | .tup xs,v,hx=>AValRel.mono h.le (λ_ _=>rfl) (Xm _) (.tup xs) v hx
end
end Go.Sx
