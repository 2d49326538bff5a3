/- The abstract machine, part 1: a reflective interpreter of the program's code over data, with its soundness over the model. -/
import Derived.WalkKit
import Derived.LoopN
import Derived.KernelRfl
import Derived.ProofKit
import Derived.OpenShut
import Derived.JoinedCond
open Nat renaming beq→Xbk,blt→Xgd,succ_mul→Xbx,add_comm→Xct,add_assoc→Xay,lt_of_lt_of_le→Xbi,mul_le_mul_right→Xbf,min_eq_left→Xbz,add_zero→Xbd,eq_of_beq_eq_true→Xch,add_mul→Xcp,le_refl→Xl,zero_le→Xcf,le_trans→Xbe,le_succ→Xdc,lt_succ_self→Xbs
open List renaming length→Xb,getD→Xc,append→Xg,replicate→Xp,length_append→Xw,length_cons→Xq,drop_drop→Xdl,take_length_add_append→Xev,drop_left→Xfz,getElem?_append→Xau,getElem?_take→Xbm,getElem?_drop→Xbl,mem_append_left→Xm,mem_append_right→Xh,set_eq_take_append_cons_drop→Xea,getElem?_eq_some_iff→Xaa,mem_cons_of_mem→Xf,mem_map_of_mem→Xam,mem_cons_self→Xj,mem_singleton→Xag,length_take→Xbh,length_drop→Xds,pairwise_cons→Xt,getElem?_eq_getElem→Xs,mapM_cons→Xep,map_cons→Xaf,getElem?_map→Xan,eq_nil_of_length_eq_zero→Xz,length_map→Xx,map_nil→Xce,map_toArray→Xdq,mem_map→Xv,mem_cons→Xr,pairwise_append→Xah,mem_append→Xn,map_append→Xy,pairwise_singleton→Xbj,nodup_cons→Xac,nodup_nil→Xdd
open Bool renaming and_eq_true→Xi
open Option renaming map_some→Xby,map_eq_some_iff→Xu
open Array renaming getElem?_setIfInBounds_ne→Xeh,length_toList→Xar
namespace Go.Sx
abbrev Wb:=@if_neg
abbrev Wf:=@if_pos
abbrev We:=@decide_eq_true
abbrev Wk:=@decide_eq_false
abbrev Wi:=@decide_eq_true_eq
abbrev Wp:=@decide_eq_false_iff_not
abbrev WaH:=@of_decide_eq_true
abbrev WC:=@absurd
abbrev Wn:=@congrArg
abbrev W2:=@if_true
abbrev Wal:=@if_false
theorem Wa{A:Type}(a b:A):cond true a b=a:=rfl
theorem Wc{A:Type}(a b:A):cond false a b=b:=rfl
inductive Ty where
 |int (k:IntKind)|bool|str|slice (e:Ty)|own (e:Ty)|prod (a b:Ty)
 deriving DecidableEq
def Ty.den:Ty->Type
 | .int _=>Int
 | .bool=>Bool
 | .str=>List UInt8
 | .slice e=>List e.den
 | .own e=>List e.den
 | .prod a b=>a.den×b.den
def Ty.size:Ty->Nat
 | .prod a b=>a.size+b.size
 |_=>1
def Ty.dflt:(t:Ty)->t.den
 | .int _=>(0:Int)
 | .bool=>false
 | .str=>([]:List UInt8)
 | .slice e=>([]:List e.den)
 | .own e=>([]:List e.den)
 | .prod a b=>(a.dflt,b.dflt)
def Ty.noRo:Ty->Bool
 | .slice _=>false
 | .own e=>e.noRo
 | .prod a b=>a.noRo&&b.noRo
 |_=>true
def Ty.ro:Ty->Ty
 | .own e=>.slice e.ro
 | .slice e=>.slice e
 | .prod a b=>.prod a.ro b.ro
 | .int k=>.int k
 | .bool=>.bool
 | .str=>.str
theorem WdW:∀t:Ty,t.ro.den=t.den
 | .own e=>Wn List (WdW e)
 | .slice _=>rfl
 | .prod a b=>by show(a.ro.den×b.ro.den)=(a.den×b.den);rw[WdW a,WdW b]
 | .int _| .bool| .str=>rfl
def Wta(t:Ty)(d:t.den):t.ro.den:=cast (WdW t).symm d
def Wcm(t:Ty)(l:List t.den):List t.ro.den:=cast (Wn List (WdW t).symm) l
def Wmn(t t':Ty)(d:t.den):Option t'.den:=
 if h:t=t' then some (h▸d)else none
def WfQ(e e':Ty)(l:List e.den):Option (List e'.den):=
 if h:e=e' then some (h▸l)else none
inductive Cell where
 |val (t:Ty) (d:t.den)
 |nils
 |own (id:Nat)
 |vw (id lo hi:Nat)
 |aptr (id:Nat)
 |ptr (id off:Nat)
 |eptr (id i off:Nat)
 |rptr (t:Ty) (d:t.den) (off:Nat)
 |clos (f:FuncId) (caps:List Nat)
 |junk
inductive AV where
 |one (c:Cell)
 |agg (cs:List Cell)
inductive AVal where
 |s (x:AV)
 |tup (xs:List AV)
inductive Ob where
 |box (cs:List Cell)
 |arr (e:Ty) (xs:List e.den)
 |hole (e:Ty) (xs:List e.den) (i p:Nat)
 |dead
abbrev W9:=List (Nat×Ob)
structure St where
 env:List (Nat×AVal)
 objs:W9
 nx:Nat
universe u
def Wq{α:Type u}:List (Nat×α)->Nat->Option α
 | [],_=>none
 |(k,v)::l,i=>match Xbk k i with|true=>some v|false=>Wq l i
abbrev GH:=Nat->Nat->Option Value
abbrev CS:=Nat->Nat->Prop
def CS.disj(A B:CS):Prop:=∀b o,A b o->B b o->False
def CS.le(A B:CS):Prop:=∀b o,A b o->B b o
def rng(b lo n:Nat):CS:=λb' o=>b'=b/\lo<=o/\o<lo+n
def Sep(l:List CS):Prop:=l.Pairwise CS.disj
structure Nu where
 blk:Option Nat
 off:Nat
 len:Nat
 cap:Nat
 esz:Nat
def Nu.hdr(n:Nu):Value:=match n.blk with
 |none=>.slice none 0 0
 |some b=>.slice (some ⟨b,n.off,none⟩) n.len n.cap
def Nu.vhdr(n:Nu)(lo hi:Nat):Value:=match n.blk with
 |none=>.slice none 0 0
 |some b=>.slice (some ⟨b,if n.cap=lo then n.off else n.off+lo*n.esz,none⟩) (hi-lo) (n.cap-lo)
structure Pc where
 nu:Nu
 fp:CS
def We6(G:GH)(b off:Nat)(cs:List Value):Prop:=∀(j:Nat) (v:Value),cs[j]?=some v->G b (off+j)=some v
def EncL{α:Type}(R:α->List Value->Prop):List α->List Value->Prop
 | [],cs=>cs= []
 |x::l,cs=>∃c1 c2,cs=c1++c2/\R x c1/\EncL R l c2
def Wjh{α:Type}(G:GH)(R:α->List Value->Prop)(l:List α)(v:Value):Prop:=
 (v= .slice none 0 0/\l= [])\/
 (∃b off cap cs,v= .slice (some ⟨b,off,none⟩) l.length cap/\l.length<=cap/\cap<=maxLen/\EncL R l cs/\We6 G b off cs)\/
 ∃a cap,v= .slice (some a) 0 cap/\l= []
def Enc(G:GH):(t:Ty)->t.den->List Value->Prop
 | .int k,n,cs=>cs= [.int k n]
 | .bool,b,cs=>cs= [.bool b]
 | .str,s,cs=>cs= [.string ⟨List.toArray s⟩]
 | .slice e,l,cs=>∃v,cs= [v]/\Wjh G (Enc G e) l v
 | .own _,_,_=>False
 | .prod a b,d,cs=>∃c1 c2,cs=c1++c2/\Enc G a d.1 c1/\Enc G b d.2 c2
def CellRel(G:GH)(ν:Nat->Nu)(nx:Nat):Cell->Value->Prop
 | .val t d,v=>Enc G t d [v]
 | .nils,v=>v= .slice none 0 0
 | .own id,v=>id<nx/\v=(ν id).hdr
 | .vw id lo hi,v=>id<nx/\lo<=hi/\hi<=(ν id).len/\((ν id).blk=none->hi=0)/\v=(ν id).vhdr lo hi
 | .aptr id,v=>id<nx/\∃b,(ν id).blk=some b/\v= .pointer (some ⟨b,(ν id).off,none⟩)
 | .ptr id off,v=>id<nx/\∃b,(ν id).blk=some b/\v= .pointer (some ⟨b,(ν id).off+off,none⟩)
 | .eptr id i off,v=>id<nx/\i<(ν id).len/\∃b,(ν id).blk=some b/\v= .pointer (some ⟨b,(ν id).off+(i*(ν id).esz+off),none⟩)
 | .rptr t d off,v=>∃b o cs,v= .pointer (some ⟨b,o+off,none⟩)/\Enc G t d cs/\We6 G b o cs
 | .clos f caps,v=>∃vs:List Value,v= .func (.func f) #[] vs.toArray/\vs.length=caps.length/\
   ∀(j id:Nat) (u:Value),caps[j]?=some id->vs[j]?=some u->id<nx/\u.oneCell'=true/\∃b,(ν id).blk=some b/\u= .pointer (some ⟨b,(ν id).off+0,none⟩)
 | .junk,_=>True
def CellsRel(G:GH)(ν:Nat->Nu)(nx:Nat)(cs:List Cell)(vs:List Value):Prop:=
 vs.length=cs.length/\∀(j:Nat) (c:Cell) (v:Value),cs[j]?=some c->vs[j]?=some v->CellRel G ν nx c v/\v.oneCell'=true
def AvRel(G:GH)(ν:Nat->Nu)(nx:Nat):AV->Value->Prop
 | .one c,v=>CellRel G ν nx c v/\v.oneCell'=true
 | .agg cs,v=>∃vs:List Value,v= .agg vs.toArray/\CellsRel G ν nx cs vs
def WqW(G:GH)(ν:Nat->Nu)(nx:Nat)(xs:List AV)(vs:List Value):Prop:=
 vs.length=xs.length/\∀(j:Nat) (x:AV) (v:Value),xs[j]?=some x->vs[j]?=some v->AvRel G ν nx x v
def AValRel(G:GH)(ν:Nat->Nu)(nx:Nat):AVal->Value->Prop
 | .s x,v=>AvRel G ν nx x v
 | .tup xs,v=>∃vs:List Value,v= .tuple vs.toArray/\WqW G ν nx xs vs
def Row(w:World)(b n:Nat):Prop:=∃vs T,w.heap[b]?=some (.cells vs T (0,0))/\n<=vs.size
def Mem(w:World)(b o:Nat)(vs:List Value):Prop:=∀(j:Nat) (v:Value),vs[j]?=some v->w.cell? ⟨b,o+j,none⟩=some v
def EncP{α:Type}(R:α->List Value->List Pc->Prop):List α->List Value->List Pc->Prop
 | [],cs,ps=>cs= []/\ps= []
 |x::l,cs,ps=>∃c1 c2 p1 p2,cs=c1++c2/\ps=p1++p2/\R x c1 p1/\EncP R l c2 p2
def OwnL{α:Type}(w:World)(R:α->List Value->List Pc->Prop)(n:Nat)(nu:Nu)(xs:List α)(S:CS):Prop:=
 xs.length=nu.len/\nu.esz=n/\match nu.blk with
  |none=>xs= []
  |some b=>xs.length<=nu.cap/\nu.cap<=maxLen/\Row w b (nu.off+nu.cap*n)/\∃cs ps,EncP R xs cs ps/\Mem w b nu.off cs/\
    Sep (rng b nu.off (nu.cap*n)::ps.map Pc.fp)/\∀s∈rng b nu.off (nu.cap*n)::ps.map Pc.fp,CS.le s S
def TyRel(G:GH)(w:World):(t:Ty)->t.den->List Value->List Pc->Prop
 | .own e,xs,vs,ns=>∃p:Pc,ns= [p]/\vs= [p.nu.hdr]/\OwnL w (TyRel G w e) e.size p.nu xs p.fp
 | .prod a b,d,vs,ns=>∃v1 v2 n1 n2,vs=v1++v2/\ns=n1++n2/\TyRel G w a d.1 v1 n1/\TyRel G w b d.2 v2 n2
 | .int k,d,vs,ns=>ns= []/\Enc G (.int k) d vs
 | .bool,d,vs,ns=>ns= []/\Enc G .bool d vs
 | .str,d,vs,ns=>ns= []/\Enc G .str d vs
 | .slice e,d,vs,ns=>ns= []/\Enc G (.slice e) d vs
def Whk{α:Type}(w:World)(R:α->List Value->List Pc->Prop)(n:Nat)(nu np:Nu)(xs:List α)(i:Nat)(S:CS):Prop:=
 xs.length=nu.len/\nu.esz=n/\i<xs.length/\∃b,nu.blk=some b/\np.blk=some b/\np.off=nu.off+i*n/\xs.length<=nu.cap/\nu.cap<=maxLen/\Row w b (nu.off+nu.cap*n)/\
  ∃c1 c2 p1 p2,EncP R (xs.take i) c1 p1/\EncP R (xs.drop (i+1)) c2 p2/\Mem w b nu.off c1/\Mem w b (nu.off+(i+1)*n) c2/\
   Sep (rng b nu.off (i*n)::rng b (nu.off+(i+1)*n) ((nu.cap-(i+1))*n)::(p1++p2).map Pc.fp)/\
   ∀s∈rng b nu.off (i*n)::rng b (nu.off+(i+1)*n) ((nu.cap-(i+1))*n)::(p1++p2).map Pc.fp,CS.le s S
def Wch(G:GH)(ν:Nat->Nu)(nx:Nat)(w:World)(id:Nat)(S:CS):Ob->Prop
 | .box cs=>∃b vs,(ν id).blk=some b/\Row w b ((ν id).off+cs.length)/\Mem w b (ν id).off vs/\CellsRel G ν nx cs vs/\CS.le (rng b (ν id).off cs.length) S
 | .arr e xs=>OwnL w (TyRel G w e) e.size (ν id) xs S
 | .hole e xs i p=>p<nx/\Whk w (TyRel G w e) e.size (ν id) (ν p) xs i S
 | .dead=>True
def Live(objs:W9)(id:Nat):Prop:=∃ob,Wq objs id=some ob/\ob≠ .dead
structure WLe(F:CS)(w w':World):Prop where
 size:w.heap.size<=w'.heap.size
 row:∀(b:Nat) (vs:Array Value) (T:TypeId),w.heap[b]?=some (Obj.cells vs T (0,0))->∃vs':Array Value,w'.heap[b]?=some (Obj.cells vs' T (0,0))/\vs'.size=vs.size
 cell:∀(b o:Nat),b<w.heap.size->¬F b o->w'.cell? ⟨b,o,none⟩=w.cell? ⟨b,o,none⟩
 whole:∀(b:Nat),b<w.heap.size->(∀o,¬F b o)->w'.heap[b]?=w.heap[b]?
 os:w'.os=w.os
 output:w'.output=w.output
 tape:w'.tape=w.tape
structure HR(w0:World)(F:CS)(G:GH)(ν:Nat->Nu)(φ:Nat->CS)(objs:W9)(nx:Nat)(w:World):Prop where
 g:∀b o v,G b o=some v->w.cell? ⟨b,o,none⟩=some v
 ob:∀id ob,Wq objs id=some ob->Wch G ν nx w id (φ id) ob
 gf:∀id b o,Live objs id->φ id b o->G b o=none
 inj:∀id bN b o,Live objs id->Live objs bN->φ id b o->φ bN b o->id=bN
 own:∀id b o,Live objs id->φ id b o->w0.heap.size<=b\/F b o
 lt:∀id,Live objs id->id<nx
 bl:∀id b o,Live objs id->φ id b o->b<w.heap.size
 le:WLe F w0 w
def HRel(w0:World)(F:CS)(G:GH)(ν:Nat->Nu)(objs:W9)(nx:Nat)(w:World):Prop:=∃φ,HR w0 F G ν φ objs nx w
structure GExt(B:Nat)(F:CS)(G G':GH):Prop where
 le:∀b o v,G b o=some v->G' b o=some v
 new:∀b o v,G' b o=some v->G b o=some v\/B<=b\/F b o
structure Slots where
 n:Nat
 kept:List (Nat×Value)
def Slots.Ok(s:Slots)(d:Nat):Prop:=d<s.n/\∀p∈s.kept,p.1≠d
structure Rel(w0:World)(F:CS)(nt:Slots)(G0:GH)(G:GH)(ν:Nat->Nu)(st:St)(a:Act)(w:World):Prop where
 defers:a.defers= []
 ntm:a.tmps.size=nt.n
 par:∀p∈nt.kept,a.tmps[p.1]?=some p.2
 env:∀i x,Wq st.env i=some x->∃v,a.tmps[i]?=some v/\AValRel G ν st.nx x v
 h:HRel w0 F G ν st.objs st.nx w
 gx:GExt w0.heap.size F G0 G
end Go.Sx
namespace Go.Sx
set_option linter.unusedVariables false
inductive Shape where
 |basic|slice (e:TypeId)|struct (fs:List (Nat×TypeId))|ptr (e:TypeId)|arr (n:Nat) (e:TypeId)
structure TE where
 ty:Ty
 agg:Bool
 shape:Shape
abbrev Tab:=List (TypeId×TE)
def TE.plain(te:TE):Bool:=match te.shape with
 | .arr _ _=>false
 |_=>true
def Wj(k:IntKind)(a b:Int):Int:=k.wrap (a+b)
def WV(k:IntKind)(a b:Int):Int:=k.wrap (a-b)
def Wp9(k:IntKind)(a b:Int):Int:=k.wrap (a*b)
def Wom(k:IntKind)(a b:Int):Int:=k.wrap (a.tdiv b)
def Wgi(a b:Int):Int:=a.tmod b
def Wu6(k:IntKind)(a b:Int):Int:=k.wrap (BitVec.ofInt k.bits a&&&BitVec.ofInt k.bits b).toNat
def ior(k:IntKind)(a b:Int):Int:=k.wrap (BitVec.ofInt k.bits a|||BitVec.ofInt k.bits b).toNat
def Wvd(k:IntKind)(a b:Int):Int:=k.wrap (BitVec.ofInt k.bits a^^^BitVec.ofInt k.bits b).toNat
def WuY(k:IntKind)(a b:Int):Int:=k.wrap (BitVec.ofInt k.bits a&&& ~~~BitVec.ofInt k.bits b).toNat
def WuL(k:IntKind)(a b:Int):Int:=k.wrap (a*2^(min b.toNat k.bits))
def WuV(k:IntKind)(a b:Int):Int:=a.fdiv (2^(min b.toNat k.bits))
def Wu3(a b:List UInt8):Bool:=!decide (((a.length+b.length:Nat):Int)>IntKind.i64.max)
def Wh{α:Type}(l:List α):Int:=(l.length:Int)
def inb(i:Int)(n:Nat):Bool:=decide (0<=i)&&decide (i<(n:Int))
def Wz(n:Nat):Bool:=decide (n<=1073741824)
def Wsf(l:List Int):List UInt8:=l.map λn=>UInt8.ofNat n.toNat
def ieq(a b:Int):Bool:=a==b
def beq(a b:Bool):Bool:=a==b
def seq(a b:List UInt8):Bool:=a==b
def inz(b:Int):Bool:=!decide (b=0)
def inn(b:Int):Bool:=!decide (b<0)
def one(t:Ty)(d:t.den):AVal:=.s (.one (.val t d))
def WuP(op:BinOp)(k:IntKind)(a b:Int):Option (Bool×AVal):=
 match op with
 | .add=>some (true,one (.int k) (Wj k a b))
 | .sub=>some (true,one (.int k) (WV k a b))
 | .mul=>some (true,one (.int k) (Wp9 k a b))
 | .quo=>some (inz b,one (.int k) (Wom k a b))
 | .rem=>some (inz b,one (.int k) (Wgi a b))
 | .and=>some (true,one (.int k) (Wu6 k a b))
 | .or=>some (true,one (.int k) (ior k a b))
 | .xor=>some (true,one (.int k) (Wvd k a b))
 | .andNot=>some (true,one (.int k) (WuY k a b))
 | .eql=>some (true,one .bool (a==b))
 | .neq=>some (true,one .bool (a !=b))
 | .lss=>some (true,one .bool (decide (a<b)))
 | .leq=>some (true,one .bool (decide (a<=b)))
 | .gtr=>some (true,one .bool (decide (a>b)))
 | .geq=>some (true,one .bool (decide (a>=b)))
 |_=>none
def WuZ(op:BinOp)(a b:List UInt8):Option (Bool×AVal):=
 match op with
 | .add=>some (Wu3 a b,one .str (a++b))
 | .eql=>some (true,one .bool (seq a b))
 | .neq=>some (true,one .bool (!seq a b))
 |_=>none
def Wj4(te:TE)(c d:Cell):Option Bool:=
 match te,c,d with
 |⟨.int _,false,.basic⟩,.val (.int k) a,.val (.int k') b=>if k=k' then some (ieq a b)else none
 |⟨.bool,false,.basic⟩,.val .bool a,.val .bool b=>some (beq a b)
 |⟨.str,false,.basic⟩,.val .str a,.val .str b=>some (seq a b)
 |_,_,_=>none
def WcC(T:Tab):List TypeId->List Cell->List Cell->Option Bool
 | [],[],[]=>some true
 |t::ts,c::cs,d::ds=>match Wq T t with
  |some te=>match Wj4 te c d,WcC T ts cs ds with
   |some x,some y=>some (x&&y)
   |_,_=>none
  |none=>none
 |_,_,_=>none
def binOp(T:Tab)(op:BinOp)(t:TypeId)(x y:AVal):Option (Bool×AVal):=
 match x,y with
 | .s (.one (.val (.int k) a)),.s (.one (.val (.int k') b))=>
  match op with
  | .shl=>some (inn b,one (.int k) (WuL k a b))
  | .shr=>some (inn b,one (.int k) (WuV k a b))
  |_=>if k=k' then WuP op k a b else none
 | .s (.one (.val .str a)),.s (.one (.val .str b))=>WuZ op a b
 | .s (.one (.val .bool a)),.s (.one (.val .bool b))=>
  match Wq T t with
  |some ⟨.bool,false,.basic⟩=>
   match op with
   | .eql=>some (true,one .bool (beq a b))
   | .neq=>some (true,one .bool (!beq a b))
   |_=>none
  |_=>none
 | .s (.agg cs),.s (.agg ds)=>
  match Wq T t with
  |some ⟨_,true,.struct fs⟩=>
   if decide (fs.map (·.1)=List.range fs.length)then
    match op,WcC T (fs.map (·.2)) cs ds with
    | .eql,some b=>some (true,one .bool b)
    | .neq,some b=>some (true,one .bool (!b))
    |_,_=>none
   else none
  |_=>none
 |_,_=>none
def unOp(op:UnOp)(x:AVal):Option (Bool×AVal):=
 match op,x with
 | .not,.s (.one (.val .bool b))=>some (true,one .bool (!b))
 | .neg,.s (.one (.val (.int k) n))=>some (true,one (.int k) (WV k 0 n))
 |_,_=>none
def split:(t:Ty)->t.den->List Cell
 | .prod a b,d=>split a d.1++split b d.2
 | .int k,d=>[.val (.int k) d]
 | .bool,d=>[.val .bool d]
 | .str,d=>[.val .str d]
 | .slice e,d=>[.val (.slice e) d]
 | .own e,d=>[.junk]
def Wah:Value->Option Cell
 | .int k n=>some (.val (.int k) n)
 | .bool b=>some (.val .bool b)
 | .string s=>some (.val .str s.data.toList)
 | .slice none 0 0=>some .nils
 | .pointer none=>some .junk
 | .nilFunc=>some .junk
 |_=>none
def Wrq:Value->Option AVal
 | .agg cs=>(cs.toList.mapM Wah).map λl=>.s (.agg l)
 |v=>(Wah v).map λc=>.s (.one c)
def ev(st:St):Operand->Option AVal
 | .tmp t=>Wq st.env t
 | .const v=>Wrq v
 | .func f=>some (.s (.one (.clos f [])))
 | .global _=>none
def St.put(st:St)(dst:Option Tmp)(x:AVal):St:=
 match dst with
 |some d=>{st with env:=(d,x)::st.env}
 |none=>st
def sub(agg:Bool)(cs:List Cell)(off n:Nat):Option AVal:=
 if agg then(if off+n<=cs.length then some (.s (.agg ((cs.drop off).take n)))else none)
 else(cs[off]?).map λc=>.s (.one c)
def WgX(T:Tab)(st:St)(t:TypeId)(x:AVal):Option AVal:=
 match Wq T t with
 |some te=>
  if te.plain then
   match x with
   | .s (.one (.ptr id off))=>match Wq st.objs id with
    |some (.box cs)=>sub te.agg cs off te.ty.size
    |_=>none
   | .s (.one (.eptr id i off))=>match Wq st.objs id with
    |some (.arr e xs)=>sub te.agg (split e (xs.getD i e.dflt)) off te.ty.size
    |_=>none
   | .s (.one (.rptr t' d off))=>sub te.agg (split t' d) off te.ty.size
   |_=>none
  else none
 |none=>none
def Wto(k:IntKind)(xs:List Int):Nat->Nat->List Cell
 |_,0=>[]
 |i,n+1=>.val (.int k) (xs.getD i (0:Int))::Wto k xs (i+1) n
def WfD(T:Tab)(st:St)(t:TypeId)(x:AVal):Option (Bool×AVal):=
 match Wq T t with
 |some ⟨.int k,true,.arr n _⟩=>match x with
  | .s (.one (.aptr id))=>match Wq st.objs id with
   |some (.arr (.int k') xs)=>if k'=k then some (decide (Xb xs=n),.s (.agg (Wto k xs 0 n)))else none
   |_=>none
  |_=>none
 |_=>none
def Wbs(k:IntKind):List Cell->Option (List Int)
 | []=>some []
 | .val (.int k') d::cs=>if k'=k then(Wbs k cs).map λl=>(d:Int)::l else none
 |_=>none
def asI:AVal->Option Int
 | .s (.one (.val (.int _) n))=>some n
 |_=>none
def asB:AVal->Option Bool
 | .s (.one (.val .bool b))=>some b
 |_=>none
def obL(o:Option Ob):Option (Bool×AVal):=match o with
 |some (.arr _ xs)=>some (true,one (.int .i64) (Wh xs))
 |some (.hole _ xs _ _)=>some (true,one (.int .i64) (Wh xs))
 |_=>none
def Wi6(T:Tab)(st:St)(t:TypeId)(x:AVal):Option (Bool×AVal):=
 match Wq T t,x with
 |some ⟨_,false,.slice _⟩,.s (.one (.val (.slice _) l))=>some (true,one (.int .i64) (Wh l))
 |some ⟨_,false,.slice _⟩,.s (.one .nils)=>some (true,one (.int .i64) (0:Int))
 |some ⟨_,false,.slice _⟩,.s (.one (.own id))=>obL (Wq st.objs id)
 |some ⟨_,false,.slice _⟩,.s (.one (.vw _ lo hi))=>some (true,one (.int .i64) ((hi-lo:Nat):Int))
 |some ⟨.str,false,.basic⟩,.s (.one (.val .str s))=>some (true,one (.int .i64) (Wh (α:=UInt8) s))
 |_,_=>none
def Wgl(T:Tab)(t:TypeId)(f:Nat):Option (Nat×TE):=
 match Wq T t with
 |some ⟨_,_,.struct fs⟩=>match fs[f]? with
  |some (off,ft)=>match Wq T ft with
   |some te=>if te.plain then some (off,te)else none
   |none=>none
  |none=>none
 |_=>none
def WbQ(T:Tab)(st:St)(t:TypeId)(x:AVal)(f:Nat):Option (Bool×AVal):=
 match Wgl T t f,x with
 |some (off,_),.s (.one (.ptr id o))=>match Wq st.objs id with
  |some (.box _)=>some (true,.s (.one (.ptr id (o+off))))
  |_=>none
 |some (off,_),.s (.one (.eptr id i o))=>match Wq st.objs id with
  |some (.arr _ _)=>some (true,.s (.one (.eptr id i (o+off))))
  |_=>none
 |some (off,_),.s (.one (.rptr t' d o))=>some (true,.s (.one (.rptr t' d (o+off))))
 |_,_=>none
def Wnz(T:Tab)(t:TypeId)(x:AVal)(f:Nat):Option (Bool×AVal):=
 match Wgl T t f,x with
 |some (off,te),.s (.agg cs)=>(sub te.agg cs off te.ty.size).map λv=>(true,v)
 |_,_=>none
def obI(te:TE)(n:Int)(id:Nat)(o:Option Ob):Option (Bool×AVal):=match o with
 |some (.arr e xs)=>if te.ty=e.ro then some (inb n xs.length,.s (.one (.eptr id n.toNat 0)))else none
 |some (.hole e xs i p)=>if te.ty=e.ro then some (inb n xs.length&&Xbk n.toNat i,.s (.one (.ptr p 0)))else none
 |_=>none
def Wut(te:TE)(n:Int)(id lo hi:Nat)(o:Option Ob):Option (Bool×AVal):=match o with
 |some (.arr e xs)=>if te.ty=e.ro then some (inb n (hi-lo),.s (.one (.eptr id (lo+n.toNat) 0)))else none
 |_=>none
def Wuo(te:TE)(n:Int)(k:Nat)(id:Nat)(o:Option Ob):Option (Bool×AVal):=match o with
 |some (.arr e xs)=>if te.ty=e then some (inb n k&&decide (xs.length=k),.s (.one (.eptr id n.toNat 0)))else none
 |_=>none
def WbV(T:Tab)(st:St)(t:TypeId)(x i:AVal):Option (Bool×AVal):=
 match Wq T t,asI i with
 |some ⟨_,_,.slice et⟩,some n=>match Wq T et with
  |some te=>
   if te.plain then match x with
    | .s (.one (.val (.slice e) l))=>if te.ty=e then some (inb n (Xb l),.s (.one (.rptr e (Xc l n.toNat e.dflt) 0)))else none
    | .s (.one .nils)=>some (false,.s (.one .junk))
    | .s (.one (.own id))=>obI te n id (Wq st.objs id)
    | .s (.one (.vw id lo hi))=>Wut te n id lo hi (Wq st.objs id)
    |_=>none
   else none
  |none=>none
 |some ⟨_,_,.arr k et⟩,some n=>match Wq T et with
  |some te=>
   if te.plain then match x with
    | .s (.one (.aptr id))=>Wuo te n k id (Wq st.objs id)
    |_=>none
   else none
  |none=>none
 |_,_=>none
def WnF(T:Tab)(t:TypeId)(x i:AVal):Option (Bool×AVal):=
 match Wq T t,x,asI i with
 |some ⟨.str,_,.basic⟩,.s (.one (.val .str s)),some n=>some (inb n (Xb s),one (.int .u8) ((Xc s n.toNat 0).toNat:Int))
 |some ⟨.int k,_,.arr m et⟩,.s (.agg cs),some n=>match Wq T et with
  |some ⟨.int k',false,.basic⟩=>match Wbs k cs with
   |some l=>if k'=k/\cs.length=m then some (inb n m,one (.int k) (Xc l n.toNat (0:Int)))else none
   |none=>none
  |_=>none
 |_,_,_=>none
def Wcx(n:Nat)(lo hi:Option Int):Bool×Nat×Nat:=
 match lo,hi with
 |none,none=>(true,0,n)
 |some l,none=>(decide (0<=l)&&decide (l<=(n:Int)),l.toNat,n)
 |none,some h=>(decide (0<=h)&&decide (h<=(n:Int)),0,h.toNat)
 |some l,some h=>(decide (0<=h)&&decide (h<=(n:Int))&&decide (0<=l)&&decide (l<=h),l.toNat,h.toNat)
def Ws4{α:Type}(l:List α)(lo hi:Option Int):List α:=
 match lo,hi with
 |none,none=>l
 |some a,none=>l.drop a.toNat
 |none,some b=>l.take b.toNat
 |some a,some b=>(l.take b.toNat).drop a.toNat
def Wlh(st:St):Option Operand->Option (Option Int)
 |none=>some none
 |some x=>((ev st x).bind asI).map some
def Wlf(T:Tab)(st:St)(t:TypeId)(x:AVal)(lo hi:Option Operand):Option (Bool×AVal):=
 match Wq T t,x,Wlh st lo,Wlh st hi with
 |some ⟨.str,_,.basic⟩,.s (.one (.val .str s)),some l,some h=>some ((Wcx (Xb s) l h).1,one .str (Ws4 s l h))
 |some ⟨_,_,.slice et⟩,.s (.one (.val (.slice e) xs)),some l,some h=>match Wq T et with
  |some te=>if te.ty=e/\te.plain then some ((Wcx (Xb xs) l h).1,one (.slice e) (Ws4 xs l h))else none
  |none=>none
 |_,_,_,_=>none
def WsV(st:St):AVal->Option Ob
 | .s (.one (.own id))=>Wq st.objs id
 |_=>none
def Wun(T:Tab)(o:Option Ob)(src dst:TypeId)(x:AVal):Option (Bool×AVal):=
 match Wq T src,Wq T dst,x with
 |some ⟨.int _,false,.basic⟩,some ⟨.int k,false,.basic⟩,.s (.one (.val (.int _) n))=>some (true,one (.int k) (k.wrap n))
 |some ⟨.str,false,.basic⟩,some ⟨.str,false,.basic⟩,.s (.one (.val .str s))=>some (true,one .str s)
 |some ⟨_,_,.slice et⟩,some ⟨.str,false,.basic⟩,.s (.one c)=>
  match Wq T et with
  |some ⟨.int .u8,false,.basic⟩=>match c with
   | .val (.slice (.int .u8)) l=>some (true,one .str (Wsf l))
   | .nils=>some (true,one .str ([]:List UInt8))
   | .own _=>match o with
    |some (.arr (.int .u8) xs)=>some (true,one .str (Wsf xs))
    |_=>none
   |_=>none
  |_=>none
 |_,_,_=>none
def WjK(T:Tab)(st:St)(src dst:TypeId)(x:AVal):Option (Bool×AVal):=Wun T (WsV st x) src dst x
def Wpp(st:St)(x:AVal):Option (Bool×AVal):=
 match x with
 | .s (.one (.rptr _ _ _))=>some (true,x)
 | .s (.one (.ptr id _))=>match Wq st.objs id with
  |some (.box _)=>some (true,x)
  |_=>none
 | .s (.one (.eptr id _ _))| .s (.one (.aptr id))=>match Wq st.objs id with
  |some (.arr _ _)=>some (true,x)
  |_=>none
 |_=>none
def Wf2(st:St):List Operand->Option (List Nat)
 | []=>some []
 |o::l=>match ev st o,Wf2 st l with
  |some (.s (.one (.ptr id 0))),some r=>some (id::r)
  |_,_=>none
def Wu2(a b:Int):Int:=if b<a then b else a
def WqR(a b:Int):Int:=if a<b then b else a
def Wo8(T:Tab)(st:St)(op:BinOp)(t:TypeId)(a b:AVal):Option (Bool×AVal):=
 match a,b with
 | .s (.one (.own id)),.s (.one .nils)=>match Wq T t with
  |some ⟨_,false,.slice _⟩=>match Wq st.objs id with
   |some (.arr _ xs)=>match op with
    | .eql=>some (Xgd 0 xs.length,one .bool false)
    | .neq=>some (Xgd 0 xs.length,one .bool true)
    |_=>none
   |_=>none
  |_=>none
 |_,_=>none
def Wac(T:Tab)(st:St):Op->Option (Bool×AVal)
 | .move x| .assign x=>(ev st x).map λv=>(true,v)
 | .pick c a b=>match(ev st c).bind asB with
  |some p=>match ev st a,ev st b with
   |some (.s (.one (.val .bool x))),some (.s (.one (.val .bool y)))=>some (true,one .bool (bif p then x else y))
   |va,vb=>(bif p then va else vb).map λv=>(true,v)
  |none=>none
 | .load t a=>(ev st a).bind λv=>match WfD T st t v with
  |some r=>some r
  |none=>(WgX T st t v).map λr=>(true,r)
 | .nilCheck x=>(ev st x).bind (Wpp st)
 | .binOp op t x y _=>match ev st x,ev st y with
  |some a,some b=>match Wo8 T st op t a b with
   |some r=>some r
   |none=>binOp T op t a b
  |_,_=>none
 | .unOp op _ x=>(ev st x).bind (unOp op)
 | .convert src dst x=>(ev st x).bind (WjK T st src dst)
 | .slice t x lo hi none=>(ev st x).bind λv=>Wlf T st t v lo hi
 | .fieldAddr s x f=>(ev st x).bind λv=>WbQ T st s v f
 | .field t x f=>(ev st x).bind λv=>Wnz T t v f
 | .indexAddr t x i=>match ev st x,ev st i with
  |some a,some b=>WbV T st t a b
  |_,_=>none
 | .index t x i=>match ev st x,ev st i with
  |some a,some b=>WnF T t a b
  |_,_=>none
 | .extract t ix=>match ev st t with
  |some (.tup xs)=>(xs[ix]?).map λx=>(true,.s x)
  |_=>none
 | .makeFunc (.func f) first captured=>if first.isEmpty then(Wf2 st captured.toList).map λids=>(true,.s (.one (.clos f ids)))else none
 | .call c=>match c.callee,c.args.toList,c.argTypes.toList with
  | .builtin .len,[x],[t]=>(ev st x).bind (Wi6 T st t)
  | .builtin .min,[x,y],[_,_]=>match ev st x,ev st y with
   |some (.s (.one (.val (.int k) a))),some (.s (.one (.val (.int k') b)))=>if k=k' then some (true,one (.int k) (Wu2 a b))else none
   |_,_=>none
  | .builtin .max,[x,y],[_,_]=>match ev st x,ev st y with
   |some (.s (.one (.val (.int k) a))),some (.s (.one (.val (.int k') b)))=>if k=k' then some (true,one (.int k) (WqR a b))else none
   |_,_=>none
  |_,_,_=>none
 |_=>none
def Wen:Ty->List Cell
 | .prod a b=>Wen a++Wen b
 | .int k=>[.val (.int k) (0:Int)]
 | .bool=>[.val .bool false]
 | .str=>[.val .str ([]:List UInt8)]
 | .slice _=>[.nils]
 | .own _=>[.junk]
def Ty.data:Ty->Bool
 | .own _=>false
 | .prod a b=>a.data&&b.data
 |_=>true
def unfold:(t:Ty)->t.den->Nat->List Cell×W9×Nat
 | .prod a b,d,nx=>
  let x:=unfold a d.1 nx
  let y:=unfold b d.2 x.2.2
  (x.1++y.1,x.2.1++y.2.1,y.2.2)
 | .own e,d,nx=>([.own nx],[(nx,.arr e d)],nx+1)
 | .int k,d,nx=>([.val (.int k) d],[],nx)
 | .bool,d,nx=>([.val .bool d],[],nx)
 | .str,d,nx=>([.val .str d],[],nx)
 | .slice e,d,nx=>([.val (.slice e) d],[],nx)
def WiO(t:Ty)(c:Cell):Option t.den:=
 match c with
 | .val t' d=>Wmn t' t d
 |_=>none
def WsQ(e:Ty)(objs:W9)(fc:List Cell->Option (e.den×List Nat×List Nat))(id:Nat):Option (List e.den×List Nat):=
 match Wq objs id with
 |some (.arr e' xs)=>(WfQ e' e xs).map λys=>(ys,[id])
 |some (.hole e' xs i p)=>match WfQ e' e xs,Wq objs p with
  |some ys,some (.box cs)=>match fc cs with
   |some (d,m,[])=>some (ys.set i d,id::p::m)
   |_=>none
  |_,_=>none
 |_=>none
def Wtj(e:Ty)(objs:W9)(fc:List Cell->Option (e.den×List Nat×List Nat))(id:Nat):Option (List e.den×List Nat):=
 match Wq objs id with
 |some (.arr e' xs)=>(WfQ e'.ro e (Wcm e' xs)).map λys=>(ys,[id])
 |some (.hole e' xs i p)=>match WfQ e'.ro e (Wcm e' xs),Wq objs p with
  |some ys,some (.box cs)=>match fc cs with
   |some (d,[],l)=>some (ys.set i d,id::p::l)
   |_=>none
  |_,_=>none
 |_=>none
def Waq:(t:Ty)->List Cell->W9->Option (t.den×List Nat×List Nat)
 | .prod a b,cs,objs=>match Waq a (cs.take a.size) objs,Waq b (cs.drop a.size) objs with
  |some (x,m,r),some (y,m',r')=>some ((x,y),m++m',r++r')
  |_,_=>none
 | .own e,cs,objs=>match cs with
  | [.own id]=>(WsQ e objs (λcs=>Waq e cs objs) id).map λp=>(p.1,p.2,[])
  | [.vw id lo hi]=>match Wq objs id with
   |some (.arr e' xs)=>(WfQ e' e xs).map λys=>((ys.take hi).drop lo,[id],[])
   |_=>none
  | [.nils]=>some (([]:List e.den),[],[])
  |_=>none
 | .slice e,cs,objs=>match cs with
  | [.own id]=>(Wtj e objs (λcs=>Waq e cs objs) id).map λp=>(p.1,[],p.2)
  | [.vw id lo hi]=>match Wq objs id with
   |some (.arr e' xs)=>(WfQ e'.ro e (Wcm e' xs)).map λys=>((ys.take hi).drop lo,[],[id])
   |_=>none
  | [.nils]=>some (([]:List e.den),[],[])
  | [c]=>(WiO (.slice e) c).map λd=>(d,[],[])
  |_=>none
 | .int k,cs,_=>match cs with
  | [c]=>(WiO (.int k) c).map λd=>(d,[],[])
  |_=>none
 | .bool,cs,_=>match cs with
  | [c]=>(WiO .bool c).map λd=>(d,[],[])
  |_=>none
 | .str,cs,_=>match cs with
  | [c]=>(WiO .str c).map λd=>(d,[],[])
  |_=>none
def Wb4(i:Nat):List Nat->Bool
 | []=>false
 |j::l=>Xbk i j||Wb4 i l
def Wbe:List Nat->Bool
 | []=>true
 |i::l=>!Wb4 i l&&Wbe l
def eqN:List Nat->List Nat->Bool
 | [],[]=>true
 |i::l,j::m=>Xbk i j&&eqN l m
 |_,_=>false
def WgG(l m:List Nat):Bool:=l.all λi=>!Wb4 i m
def kill(objs:W9):List Nat->W9
 | []=>objs
 |i::l=>(i,.dead)::kill objs l
def cellsOf(agg:Bool):AVal->Option (List Cell)
 | .s (.one c)=>if agg then none else some [c]
 | .s (.agg cs)=>if agg then some cs else none
 | .tup _=>none
inductive PTy where
 |v (t:Ty) (agg:Bool)
 |box (t:Ty)
 |mut (e:Ty)
 |clos (g:FuncId) (n:Nat)
 |kv (t:Ty) (agg:Bool)
 |rp (t:Ty)
 |boxal (t:Ty) (lf:Nat)
 |vj (t:Ty)
def Ty.owns:Ty->Nat
 | .own _=>1
 | .prod a b=>a.owns+b.owns
 |_=>0
def We1:List PTy->Type
 | []=>Unit
 | .v t _::ps=>t.den×We1 ps
 | .box t::ps=>t.den×We1 ps
 | .mut e::ps=>List e.den×We1 ps
 | .clos _ _::ps=>We1 ps
 | .kv t _::ps=>t.den×We1 ps
 | .rp t::ps=>t.den×We1 ps
 | .vj _::ps=>We1 ps
 | .boxal t _::ps=>t.den×Nat×We1 ps
def WfH:List PTy->Type
 | []=>Unit
 | .v _ _::ps=>WfH ps
 | .box t::ps=>t.den×WfH ps
 | .mut e::ps=>List e.den×WfH ps
 | .clos _ _::ps=>WfH ps
 | .kv t _::ps=>t.den×WfH ps
 | .rp _::ps=>WfH ps
 | .vj _::ps=>WfH ps
 | .boxal t _::ps=>t.den×WfH ps
def Wgs:List PTy->Type
 | []=>Unit
 | .v t _::rs=>t.den×Wgs rs
 | .box t::rs=>t.den×Wgs rs
 | .mut _::rs=>Wgs rs
 | .clos _ _::rs=>Wgs rs
 | .kv _ _::rs=>Wgs rs
 | .rp _::rs=>Wgs rs
 | .vj t::rs=>t.den×Wgs rs
 | .boxal _ _::rs=>Wgs rs
structure Kp where
 id:Nat
 off:Nat
def kp0(l:List Nat):List Kp:=l.map λi=>⟨i,0⟩
structure Args(ps:List PTy) where
 d:We1 ps
 moved:List Nat
 lent:List Nat
 kept:List Kp
 all:List Nat
def Wbl:Ty->Nat->Option Nat
 | .own _,n=>match n with
  |0=>some 0
  |_+1=>none
 | .prod a b,n=>if n<a.owns then Wbl a n else(Wbl b (n-a.owns)).map (a.size+ ·)
 | .int _,_=>none
 | .bool,_=>none
 | .str,_=>none
 | .slice _,_=>none
def WrG(objs:W9):Cell->AVal->Option Nat
 | .own r,.s (.one (.ptr p off))=>match off,Wq objs r with
  |0,some (.hole _ _ i p')=>if Xbk p p' then some i else none
  |_,_=>none
 | .own r,.s (.one (.eptr r' i off))=>match off,Wq objs r with
  |0,some (.arr _ _)=>if Xbk r r' then some i else none
  |_,_=>none
 |_,_=>none
def Wrf:Cell->Bool
 | .vw _ _ _=>false
 |_=>true
def Ws0:AVal->Bool
 | .s (.one c)=>Wrf c
 | .s (.agg cs)=>cs.all Wrf
 | .tup _=>true
def WmC(objs:W9)(t:Ty)(m:List Nat)(x:AVal):Bool:=decide (m.length=t.owns)&&Ws0 x&&m.all λid=>match Wq objs id with
 |some (.arr _ _)=>true
 |_=>false
def WjX(l:List Nat):List AVal:=l.map λid=>.s (.one (.ptr id 0))
def W7:(ps:List PTy)->List AVal->W9->Option (Args ps)
 | [],xs,_=>match xs with
  | []=>some ⟨(),[],[],[],[]⟩
  |_=>none
 | .v t agg::ps,xs,objs=>match xs with
  |x::xs=>match(cellsOf agg x).bind λcs=>Waq t cs objs,W7 ps xs objs with
   |some (d,m,r),some A=>some ⟨(d,A.d),m++A.moved,r++A.lent,A.kept,m++A.all⟩
   |_,_=>none
  |_=>none
 | .box t::ps,xs,objs=>match xs with
  | .s (.one (.ptr id off))::xs=>match Wq objs id with
   |some (.box cs)=>match Waq t ((cs.drop off).take t.size) objs,W7 ps xs objs with
    |some (d,m,[]),some A=>some ⟨(d,A.d),m++A.moved,A.lent,⟨id,off⟩::A.kept,id::(m++A.all)⟩
    |_,_=>none
   |_=>none
  |_=>none
 | .mut e::ps,xs,objs=>match xs with
  | .s (.one (.own id))::xs=>match Wq objs id with
   |some (.arr e' ys)=>match WfQ e' e ys,W7 ps xs objs with
    |some d,some A=>some ⟨(d,A.d),A.moved,A.lent,⟨id,0⟩::A.kept,id::A.all⟩
    |_,_=>none
   |_=>none
  |_=>none
 | .clos g n::ps,xs,objs=>match xs with
  | .s (.one (.clos g' caps))::xs=>if g'=g/\caps.length=n then(W7 ps (WjX caps++xs) objs).map λA=>⟨A.d,A.moved,A.lent,A.kept,A.all⟩else none
  |_=>none
 | .kv t agg::ps,xs,objs=>match xs with
  |x::xs=>match(cellsOf agg x).bind λcs=>Waq t cs objs,W7 ps xs objs with
   |some (d,m,r),some A=>if WmC objs t m x then some ⟨(d,A.d),A.moved,r++A.lent,kp0 m++A.kept,m++A.all⟩else none
   |_,_=>none
  |_=>none
 | .rp t::ps,xs,objs=>match xs with
  | .s (.one (.ptr id off))::xs=>match Wq objs id with
   |some (.box cs)=>match Waq t ((cs.drop off).take t.size) objs,W7 ps xs objs with
    |some (d,[],r),some A=>if t.data then some ⟨(d,A.d),A.moved,id::(r++A.lent),A.kept,A.all⟩else none
    |_,_=>none
   |_=>none
  | .s (.one (.rptr t' d off))::xs=>match Waq t (((split t' d).drop off).take t.size) objs,W7 ps xs objs with
   |some (d,[],[]),some A=>if t.data then some ⟨(d,A.d),A.moved,A.lent,A.kept,A.all⟩else none
   |_,_=>none
  |_=>none
 | .vj _::_,_,_=>none
 | .boxal t lf::ps,xs,objs=>match xs with
  | .s (.one (.ptr id off))::y::xs=>match Wq objs id with
   |some (.box cs)=>match Waq t ((cs.drop off).take t.size) objs,W7 ps xs objs,((Wbl t lf).bind λk=>((cs.drop off).take t.size)[k]?).bind λc=>WrG objs c y with
    |some (d,m,[]),some A,some i=>some ⟨(d,i,A.d),m++A.moved,A.lent,⟨id,off⟩::A.kept,id::(m++A.all)⟩
    |_,_,_=>none
   |_=>none
  |_=>none
def Wcj:(t:Ty)->t.den->List Nat->W9
 | .own e,d,ids=>match ids with
  |id::_=>[(id,.arr e d)]
  | []=>[]
 | .prod a b,d,ids=>Wcj a d.1 (ids.take a.owns)++Wcj b d.2 (ids.drop a.owns)
 | .int _,_,_=>[]
 | .bool,_,_=>[]
 | .str,_,_=>[]
 | .slice _,_,_=>[]
def WdZ(cs:List Cell)(off:Nat)(ds:List Cell):List Cell:=cs.take off++ds++cs.drop (off+ds.length)
def Wg6(o:Option Ob)(off:Nat)(ds:List Cell):Ob:=match o with
 |some (.box cs)=>.box (WdZ cs off ds)
 |_=>.dead
def Waa:(ps:List PTy)->WfH ps->List Kp->W9->Nat->W9×Nat
 | [],_,_,objs,nx=>(objs,nx)
 | .v _ _::ps,o,ids,objs,nx=>Waa ps o ids objs nx
 | .box t::ps,o,ids,objs,nx=>match ids with
  |k::ids=>
   let x:=unfold t o.1 nx
   Waa ps o.2 ids ((k.id,Wg6 (Wq objs k.id) k.off x.1)::(x.2.1++objs)) x.2.2
  | []=>(objs,nx)
 | .mut e::ps,o,ids,objs,nx=>match ids with
  |k::ids=>Waa ps o.2 ids ((k.id,.arr e o.1)::objs) nx
  | []=>(objs,nx)
 | .clos _ _::ps,o,ids,objs,nx=>Waa ps o ids objs nx
 | .kv t _::ps,o,ids,objs,nx=>Waa ps o.2 (ids.drop t.owns) (Wcj t o.1 ((ids.take t.owns).map Kp.id)++objs) nx
 | .rp _::ps,o,ids,objs,nx=>Waa ps o ids objs nx
 | .vj _::ps,o,ids,objs,nx=>Waa ps o ids objs nx
 | .boxal t _::ps,o,ids,objs,nx=>match ids with
  |k::ids=>
   let x:=unfold t o.1 nx
   Waa ps o.2 ids ((k.id,Wg6 (Wq objs k.id) k.off x.1)::(x.2.1++objs)) x.2.2
  | []=>(objs,nx)
def Wum(agg:Bool)(cs:List Cell):AV:=if agg then .agg cs else match cs with
 | [c]=>.one c
 |_=>.agg cs
def Wa7:(rs:List PTy)->Wgs rs->W9->Nat->List AV×W9×Nat
 | [],_,objs,nx=>([],objs,nx)
 | .v t agg::rs,d,objs,nx=>
  let x:=unfold t d.1 nx
  let y:=Wa7 rs d.2 (x.2.1++objs) x.2.2
  (Wum agg x.1::y.1,y.2)
 | .box t::rs,d,objs,nx=>
  let x:=unfold t d.1 (nx+1)
  let y:=Wa7 rs d.2 ((nx,.box x.1)::(x.2.1++objs)) x.2.2
  (.one (.ptr nx 0)::y.1,y.2)
 | .mut _::rs,d,objs,nx=>Wa7 rs d objs nx
 | .clos _ _::rs,d,objs,nx=>Wa7 rs d objs nx
 | .kv _ _::rs,d,objs,nx=>Wa7 rs d objs nx
 | .rp _::rs,d,objs,nx=>Wa7 rs d objs nx
 | .vj t::rs,d,objs,nx=>
  let x:=unfold t d.1 nx
  let y:=Wa7 rs d.2 (x.2.1++objs) x.2.2
  (.agg (x.1++ [.junk])::y.1,y.2)
 | .boxal _ _::rs,d,objs,nx=>Wa7 rs d objs nx
def Wuy:List AV->AVal
 | [x]=>.s x
 |xs=>.tup xs
structure Sig where
 ps:List PTy
 rs:List PTy
 fn:(R:Type)->We1 ps->(WfH ps×Wgs rs->Option R)->Option R
 run:We1 ps->Option (WfH ps×Wgs rs)
 law:∀(R:Type) (d:We1 ps) (k:WfH ps×Wgs rs->Option R),fn R d k=(run d).bind k
noncomputable def Sig.of(ps:List PTy)(rs:List PTy)(run:We1 ps->Option (WfH ps×Wgs rs)):Sig:=⟨ps,rs,λ_ d k=>(run d).bind k,run,λ_ _ _=>rfl⟩
theorem Sig.law'(s:Sig){R:Type}(d:We1 s.ps)(k:WfH s.ps×Wgs s.rs->Option R)(r:R)(h:s.fn R d k=some r):∃o,s.run d=some o/\k o=some r:=by
 rw[s.law]at h;cases hr:s.run d with
 |none=>simp_all
 |some o=>simp_all
def PTy.fresh:PTy->Bool
 | .v _ _=>true
 | .box t=>t.noRo
 | .mut e=>e.noRo
 | .clos _ _=>true
 | .kv t _=>t.noRo
 | .rp _=>true
 | .vj _=>true
 | .boxal t _=>t.noRo
def PTy.freshR:PTy->Bool
 | .v t _=>t.noRo
 | .box t=>t.noRo
 | .mut _=>true
 | .clos _ _=>true
 | .kv _ _=>true
 | .rp _=>true
 | .vj t=>t.noRo
 | .boxal _ _=>true
def Sig.fresh(s:Sig):Bool:=s.rs.all PTy.freshR&&s.ps.all PTy.fresh
abbrev Ctx:=List (FuncId×Sig)
def evs(st:St):List Operand->Option (List AVal)
 | []=>some []
 |o::l=>match ev st o,evs st l with
  |some x,some xs=>some (x::xs)
  |_,_=>none
abbrev KV(R:Type):=AVal->W9->Nat->Option R
def We5{R:Type}(sg:Sig)(st:St)(xs:List AVal)(k:KV R):Option R:=
 match W7 sg.ps xs st.objs with
 |some A=>
  if Wbe A.all&&WgG A.lent A.all&&(sg.fresh||A.lent.isEmpty)then
   sg.fn R A.d λo=>
    let p:=Waa sg.ps o.1 A.kept (kill st.objs A.moved) st.nx
    let q:=Wa7 sg.rs o.2 p.1 p.2
    k (Wuy q.1) q.2.1 q.2.2
  else none
 |none=>none
def Wkx(objs:W9)(ids:List Nat):Cell->Cell
 | .own id=>bif Wb4 id ids then(match Wq objs id with
  |some (.arr e xs)=>.val (.slice e.ro) (Wcm e xs)
  |_=>.junk)else .own id
 | .vw id lo hi=>.vw id lo hi
 | .val t d=>.val t d
 | .nils=>.nils
 | .aptr id=>.aptr id
 | .ptr id off=>.ptr id off
 | .eptr id i off=>.eptr id i off
 | .rptr t d off=>.rptr t d off
 | .clos f caps=>.clos f caps
 | .junk=>.junk
def WgS(objs:W9)(ids:List Nat):AVal->AVal
 | .s (.one c)=>.s (.one (Wkx objs ids c))
 | .s (.agg cs)=>.s (.agg (cs.map (Wkx objs ids)))
 | .tup xs=>.tup xs
def Wq9:Cell->List Nat
 | .own id=>[id]
 | .vw _ _ _=>[]
 | .val _ _=>[]
 | .nils=>[]
 | .aptr _=>[]
 | .ptr _ _=>[]
 | .eptr _ _ _=>[]
 | .rptr _ _ _=>[]
 | .clos _ _=>[]
 | .junk=>[]
def Wqp:AVal->List Nat
 | .s (.one c)=>Wq9 c
 | .s (.agg cs)=>cs.flatMap Wq9
 | .tup _=>[]
def Wr8:Ty->List Cell->List Nat
 | .prod a b,cs=>Wr8 a (cs.take a.size)++Wr8 b (cs.drop a.size)
 | .slice _,cs=>match cs with
  |c::_=>Wq9 c
  | []=>[]
 | .own _,_=>[]
 | .int _,_=>[]
 | .bool,_=>[]
 | .str,_=>[]
def Whj(e:Ty):AVal->List Nat
 | .s (.one c)=>Wr8 e [c]
 | .s (.agg cs)=>Wr8 e cs
 | .tup _=>[]
def WfF(objs:W9)(p v:AVal):List Nat:=match p with
 | .s (.one (.eptr id _ _))=>match Wq objs id with
  |some (.arr e _)=>bif e.data then Wqp v else Whj e v
  |_=>[]
 |_=>[]
def Wkj(ps:List (Nat×AVal)):List Nat:=ps.flatMap λp=>Wqp p.2
def WdP(objs:W9)(l:List Nat):W9:=kill objs l
def WkT(objs:W9)(ps:List (Nat×AVal)):List (Nat×AVal):=ps.map λp=>(p.1,WgS objs (Wkj ps) p.2)
def Wmd{R:Type}(sg:Sig)(st:St)(xs:List AVal)(k:KV R):Option R:=
 bif sg.fresh then We5 sg st xs k else match W7 sg.ps xs st.objs with
  |some A=>match A.lent with
   | []=>We5 sg st xs k
   |_=>We5 sg {env:=st.env,objs:=kill st.objs A.lent,nx:=st.nx} (xs.map (WgS st.objs A.lent)) k
  |none=>none
def St.new(st:St)(dst:Option Tmp)(ob:Ob)(x:AVal):St:=
 {env:=st.env,objs:=(st.nx,ob)::st.objs,nx:=st.nx+1:St}.put dst x
def St.turn(st:St)(id:Nat)(ob:Ob):St:={st with objs:=(id,ob)::st.objs}
def WgC:AVal->Option (List Cell)
 | .s (.one c)=>some [c]
 | .s (.agg cs)=>some cs
 | .tup _=>none
def WcF(T:Tab)(st:St)(t:TypeId)(x v:AVal):Option St:=
 match Wq T t,x,WgC v with
 |some te,.s (.one (.ptr id off)),some ds=>match Wq st.objs id with
  |some (.box cs)=>if decide (te.ty.size=ds.length)&&te.plain&&decide (off+ds.length<=cs.length)then some (st.turn id (.box (WdZ cs off ds)))else none
  |_=>none
 |some te,.s (.one (.eptr id i off)),some ds=>match Wq st.objs id with
  |some (.arr e xs)=>
   if decide (te.ty.size=ds.length)&&te.plain&&decide (off+ds.length<=e.size)&&e.data then
    match Waq e (WdZ (split e (xs.getD i e.dflt)) off ds) st.objs with
    |some (d,[],[])=>some (st.turn id (.arr e (xs.set i d)))
    |_=>none
   else if decide (te.ty.size=ds.length)&&te.plain&&decide (off=0)&&decide (ds.length=e.size)then
    match Waq e ds st.objs with
    |some (d,m,[])=>if Wbe (id::m)then some {env:=st.env,objs:=(id,.arr e (xs.set i d))::kill st.objs m,nx:=st.nx}else none
    |_=>none
   else none
  |_=>none
 |_,_,_=>none
def WtL(st:St)(e:Ty):AVal->Option (List e.den)
 | .s (.one (.val (.slice e') d))=>WfQ e' e d
 | .s (.one .nils)=>some []
 | .s (.one (.own id))=>match Wq st.objs id with
  |some (.arr e' xs)=>WfQ e' e xs
  |_=>none
 | .s (.one (.vw id lo hi))=>match Wq st.objs id with
  |some (.arr e' xs)=>(WfQ e' e xs).map λys=>(ys.take hi).drop lo
  |_=>none
 |_=>none
def Wsp(st:St)(e:Ty):AVal->Option (List e.den×List Nat)
 | .s (.one .nils)=>some ([],[])
 | .s (.one (.own id))=>match Wq st.objs id with
  |some (.arr e' xs)=>(WfQ e' e xs).map λys=>(ys,[id])
  |_=>none
 |_=>none
def Wu7(st:St):AVal->Option Ty
 | .s (.one (.own id))=>match Wq st.objs id with
  |some (.arr e _)=>some e
  |_=>none
 |_=>none
def Wea{R:Type}(st:St)(te:Ty)(s x:AVal)(k:KV R):Option R:=
 match s with
 | .s (.one .nils)=>match Wu7 st x with
  |some e=>if e.ro=te then match Wsp st e x with
    |some (l,m)=>bif Wz l.length then k (.s (.one (.own st.nx))) ((st.nx,.arr e l)::kill st.objs m) (st.nx+1)else none
    |none=>none
   else none
  |none=>none
 | .s (.one (.own id))=>match Wq st.objs id with
  |some (.arr e xs)=>if e.ro=te then match Wsp st e x with
    |some (l,m)=>if Wbe (id::m)then(bif Wz (xs.length+l.length)then k (.s (.one (.own st.nx))) ((st.nx,.arr e (Xg xs l))::kill st.objs (id::m)) (st.nx+1)else none)else none
    |none=>none
   else none
  |_=>none
 |_=>none
def WsT(st:St):AVal->AVal->Bool
 | .s (.one (.own id)),_=>match Wq st.objs id with
  |some (.arr e _)=>e.data
  |_=>true
 | .s (.one .nils),.s (.one (.own id))=>match Wq st.objs id with
  |some (.arr e _)=>e.data
  |_=>true
 |_,_=>true
def WdO{R:Type}(T:Tab)(st:St)(t t2:TypeId)(s x:AVal)(k:KV R):Option R:=
 match Wq T t,Wq T t2 with
 |some ⟨_,false,.slice et⟩,some _=>match Wq T et with
  |some te=>
   if t=t2/\te.plain/\te.ty.data then
    bif !WsT st s x then Wea st te.ty s x k else
    match s,WtL st te.ty x with
    | .s (.one .nils),some l=>bif Wz l.length then k (.s (.one (.own st.nx))) ((st.nx,.arr te.ty l)::st.objs) (st.nx+1)else none
    | .s (.one (.own id)),some l=>match Wq st.objs id with
     |some (.arr e xs)=>match Wmn (.own e) (.own te.ty) xs with
      |some ys=>bif Wz (Xb ys+l.length)then k (.s (.one (.own st.nx))) ((st.nx,.arr te.ty (Xg ys l))::(id,.dead)::st.objs) (st.nx+1)else none
      |none=>none
     |_=>none
    | .s (.one (.vw id 0 hi)),some l=>match Wq st.objs id with
     |some (.arr e xs)=>match Wmn (.own e) (.own te.ty) xs with
      |some ys=>bif Wz (hi+l.length)then k (.s (.one (.own st.nx))) ((st.nx,.arr te.ty (Xg (ys.take hi) l))::(id,.dead)::st.objs) (st.nx+1)else none
      |none=>none
     |_=>none
    |_,_=>none
   else none
  |none=>none
 |_,_=>none
def Wma(T:Tab)(fs:List (Nat×TypeId)):List (Nat×AVal)->List Cell->Option (List Cell)
 | [],cs=>some cs
 |(i,x)::ps,cs=>match fs[i]? with
  |some (off,ft)=>match Wq T ft,WgC x with
   |some te,some ds=>if decide (te.ty.size=ds.length)&&decide (off+ds.length<=cs.length)then Wma T fs ps (WdZ cs off ds)else none
   |_,_=>none
  |none=>none
def Wpa(e:Ty)(objs:W9):List (Nat×AVal)->List e.den->Option (List e.den)
 | [],xs=>some xs
 |(i,x)::ps,xs=>match WgC x with
  |some ds=>match Waq e ds objs with
   |some (d,[],[])=>if i<xs.length then Wpa e objs ps (xs.set i d)else none
   |_=>none
  |none=>none
def Wci(st:St):List (Nat×Operand)->Option (List (Nat×AVal))
 | []=>some []
 |(i,o)::l=>match ev st o,Wci st l with
  |some x,some xs=>some ((i,x)::xs)
  |_,_=>none
inductive An where
 |nest (e:Ty)
 |view
 |opn
def WuF(A:List (Nat×An))(o:Oper):Option An:=match o.dst with
 |some d=>Wq A d
 |none=>none
def Wdf{R:Type}(st:St)(e:Ty)(ps:List (Nat×AVal))(k:KV R):Option R:=
 match ps with
 | [p]=>if p.1=0 then match WgC (WgS st.objs (Whj e p.2) p.2)with
  |some ds=>match Waq e ds (WdP st.objs (Whj e p.2))with
   |some (d,m,[])=>if Wbe m then k (.s (.one (.own st.nx))) ((st.nx,.arr e [d])::kill (WdP st.objs (Whj e p.2)) m) (st.nx+1)else none
   |_=>none
  |none=>none
  else none
 |_=>none
def We9{R:Type}(st:St)(te:Ty)(id:Nat)(l h:Option Int)(k:KV R):Option R:=
 match Wq st.objs id with
 |some (.arr e xs)=>if te=e.ro then bif (Wcx (Xb xs) l h).1 then k (.s (.one (.vw id (Wcx (Xb xs) l h).2.1 (Wcx (Xb xs) l h).2.2))) st.objs st.nx else none else none
 |_=>none
def Wrb(o:Option Ob)(n:Nat):Bool:=match o with
 |some (.box cs)=>Xbk cs.length n
 |_=>false
def rxe{R:Type}(T:Tab)(Γ:Ctx)(A:List (Nat×An))(o:Oper)(st:St)(k:KV R):Option R:=
 match o.op with
 | .alloc t=>match Wq T t with
  |some ⟨e,true,.arr n _⟩=>if e.data&&Wz n then k (.s (.one (.aptr st.nx))) ((st.nx,.arr e (Xp n e.dflt))::st.objs) (st.nx+1)else none
  |some te=>if te.plain then k (.s (.one (.ptr st.nx 0))) ((st.nx,.box (Wen te.ty))::st.objs) (st.nx+1)else none
  |none=>none
 | .box t x=>match Wq T t,(ev st x).bind WgC with
  |some _,some cs=>k (.s (.one (.ptr st.nx 0))) ((st.nx,.box cs)::st.objs) (st.nx+1)
  |_,_=>none
 | .build t parts=>match Wq T t,Wci st parts.toList with
  |some ⟨ty,true,.struct fs⟩,some ps=>
   if fs.all (λf=>match Wq T f.2 with|some te=>te.plain|none=>false)then
    match Wma T fs ps (Wen ty)with
    |some cs=>k (.s (.agg cs)) st.objs st.nx
    |none=>none
   else none
  |_,_=>none
 | .buildSlice t n parts=>match Wq T t,Wci st parts.toList with
  |some ⟨_,false,.slice et⟩,some ps=>match Wq T et with
   |some te=>match WuF A o with
    |some (.nest e)=>if decide (n=1)&&decide (e.ro=te.ty)&&te.plain&&decide (te.ty.size<=16777216)then Wdf st e ps k else none
    |_=>match Wpa te.ty (WdP st.objs (Wkj ps)) (WkT st.objs ps) (Xp n te.ty.dflt)with
    |some xs=>if decide (n*te.ty.size<=16777216)&&te.ty.data&&te.plain then k (.s (.one (.own st.nx))) ((st.nx,.arr te.ty xs)::WdP st.objs (Wkj ps)) (st.nx+1)else none
    |none=>none
   |none=>none
  |_,_=>none
 | .makeSlice t n c=>match Wq T t,(ev st n).bind asI,(ev st c).bind asI with
  |some ⟨_,false,.slice et⟩,some n',some c'=>match Wq T et with
   |some te=>match WuF A o with
    |some (.nest e)=>if decide (e.ro=te.ty)&&te.plain then(bif decide (0<=n')&&decide (n'<=c')&&Wz c'.toNat then k (.s (.one (.own st.nx))) ((st.nx,.arr e (Xp n'.toNat e.dflt))::st.objs) (st.nx+1)else none)else none
    |_=>if te.ty.data&&te.plain then(bif decide (0<=n')&&decide (n'<=c')&&Wz c'.toNat then k (.s (.one (.own st.nx))) ((st.nx,.arr te.ty (Xp n'.toNat te.ty.dflt))::st.objs) (st.nx+1)else none)else none
   |none=>none
  |_,_,_=>none
 | .store t a x=>match ev st a,ev st x with
  |some p,some v=>match WcF T {env:=st.env,objs:=WdP st.objs (WfF st.objs p v),nx:=st.nx} t p (WgS st.objs (WfF st.objs p v) v)with
   |some af=>match o.dst with
    |none=>k (.tup []) af.objs af.nx
    |some _=>none
   |none=>none
  |_,_=>none
 | .slice t x lo hi none=>match ev st x with
  |some (.s (.one (.own id)))=>match Wq T t,Wlh st lo,Wlh st hi with
   |some ⟨_,false,.slice et⟩,some l,some h=>match Wq T et with
    |some te=>match WuF A o with
     |some .view=>if te.plain then We9 st te.ty id l h k else none
     |_=>match l,h,Wq st.objs id with
      |none,some h,some (.arr e xs)=>if te.ty=e.ro/\te.plain then(bif decide (0<=h)&&decide (h<=(xs.length:Int))then k (.s (.one (.own st.nx))) ((st.nx,.arr e (xs.take h.toNat))::(id,.dead)::st.objs) (st.nx+1)else none)else none
      |none,some h,some (.hole e xs i p)=>if te.ty=e.ro/\te.plain/\Wrb (Wq st.objs p) e.size then(bif decide (0<=h)&&decide (h<=(xs.length:Int))&&decide (h<=(i:Int))then k (.s (.one (.own st.nx))) ((st.nx,.arr e (xs.take h.toNat))::(id,.dead)::(p,.dead)::st.objs) (st.nx+1)else none)else none
      |_,_,_=>none
    |none=>none
   |_,_,_=>none
  |_=>match Wac T st o.op with
   |some (c,v)=>bif c then k v st.objs st.nx else none
   |none=>none
 | .call c=>match c.callee,c.args.toList,c.argTypes.toList with
  | .builtin .append,[s,x],[t,t2]=>match ev st s,ev st x with
   |some sv,some xv=>WdO T st t t2 sv xv k
   |_,_=>none
  | .builtin .clear,[x],[t]=>match ev st x with
   |some (.s (.one (.vw id lo hi)))=>match Wq T t,Wq st.objs id with
    |some ⟨_,false,.slice et⟩,some (.arr e xs)=>match Wq T et with
     |some te=>if te.ty=e/\te.plain/\e.data then k (.tup []) ((id,.arr e (xs.take lo++Xp (hi-lo) e.dflt++xs.drop hi))::st.objs) st.nx else none
     |none=>none
    |_,_=>none
   |_=>none
  | .builtin _,_,_=>match Wac T st o.op with
   |some (c,v)=>bif c then k v st.objs st.nx else none
   |none=>none
  | .value f,args,_=>match ev st f,evs st args with
   |some (.s (.one (.clos g caps))),some xs=>match Wq Γ g with
    |some sg=>Wmd sg st (xs++WjX caps) k
    |none=>none
   |_,_=>none
  |_,_,_=>none
 |op=>match Wac T st op with
  |some (c,v)=>bif c then k v st.objs st.nx else none
  |none=>none
def rx1{R:Type}(T:Tab)(Γ:Ctx)(A:List (Nat×An))(o:Oper)(st:St)(k:St->Option R):Option R:=
 rxe T Γ A o st λx objs nx=>k (({env:=st.env,objs:=objs,nx:=nx}:St).put o.dst x)
def rxg{R:Type}(T:Tab)(Γ:Ctx)(A:List (Nat×An))(ops:Array Oper)(o:Oper)(st:St)(k:St->Option R):Option R:=
 match o.guard with
 |none=>rx1 T Γ A o st k
 |some (j,want)=>match(ops[j]?).bind (·.dst)with
  |some t=>match Wq st.env t with
   |some (.tup [])=>k (st.put o.dst (.tup []))
   |some x=>match asB x with
    |some b=>bif b
     then(if want then rx1 T Γ A o (st.put (some t) (one .bool true)) k else k ((st.put (some t) (one .bool true)).put o.dst (.tup [])))
     else(if want then k ((st.put (some t) (one .bool false)).put o.dst (.tup []))else rx1 T Γ A o (st.put (some t) (one .bool false)) k)
    |none=>none
   |none=>none
  |none=>none
inductive Ex where
 |normal|exit (id:Nat)|ret
def WmX{R:Type}(f:St->(Ex->St->Option R)->Option R):Nat->St->(Ex->St->Option R)->Option R
 |0,_,_=>none
 |n+1,st,k=>f st λe af=>match e with
  | .normal=>WmX f n af k
  | .exit id=>k (.exit id) af
  | .ret=>k .ret af
inductive Ghost where
 |canon (slots:List Nat)
 |adopt (slot:Nat) (e:Ty)
 |freeze (slot:Nat)
 |adoptC (slot off:Nat) (e:Ty)
 |freezeC (slot off:Nat)
 |nest (dst:Nat) (e:Ty)
 |view (dst:Nat)
 |opn (dst:Nat)
 |unfE (slot:Nat)
 |unfS (slot:Nat) (ix:Option Nat)
 |unfC (slot off:Nat) (ix:Option Nat)
 |empt (slot:Nat) (e:Ty)
 |refold (slot:Nat)
 |solo (slot:Nat)
 |soloC (slot off:Nat)
def WmN:List Ghost->List (Nat×An)
 | []=>[]
 | .nest d e::l=>(d,.nest e)::WmN l
 | .view d::l=>(d,.view)::WmN l
 | .opn d::l=>(d,.opn)::WmN l
 | .canon _::l=>WmN l
 | .adopt _ _::l=>WmN l
 | .freeze _::l=>WmN l
 | .adoptC _ _ _::l=>WmN l
 | .freezeC _ _::l=>WmN l
 | .unfE _::l=>WmN l
 | .unfS _ _::l=>WmN l
 | .unfC _ _ _::l=>WmN l
 | .refold _::l=>WmN l
 | .empt _ _::l=>WmN l
 | .solo _::l=>WmN l
 | .soloC _ _::l=>WmN l
def WaX:Cell->List Nat
 | .own id| .aptr id| .ptr id _| .eptr id _ _| .vw id _ _=>[id]
 | .clos _ caps=>caps
 |_=>[]
def WeZ:AV->List Nat
 | .one c=>WaX c
 | .agg cs=>cs.flatMap WaX
def WaN:AVal->List Nat
 | .s x=>WeZ x
 | .tup xs=>xs.flatMap WeZ
def Wk1:Nat->List Nat->List Nat->W9->List Nat
 |0,_,acc,_=>acc
 |n+1,todo,acc,objs=>match todo with
  | []=>acc
  |i::l=>if Wb4 i acc then Wk1 n l acc objs else
   match Wq objs i with
   |some (.box cs)=>Wk1 n (l++cs.flatMap WaX) (acc++ [i]) objs
   |some (.arr _ _)=>Wk1 n l (acc++ [i]) objs
   |some (.hole _ _ _ p)=>Wk1 n (l++ [p]) (acc++ [i]) objs
   |_=>Wk1 n l acc objs
def WqT(i:Nat):List Nat->Option Nat
 | []=>none
 |j::l=>if Xbk i j then some 0 else(WqT i l).map (· +1)
def Wmi(m:List Nat):List Nat->Option (List Nat)
 | []=>some []
 |i::l=>match WqT i m,Wmi m l with
  |some j,some r=>some (j::r)
  |_,_=>none
def WcE(m:List Nat):Cell->Cell
 | .own id=>match WqT id m with|some j=>.own j|none=>.junk
 | .vw id lo hi=>match WqT id m with|some j=>.vw j lo hi|none=>.junk
 | .aptr id=>match WqT id m with|some j=>.aptr j|none=>.junk
 | .ptr id off=>match WqT id m with|some j=>.ptr j off|none=>.junk
 | .eptr id i off=>match WqT id m with|some j=>.eptr j i off|none=>.junk
 | .clos f caps=>match Wmi m caps with|some js=>.clos f js|none=>.junk
 | .val t d=>.val t d
 | .nils=>.nils
 | .rptr t d off=>.rptr t d off
 | .junk=>.junk
def WtB(m:List Nat):AV->AV
 | .one c=>.one (WcE m c)
 | .agg cs=>.agg (cs.map (WcE m))
def Wm0(m:List Nat):AVal->AVal
 | .s x=>.s (WtB m x)
 | .tup xs=>.tup (xs.map (WtB m))
def WqE(m:List Nat):Ob->Ob
 | .box cs=>.box (cs.map (WcE m))
 | .arr e xs=>.arr e xs
 | .hole e xs i p=>match WqT p m with|some j=>.hole e xs i j|none=>.dead
 | .dead=>.dead
def Wfk(env:List (Nat×AVal)):List Nat->List (Nat×AVal)
 | []=>[]
 |i::l=>match Wq env i with
  |some x=>(i,x)::Wfk env l
  |none=>Wfk env l
def WdD(m:List Nat)(objs:W9):Nat->List Nat->W9
 |_,[]=>[]
 |j,i::l=>match Wq objs i with
  |some ob=>(j,WqE m ob)::WdD m objs (j+1) l
  |none=>WdD m objs (j+1) l
def canon(slots:List Nat)(st:St):St:=
 let env:=Wfk st.env slots
 let m:=Wk1 400 (env.flatMap λp=>WaN p.2) [] st.objs
 {env:=env.map λp=>(p.1,Wm0 m p.2),objs:=WdD m st.objs 0 m,nx:=m.length}
def Wl5(st:St)(r i:Nat):Option St:=
 match Wq st.objs r with
 |some (.arr e xs)=>
  let x:=unfold e (xs.getD i e.dflt) (st.nx+1)
  some {env:=st.env,objs:=(r,.hole e xs i st.nx)::(st.nx,.box x.1)::(x.2.1++st.objs),nx:=x.2.2}
 |_=>none
def Wte(st:St)(r:Nat):Option Nat->Option (Bool×Nat)
 |none=>match Wq st.objs r with
  |some (.arr _ xs)=>some (inb (WV .i64 (Wh xs) 1) (Xb xs),(WV .i64 (Wh xs) 1).toNat)
  |_=>none
 |some s=>match Wq st.objs r,(Wq st.env s).bind asI with
  |some (.arr _ xs),some n=>some (inb n (Xb xs),n.toNat)
  |_,_=>none
def WoA(st:St)(r:Nat)(ix:Option Nat):Option (Bool×St):=
 match Wte st r ix with
 |some (c,i)=>(Wl5 st r i).map λaf=>(c,af)
 |none=>none
def Wl1(p:Nat):W9->Option Nat
 | []=>none
 |(r,.hole _ _ _ p')::l=>if Xbk p p' then some r else Wl1 p l
 |(_,.box _)::l=>Wl1 p l
 |(_,.arr _ _)::l=>Wl1 p l
 |(_,.dead)::l=>Wl1 p l
def Wna(st:St)(p:Nat):Option St:=
 match Wl1 p st.objs with
 |some r=>match Wq st.objs r,Wq st.objs p with
  |some (.hole e xs i p'),some (.box cs)=>match Waq e cs st.objs with
   |some (d,m,[])=>if Xbk p p'&&Wbe (r::p::m)then some {env:=st.env,objs:=(r,.arr e (xs.set i d))::kill st.objs (p::m),nx:=st.nx}else none
   |_=>none
  |_,_=>none
 |none=>none
def WfA(g:Ghost)(st:St):Option (Bool×St):=
 match g with
 | .canon slots=>some (true,canon slots st)
 | .adopt slot e=>match Wq st.env slot with
  |some (.s (.one .nils))=>some (true,st.new (some slot) (.arr e []) (.s (.one (.own st.nx))))
  |some (.s (.one (.own _)))=>some (true,st)
  |_=>none
 | .freeze slot=>match Wq st.env slot with
  |some (.s (.one (.own id)))=>match Wq st.objs id with
   |some (.arr e xs)=>some (true,(st.turn id .dead).put (some slot) (one (.slice e.ro) (Wcm e xs)))
   |_=>none
  |_=>none
 | .adoptC slot off e=>match Wq st.env slot with
  |some (.s (.one (.ptr id 0)))=>match Wq st.objs id with
   |some (.box cs)=>match cs[off]? with
    |some .nils=>some (true,{env:=st.env,objs:=(id,.box (cs.set off (.own st.nx)))::(st.nx,.arr e [])::st.objs,nx:=st.nx+1})
    |some (.own _)=>some (true,st)
    |_=>none
   |_=>none
  |_=>none
 | .freezeC slot off=>match Wq st.env slot with
  |some (.s (.one (.ptr id 0)))=>match Wq st.objs id with
   |some (.box cs)=>match cs[off]? with
    |some (.own j)=>match Wq st.objs j with
     |some (.arr e xs)=>some (true,{st with objs:=(id,.box (cs.set off (.val (.slice e.ro) (Wcm e xs))))::(j,.dead)::st.objs})
     |_=>none
    |some (.val _ _)=>some (true,st)
    |some .nils=>some (true,st)
    |_=>none
   |_=>none
  |_=>none
 | .nest _ _=>some (true,st)
 | .view _=>some (true,st)
 | .opn _=>some (true,st)
 | .unfE slot=>match Wq st.env slot with
  |some (.s (.one (.eptr r i 0)))=>(Wl5 st r i).map λaf=>(true,af.put (some slot) (.s (.one (.ptr st.nx 0))))
  |_=>none
 | .unfS slot ix=>match Wq st.env slot with
  |some (.s (.one (.own r)))=>WoA st r ix
  |_=>none
 | .unfC slot off ix=>match Wq st.env slot with
  |some (.s (.one (.ptr id o)))=>match Wq st.objs id with
   |some (.box cs)=>match cs[o+off]? with
    |some (.own r)=>WoA st r ix
    |_=>none
   |_=>none
  |_=>none
 | .refold slot=>match Wq st.env slot with
  |some (.s (.one (.ptr p _)))=>(Wna st p).map λaf=>(true,af)
  |_=>none
 | .empt slot e=>match Wq st.env slot with
  |some (.s (.one (.own id)))=>match Wq st.objs id with
   |some (.arr e' [])=>if e.size=e'.size/\e.ro=e'.ro then some (true,st.turn id (.arr e []))else none
   |_=>none
  |_=>none
 | .solo slot=>match Wq st.env slot with
  |some (.s (.one (.vw id lo hi)))=>match Wq st.objs id with
   |some (.arr e xs)=>some (true,(st.turn id .dead).new (some slot) (.arr e ((xs.take hi).drop lo)) (.s (.one (.own st.nx))))
   |_=>none
  |some (.s (.one (.own _)))=>some (true,st)
  |_=>none
 | .soloC slot off=>match Wq st.env slot with
  |some (.s (.one (.ptr id o)))=>match Wq st.objs id with
   |some (.box cs)=>match cs[o+off]? with
    |some (.vw j lo hi)=>match Wq st.objs j with
     |some (.arr e xs)=>some (true,{env:=st.env,objs:=(id,.box (cs.set (o+off) (.own st.nx)))::(st.nx,.arr e ((xs.take hi).drop lo))::(j,.dead)::st.objs,nx:=st.nx+1})
     |_=>none
    |some (.own _)=>some (true,st)
    |_=>none
   |_=>none
  |_=>none
def WdX:List Ghost->St->Option (Bool×St)
 | [],st=>some (true,st)
 |g::l,st=>match WfA g st with
  |some (c,af)=>match WdX l af with
   |some (c',co)=>some (c&&c',co)
   |none=>none
  |none=>none
def opG(A:List (Nat×An))(o:Oper)(st:St):Option (Bool×St):=match WuF A o,o.dst with
 |some .opn,some d=>match Wq st.env d with
  |some (.tup [])=>some (true,st)
  |_=>WfA (.unfE d) st
 |some .view,_=>some (true,st)
 |some (.nest _),_=>some (true,st)
 |none,_=>some (true,st)
 |some .opn,none=>some (true,st)
def rxs{R:Type}(T:Tab)(Γ:Ctx)(A:List (Nat×An))(ops:Array Oper):List Oper->St->(St->Option R)->Option R
 | [],st,k=>k st
 |o::l,st,k=>rxg T Γ A ops o st λaf=>match opG A o af with
  |some (c,co)=>bif c then rxs T Γ A ops l co k else none
  |none=>none
def Wfv:Code->Option Nat
 | .region id _ _=>some id
 | .seq a b=>match Wfv a with
  |some i=>some i
  |none=>Wfv b
 | .cond _ a b=>match Wfv a with
  |some i=>some i
  |none=>Wfv b
 | .block _ c=>Wfv c
 | .loop c=>(Wfv c).map (· +100000)
 |_=>none
def Wfl(c:Code):Nat:=match Wfv c with
 |some i=>i+100000
 |none=>99999
def WjH{R:Type}(gs:List Ghost)(f:St->(Ex->St->Option R)->Option R)(st:St)(k:Ex->St->Option R):Option R:=
 f st λe af=>match e with
  | .normal=>match WdX gs af with
   |some (c,co)=>bif c then k .normal co else none
   |none=>none
  | .exit id=>k (.exit id) af
  | .ret=>k .ret af
def W8:Op->List Operand
 | .move x| .assign x| .box _ x| .load _ x| .nilCheck x| .unOp _ _ x| .convert _ _ x| .fieldAddr _ x _| .field _ x _| .extract x _=>[x]
 | .pick c a b=>[c,a,b]
 | .build _ ps| .buildSlice _ _ ps=>ps.toList.map (·.2)
 | .store _ a v| .binOp _ _ a v _| .makeSlice _ a v| .indexAddr _ a v| .index _ a v=>[a,v]
 | .makeFunc _ first captured=>first.toList++captured.toList
 | .slice _ x l h m=>x::(l.toList++(h.toList++m.toList))
 | .call c=>(match c.callee with| .value f=>[f]|_=>[])++c.args.toList
 |_=>[]
def WaI(o:Oper):Bool:=match o.op with
 | .alloc _| .box _ _| .buildSlice _ _ _| .makeSlice _ _ _| .store _ _ _| .slice _ _ _ _ _=>true
 | .call c=>match c.callee with
  | .builtin .append=>true
  | .builtin .clear=>true
  | .builtin _=>false
  |_=>true
 |_=>false
def WtZ:Op->Bool
 | .load _ _| .nilCheck _| .binOp _ _ _ _ _| .convert _ _ _| .fieldAddr _ _ _| .indexAddr _ _ _| .call _=>true
 |_=>false
def Wef(st:St):List Operand->List Nat
 | []=>[]
 |x::l=>match ev st x with
  |some v=>WaN v++Wef st l
  |none=>Wef st l
def WcJ(o:Oper)(st:St):List Nat:=bif WtZ o.op then Wef st (W8 o.op)else []
def WgU(l:W9):List Nat:=l.map (·.1)
def Wry(a b:W9):List Nat:=WgU (b.take (b.length-a.length))
def WuE(x:Nat)(l:List Nat):List Nat:=bif Wb4 x l then l else x::l
def WlI:List Nat->List Nat->List Nat
 | [],l=>l
 |x::m,l=>WlI m (WuE x l)
def Wmc(o:Oper):List Nat:=(o.after.toList.filter (Region.binds .any)).map (·.on)
def Wkv(acc:List (List Nat)):List Nat->List Nat->List Nat
 | [],l=>l
 |j::ds,l=>Wkv acc ds (WlI (acc.getD j []) (WuE j l))
def Wei:List Oper->List (List Nat)->List (List Nat)
 | [],acc=>acc
 |o::l,acc=>Wei l (acc++ [Wkv acc (Wmc o) []])
def WcN(B:List (List Nat))(j i:Nat):Bool:=Wb4 j (B.getD i [])
def WrV:List Oper->Nat->Bool
 | [],_=>true
 |o::l,n=>(Wmc o).all (λd=>Xgd d n)&&WrV l (n+1)
def WrJ:Operand->List Nat
 | .tmp t=>[t]
 |_=>[]
def Wde(ops:Array Oper)(o:Oper):List Nat:=(W8 o.op).flatMap WrJ++(match o.guard with
 |some (j,_)=>((ops[j]?).bind (·.dst)).toList
 |none=>[])
def Whb:List Oper->Nat->List (Nat×Nat)
 | [],_=>[]
 |o::l,i=>match o.dst with
  |some d=>(d,i)::Whb l (i+1)
  |none=>Whb l (i+1)
def Wkn(ops:Array Oper)(B:List (List Nat))(D:List (Nat×Nat)):List Oper->Nat->Bool
 | [],_=>true
 |o::l,i=>(Wde ops o).all (λt=>D.all λp=>!Xbk p.1 t||Xbk p.2 i||WcN B p.2 i||WcN B i p.2)&&Wkn ops B D l (i+1)
def Wtq(ops:Array Oper)(B:List (List Nat)):Bool:=
 WrV ops.toList 0&&Wbe ((Whb ops.toList 0).map (·.1))&&Wkn ops B (Whb ops.toList 0) ops.toList 0
def Wg5:List Oper->Nat->List Nat
 | [],_=>[]
 |o::l,i=>bif WaI o then i::Wg5 l (i+1)else Wg5 l (i+1)
def Wt3(B:List (List Nat)):Nat->List Nat->List (List Nat)
 |0,_=>[[]]
 |n+1,rem=>match rem with
  | []=>[[]]
  |_=>(rem.filter λm=>rem.all λm'=>!WcN B m' m).flatMap λm=>(Wt3 B n (rem.filter λx=>!Xbk x m)).map (m:: ·)
def Ws7(ops:List Oper)(B:List (List Nat))(done:List Nat)(σ:List Nat):Nat->Option Nat:=λi=>match ops with
 | []=>none
 |o::l=>bif !Wb4 i done&&(B.getD i []).all (λj=>Wb4 j done)&&(!WaI o||(match σ with|m::_=>Xbk m i| []=>false))then some i else Ws7 l B done σ (i+1)
def WkW(ops:List Oper)(B:List (List Nat)):Nat->List Nat->List Nat->List Nat
 |0,_,_=>[]
 |n+1,done,σ=>match Ws7 ops B done σ 0 with
  |some i=>i::WkW ops B n (i::done) (match σ with|m::σ'=>bif Xbk m i then σ' else σ| []=>[])
  |none=>[]
def WiT(ops:Array Oper):List Nat->List Nat->Bool
 | [],done=>Xbk done.length ops.size
 |i::l,done=>!Wb4 i done&&(match ops[i]? with|some o=>(Wmc o).all (λd=>Wb4 d done)|none=>false)&&WiT ops l (i::done)
def WfS{α:Type}:List Nat->(List Nat->α)->α
 | [],k=>k []
 |x::l,k=>WfS l λl'=>k (x::l')
def Woj{α:Type}:List (List Nat)->(List (List Nat)->α)->α
 | [],k=>k []
 |x::l,k=>WfS x λx'=>Woj l λl'=>k (x'::l')
def rdx{R:Type}(T:Tab)(Γ:Ctx)(A:List (Nat×An))(ops:Array Oper)(B:List (List Nat)):List Nat->List (Nat×List Nat)->List (Nat×List Nat)->St->(St->Option R)->Option R
 | [],_,_,st,k=>k st
 |i::l,fl,mu,st,k=>match ops[i]? with
  |some o=>bif WaI o
   then rxg T Γ A ops o st λaf=>WfS (Wry st.objs af.objs) λids=>
    bif fl.all (λp=>WcN B p.1 i||WgG p.2 ids)then rdx T Γ A ops B l fl ((i,ids)::mu) af k else none
   else WfS (WcJ o st) λids=>
    bif mu.all (λp=>WcN B p.1 i||WgG ids p.2)then rxg T Γ A ops o st λaf=>rdx T Γ A ops B l ((i,ids)::fl) mu af k else none
  |none=>none
def Ws{α β:Type}(x:α)(f:α->β):β:=f x
open Classical in
noncomputable def WbJ{α:Type}(a b:Option α):Option α:=if a=b then a else none
noncomputable def Wuw{R:Type}(T:Tab)(Γ:Ctx)(A:List (Nat×An))(ops:Array Oper)(B:List (List Nat))(st:St)(k:St->Option R):List (List Nat)->Option R
 | []=>none
 |σ::l=>
  let a:=WfS (WkW ops.toList B ops.size [] σ) λL=>bif WiT ops L []&&eqN (L.filter λi=>Wb4 i σ) σ then rdx T Γ A ops B L [] [] st k else none
  match l with
  | []=>a
  |_=>WbJ a (Wuw T Γ A ops B st k l)
noncomputable def WtD{R:Type}(T:Tab)(Γ:Ctx)(A:List (Nat×An))(ops:Array Oper)(st:St)(k:St->Option R):Option R:=
 Woj (Wei ops.toList []) λB=>bif Wtq ops B then Wuw T Γ A ops B st k (Wt3 B ops.size (Wg5 ops.toList 0))else none
noncomputable def sx{R:Type}(T:Tab)(Γ:Ctx)(ann:Nat->List Ghost)(N:Nat):Code->St->(Ex->St->Option R)->Option R
 | .skip,st,k=>k .normal st
 | .region id ops draw,st,k=>
  bif draw then WtD T Γ (WmN (ann id)) ops st λaf=>match WdX (ann id) af with
   |some (c,co)=>bif c then k .normal co else none
   |none=>none
  else rxs T Γ (WmN (ann id)) ops ops.toList st λaf=>match WdX (ann id) af with
   |some (c,co)=>bif c then k .normal co else none
   |none=>none
 | .seq a b,st,k=>sx T Γ ann N a st λe af=>match e with
  | .normal=>sx T Γ ann N b af k
  | .exit id=>k (.exit id) af
  | .ret=>k .ret af
 | .cond c x y,st,k=>match(ev st c).bind asB with
  |some b=>bif b then sx T Γ ann N x st k else sx T Γ ann N y st k
  |none=>none
 | .block id c,st,k=>sx T Γ ann N c st λe af=>match e with
  | .exit bN=>if bN=id then k .normal af else k (.exit bN) af
  | .normal=>k .normal af
  | .ret=>k .ret af
 | .loop c,st,k=>match WdX (ann (Wfl c)) st with
  |some (b,af)=>bif b then WmX (WjH (ann (Wfl c)) λst k=>sx T Γ ann N c st k) N af k else none
  |none=>none
 | .exit id,st,k=>k (.exit id) st
 | .ret,st,k=>k .ret st
 |_,_,_=>none
def WrK:List AVal->List Nat
 | []=>[]
 | .s (.one (.ptr id 0))::l=>id::WrK l
 |_::l=>WrK l
def WP:(ps:List PTy)->We1 ps->W9->Nat->List AVal×W9×Nat
 | [],_,objs,nx=>([],objs,nx)
 | .v t agg::ps,d,objs,nx=>
  let x:=unfold t d.1 nx
  let y:=WP ps d.2 (x.2.1++objs) x.2.2
  (.s (Wum agg x.1)::y.1,y.2)
 | .box t::ps,d,objs,nx=>
  let x:=unfold t d.1 (nx+1)
  let y:=WP ps d.2 ((nx,.box x.1)::(x.2.1++objs)) x.2.2
  (.s (.one (.ptr nx 0))::y.1,y.2)
 | .mut e::ps,d,objs,nx=>
  let y:=WP ps d.2 ((nx,.arr e d.1)::objs) (nx+1)
  (.s (.one (.own nx))::y.1,y.2)
 | .clos g n::ps,d,objs,nx=>
  let y:=WP ps d objs nx
  (.s (.one (.clos g (WrK (y.1.take n))))::y.1.drop n,y.2)
 | .kv t agg::ps,d,objs,nx=>
  let x:=unfold t d.1 nx
  let y:=WP ps d.2 (x.2.1++objs) x.2.2
  (.s (Wum agg x.1)::y.1,y.2)
 | .rp t::ps,d,objs,nx=>
  let y:=WP ps d.2 objs nx
  (.s (.one (.rptr t d.1 0))::y.1,y.2)
 | .vj _::ps,d,objs,nx=>
  let y:=WP ps d objs nx
  (.tup []::y.1,y.2)
 | .boxal t lf::ps,d,objs,nx=>
  let x:=unfold t d.1 (nx+1)
  let y:=WP ps d.2.2 ((nx,.box x.1)::(x.2.1++objs)) x.2.2
  (.s (.one (.ptr nx 0)):: .s (.one (.eptr (nx+1+lf) d.2.1 0))::y.1,y.2)
def WgL:Nat->List AVal->List (Nat×AVal)
 |_,[]=>[]
 |i,x::xs=>(i,x)::WgL (i+1) xs
def Wet(T:Tab)(st:St):List ResultVar->Option (List AVal)
 | []=>some []
 | .tmp t::rs=>match Wq st.env t,Wet T st rs with
  |some x,some xs=>some (x::xs)
  |_,_=>none
 | .cell a t::rs=>match(Wq st.env a).bind (WgX T st t),Wet T st rs with
  |some x,some xs=>some (x::xs)
  |_,_=>none
structure Outs(α:Type) where
 d:α
 moved:List Nat
 lent:List Nat
def WaU:(rs:List PTy)->List AVal->W9->Option (Outs (Wgs rs))
 | [],xs,_=>match xs with
  | []=>some ⟨(),[],[]⟩
  |_=>none
 | .v t agg::rs,xs,objs=>match xs with
  |x::xs=>match(cellsOf agg x).bind λcs=>Waq t cs objs,WaU rs xs objs with
   |some (d,m,l),some A=>some ⟨(d,A.d),m++A.moved,l++A.lent⟩
   |_,_=>none
  |_=>none
 | .box t::rs,xs,objs=>match xs with
  | .s (.one (.ptr id 0))::xs=>match Wq objs id with
   |some (.box cs)=>match Waq t cs objs,WaU rs xs objs with
    |some (d,m,l),some A=>some ⟨(d,A.d),id::(m++A.moved),l++A.lent⟩
    |_,_=>none
   |_=>none
  |_=>none
 | .mut _::_,_,_=>none
 | .clos _ _::_,_,_=>none
 | .kv _ _::_,_,_=>none
 | .rp _::_,_,_=>none
 | .vj t::rs,xs,objs=>match xs with
  | .s (.agg cs)::xs=>if cs.length=t.size+1 then(match Waq t (cs.take t.size) objs,WaU rs xs objs with
   |some (d,m,l),some A=>some ⟨(d,A.d),m++A.moved,l++A.lent⟩
   |_,_=>none)else none
  |_=>none
 | .boxal _ _::_,_,_=>none
structure OutK(α:Type) where
 d:α
 kept:List Nat
 moved:List Nat
 lent:List Nat
def WA:List PTy->Nat->Nat->St->List AVal
 | [],_,_,_=>[]
 |_::ps,i,k+1,st=>WA ps i k st
 | .v _ _::ps,i,0,st=>.tup []::WA ps (i+1) 0 st
 | .box _::ps,i,0,st=>(Wq st.env i).getD (.tup [])::WA ps (i+1) 0 st
 | .mut _::ps,i,0,st=>(Wq st.env i).getD (.tup [])::WA ps (i+1) 0 st
 | .clos _ n::ps,i,0,st=>(Wq st.env i).getD (.tup [])::WA ps (i+1) n st
 | .kv _ _::ps,i,0,st=>(Wq st.env i).getD (.tup [])::WA ps (i+1) 0 st
 | .rp _::ps,i,0,st=>.tup []::WA ps (i+1) 0 st
 | .vj _::ps,i,0,st=>.tup []::WA ps (i+1) 0 st
 | .boxal _ _::ps,i,0,st=>(Wq st.env i).getD (.tup []):: .tup []::WA ps (i+2) 0 st
def WZ:(ps:List PTy)->List AVal->W9->Option (OutK (WfH ps))
 | [],_,_=>some ⟨(),[],[],[]⟩
 | .v _ _::ps,xs,objs=>(WZ ps xs.tail objs).map λA=>⟨A.d,A.kept,A.moved,A.lent⟩
 | .box t::ps,xs,objs=>match xs with
  | .s (.one (.ptr id 0))::xs=>match Wq objs id with
   |some (.box cs)=>match Waq t cs objs,WZ ps xs objs with
    |some (d,m,l),some A=>some ⟨(d,A.d),id::A.kept,m++A.moved,l++A.lent⟩
    |_,_=>none
   |_=>none
  |_=>none
 | .mut e::ps,xs,objs=>match xs with
  | .s (.one (.own id))::xs=>match Wq objs id with
   |some (.arr e' ys)=>match WfQ e' e ys,WZ ps xs objs with
    |some d,some A=>some ⟨(d,A.d),id::A.kept,A.moved,A.lent⟩
    |_,_=>none
   |_=>none
  |_=>none
 | .clos g n::ps,xs,objs=>match xs with
  | .s (.one (.clos g' caps))::xs=>if g'=g/\caps.length=n then(WZ ps (WjX caps++xs) objs).map λA=>⟨A.d,A.kept,A.moved,A.lent⟩else none
  |_=>none
 | .kv t agg::ps,xs,objs=>match xs with
  |x::xs=>match(cellsOf agg x).bind λcs=>Waq t cs objs,WZ ps xs objs with
   |some (d,m,l),some A=>if WmC objs t m x then some ⟨(d,A.d),m++A.kept,A.moved,l++A.lent⟩else none
   |_,_=>none
  |_=>none
 | .rp _::ps,xs,objs=>(WZ ps xs.tail objs).map λA=>⟨A.d,A.kept,A.moved,A.lent⟩
 | .vj _::_,_,_=>none
 | .boxal t _::ps,xs,objs=>match xs with
  | .s (.one (.ptr id 0))::_::xs=>match Wq objs id with
   |some (.box cs)=>match Waq t cs objs,WZ ps xs objs with
    |some (d,m,l),some A=>some ⟨(d,A.d),id::A.kept,m++A.moved,l++A.lent⟩
    |_,_=>none
   |_=>none
  |_=>none
def Wu0{R:Type}(T:Tab)(sg:Sig)(rv:List ResultVar)(k:WfH sg.ps×Wgs sg.rs->Option R)(e:Ex)(st:St):Option R:=
 match e with
 | .exit _=>none
 |_=>match Wet T st rv with
  |some xs=>match WaU sg.rs xs st.objs,WZ sg.ps (WA sg.ps 0 0 st) st.objs with
   |some A,some B=>if Wbe (B.kept++(B.moved++A.moved))&&WgG (A.lent++B.lent) (B.kept++(B.moved++A.moved))then k (B.d,A.d)else none
   |_,_=>none
  |none=>none
noncomputable def den{R:Type}(T:Tab)(Γ:Ctx)(ann:Nat->List Ghost)(N:Nat)(sg:Sig)(f:Func)(d:We1 sg.ps)(k:WfH sg.ps×Wgs sg.rs->Option R):Option R:=
 let x:=WP sg.ps d [] 0
 match f.body,WdX (ann 1000000) {env:=WgL 0 x.1,objs:=x.2.1,nx:=x.2.2}with
 |some c,some (b,st)=>bif b then sx T Γ ann N c st (Wu0 T sg f.results.toList k)else none
 |_,_=>none
def WdY:List PTy->Nat->Nat->List Nat
 | [],_,_=>[]
 |_::ps,i,k+1=>WdY ps i k
 | .v _ _::ps,i,0=>WdY ps (i+1) 0
 | .box _::ps,i,0=>i::WdY ps (i+1) 0
 | .mut _::ps,i,0=>i::WdY ps (i+1) 0
 | .clos _ n::ps,i,0=>i::WdY ps (i+1) n
 | .kv _ _::ps,i,0=>i::WdY ps (i+1) 0
 | .rp _::ps,i,0=>WdY ps (i+1) 0
 | .vj _::ps,i,0=>WdY ps (i+1) 0
 | .boxal _ _::ps,i,0=>i::WdY ps (i+2) 0
def WbD:List PTy->Nat
 | []=>0
 | .v _ _::ps=>WbD ps+1
 | .box _::ps=>WbD ps+1
 | .mut _::ps=>WbD ps+1
 | .clos _ _::ps=>WbD ps+1
 | .kv _ _::ps=>WbD ps+1
 | .rp _::ps=>WbD ps+1
 | .vj _::ps=>WbD ps+1
 | .boxal _ _::ps=>WbD ps+2
def WjV:List PTy->Nat->Bool
 |_,0=>true
 | .box _::ps,n+1=>WjV ps n
 |_,_+1=>false
def Wcd:List PTy->Bool
 | []=>true
 | .clos _ n::ps=>WjV ps n&&Wcd ps
 | .v _ _::ps=>Wcd ps
 | .box _::ps=>Wcd ps
 | .mut _::ps=>Wcd ps
 | .kv _ _::ps=>Wcd ps
 | .rp _::ps=>Wcd ps
 | .vj _::ps=>Wcd ps
 | .boxal _ _::ps=>Wcd ps
end Go.Sx
namespace Go.Sx
set_option linter.unusedVariables false
theorem EncL_len{α:Type}{R:α->List Value->Prop}{n:Nat}(h:∀x c,R x c->c.length=n):
  ∀(l:List α) (cs:List Value),EncL R l cs->cs.length=l.length*n
 | [],cs,e=>by grind [EncL]
 |x::l,cs,e=>by
  obtain⟨c1,c2,rfl,h1,h2⟩:=e;have:=EncL_len h l c2 h2;rw[Xw,h _ _ h1,this,Xq,Xbx,Xct]
theorem WlS{α:Type}{R R':α->List Value->Prop}(h:∀x c,R x c->R' x c):
  ∀(l:List α) (cs:List Value),EncL R l cs->EncL R' l cs
 | [],_,e=>e
 |_::l,_,⟨c1,c2,he,h1,h2⟩=>⟨c1,c2,he,h _ _ h1,WlS h l c2 h2⟩
theorem WdN{α:Type}{R:α->List Value->Prop}:∀(l l':List α) (cs cs':List Value),EncL R l cs->EncL R l' cs'->EncL R (l++l') (cs++cs')
 | [],_,cs,cs',e,e'=>by grind [EncL]
 |x::l,l',_,cs',⟨c1,c2,he,h1,h2⟩,e'=>⟨c1,c2++cs',by simp[he],h1,WdN l l' c2 cs' h2 e'⟩
theorem EncL_nth{α:Type}{R:α->List Value->Prop}{n:Nat}(h:∀x c,R x c->c.length=n):
  ∀(l:List α) (cs:List Value) (i:Nat) (x:α),EncL R l cs->l[i]?=some x->R x ((cs.drop (i*n)).take n)
 | [],_,_,_,_,hi=>by simp at hi
 |y::l,cs,0,x,⟨c1,c2,he,h1,_⟩,hi=>by
  grind
 |y::l,cs,i+1,x,⟨c1,c2,he,h1,h2⟩,hi=>by
  have hl:=h _ _ h1;have:=EncL_nth h l c2 i x h2 (by simp_all);rw[he,Xbx,Xct,←Xdl,List.drop_left' hl];exact this
theorem Wew{α:Type}{R:α->List Value->Prop}{n:Nat}(h:∀x c,R x c->c.length=n):
  ∀(l:List α) (cs:List Value) (m:Nat),EncL R l cs->EncL R (l.take m) (cs.take (m*n))
 | [],cs,m,e=>by grind [EncL]
 |x::l,cs,0,_=>by simp[EncL]
 |x::l,cs,m+1,⟨c1,c2,he,h1,h2⟩=>by
  have hl:=h _ _ h1;refine⟨c1,c2.take (m*n),?_,h1,Wew h l c2 m h2⟩;rw[he,Xbx,Xct,←hl,Xev]
theorem WeA{α:Type}{R:α->List Value->Prop}{n:Nat}(h:∀x c,R x c->c.length=n):
  ∀(l:List α) (cs:List Value) (m:Nat),EncL R l cs->EncL R (l.drop m) (cs.drop (m*n))
 | [],cs,m,e=>by grind [EncL]
 |x::l,cs,0,e=>by grind
 |x::l,cs,m+1,⟨c1,c2,he,h1,h2⟩=>by
  have hl:=h _ _ h1;have:=WeA h l c2 m h2
  grind [EncL,Xbx,Xct,Xdl,Xfz]
theorem Wkb{α:Type}{R:α->List Value->Prop}{n:Nat}(h:∀x c,R x c->c.length=n):
  ∀(l:List α) (cs:List Value) (i:Nat) (x:α) (ds:List Value),EncL R l cs->i<l.length->R x ds->
   EncL R (l.set i x) (cs.take (i*n)++ds++cs.drop (i*n+n))
 | [],_,_,_,_,_,hi,_=>by simp at hi
 |y::l,cs,0,x,ds,⟨c1,c2,he,h1,h2⟩,_,hx=>by
  have hl:=h _ _ h1;refine⟨ds,c2,?_,hx,h2⟩;simp_all
 |y::l,cs,i+1,x,ds,⟨c1,c2,he,h1,h2⟩,hi,hx=>by
  have hl:=h _ _ h1;refine⟨c1,_,?_,h1,Wkb h l c2 i x ds h2 (by simp_all) hx⟩;have e1:(i+1)*n=c1.length+i*n:=by rw[Xbx,hl,Xct]
  rw[he,e1,Xev,Xay,←Xdl,Xfz];simp
theorem Enc_len{G:GH}:∀(t:Ty) (d:t.den) (cs:List Value),Enc G t d cs->cs.length=t.size
 | .int _,_,_,h=>by grind [Enc,Ty.size]
 | .bool,_,_,h=>by grind [Enc,Ty.size]
 | .str,_,_,h=>by grind [Enc,Ty.size]
 | .slice _,_,_,h=>by obtain⟨v,rfl,_⟩:=h;simp[Ty.size]
 | .own _,_,_,h=>h.elim
 | .prod a b,d,_,h=>by
  obtain⟨c1,c2,rfl,h1,h2⟩:=h;rw[Xw,Enc_len a _ _ h1,Enc_len b _ _ h2,Ty.size]
def GLe(G G':GH):Prop:=∀b o v,G b o=some v->G' b o=some v
theorem WiB{G G':GH}(h:GLe G G'){b o:Nat}{cs:List Value}(hs:We6 G b o cs):We6 G' b o cs:=λj v hj=>h _ _ _ (hs j v hj)
theorem WaV{G G':GH}(h:GLe G G'):∀(t:Ty) (d:t.den) (cs:List Value),Enc G t d cs->Enc G' t d cs
 | .int _,_,_,e=>e
 | .bool,_,_,e=>e
 | .str,_,_,e=>e
 | .slice e,d,cs,hh=>by
  obtain⟨v,hv,hr⟩:=hh;refine⟨v,hv,?_⟩;rcases hr with hr|⟨b,off,cap,cs',h1,h2,h3,h4,h5⟩|hr
  .exact .inl hr
  rotate_left
  .exact .inr (.inr hr)
  .exact .inr<| .inl ⟨b,off,cap,cs',h1,h2,h3,WlS (λx c hx=>WaV h e x c hx) _ _ h4,WiB h h5⟩
 | .own _,_,_,e=>e
 | .prod a b,d,_,⟨c1,c2,he,h1,h2⟩=>⟨c1,c2,he,WaV h a _ _ h1,WaV h b _ _ h2⟩
section
variable{G:GH}{ν:Nat->Nu}{nx:Nat}
theorem CellsRel.nil:CellsRel G ν nx [] []:=⟨rfl,λj c v h=>by simp at h⟩
theorem CellsRel.append{cs cs':List Cell}{vs vs':List Value}(h:CellsRel G ν nx cs vs)(h':CellsRel G ν nx cs' vs'):
  CellsRel G ν nx (cs++cs') (vs++vs'):=by
 refine⟨by simp[h.1,h'.1],λj c v hc hv=>?_⟩;rw[Xau]at hc hv;rw[h.1]at hv;split at hc
 .rename_i hlt;rw[Wf hlt]at hv;exact h.2 j c v hc hv
 .rename_i hlt;rw[Wb hlt]at hv;exact h'.2 _ c v hc hv
theorem CellsRel.take{cs:List Cell}{vs:List Value}(h:CellsRel G ν nx cs vs)(n:Nat):CellsRel G ν nx (cs.take n) (vs.take n):=by
 refine⟨by simp[h.1],λj c v hc hv=>?_⟩;rw[Xbm]at hc hv;split at hc
 .rename_i hlt;rw[Wf hlt]at hv;exact h.2 j c v hc hv
 grind
theorem CellsRel.drop{cs:List Cell}{vs:List Value}(h:CellsRel G ν nx cs vs)(n:Nat):CellsRel G ν nx (cs.drop n) (vs.drop n):=by
 refine⟨by simp[h.1],λj c v hc hv=>?_⟩;rw[Xbl]at hc hv;exact h.2 _ c v hc hv
theorem CellsRel.one{c:Cell}{v:Value}(h:CellRel G ν nx c v)(hv1:v.oneCell'=true):CellsRel G ν nx [c] [v]:=by
 refine⟨rfl,λj c' v' hc hv=>?_⟩
 grind
theorem Waw:∀(t:Ty) (d:t.den) (vs:List Value),Enc G t d vs->CellsRel G ν nx (split t d) vs
 | .int k,d,vs,h=>by have h':=h;simp only[Enc]at h';subst h';exact CellsRel.one h rfl
 | .bool,d,vs,h=>by have h':=h;simp only[Enc]at h';subst h';exact CellsRel.one h rfl
 | .str,d,vs,h=>by have h':=h;simp only[Enc]at h';subst h';exact CellsRel.one h rfl
 | .slice e,d,vs,h=>by
  obtain⟨v,rfl,hr⟩:=h;refine CellsRel.one ⟨v,rfl,hr⟩ ?_;rcases hr with⟨rfl,_⟩|⟨_,_,_,_,rfl,_⟩|⟨_,_,rfl,_⟩<;>rfl
 | .own _,_,_,h=>h.elim
 | .prod a b,d,vs,⟨c1,c2,he,h1,h2⟩=>by
  subst he;exact(Waw a _ _ h1).append (Waw b _ _ h2)
end
def WqM(nx:Nat)(ν ν':Nat->Nu):Prop:=∀id,id<nx->ν' id=ν id
section
variable{G G':GH}{ν ν':Nat->Nu}{nx aj:Nat}
theorem CellRel.mono(hg:GLe G G')(hn:WqM nx ν ν')(hx:nx<=aj):
  ∀(c:Cell) (v:Value),CellRel G ν nx c v->CellRel G' ν' aj c v
 | .val t d,v,h=>WaV hg t d _ h
 | .nils,_,h=>h
 | .own id,v,⟨h1,h2⟩=>⟨Xbi h1 hx,by rw[hn id h1];exact h2⟩
 | .vw id lo hi,v,⟨h1,h2⟩=>⟨Xbi h1 hx,by rw[hn id h1];exact h2⟩
 | .aptr id,v,⟨h1,h2⟩=>⟨Xbi h1 hx,by rw[hn id h1];exact h2⟩
 | .ptr id off,v,⟨h1,h2⟩=>⟨Xbi h1 hx,by rw[hn id h1];exact h2⟩
 | .eptr id i off,v,⟨h1,h2⟩=>⟨Xbi h1 hx,by rw[hn id h1];exact h2⟩
 | .rptr t d off,v,⟨b,o,cs,h1,h2,h3⟩=>⟨b,o,cs,h1,WaV hg t d _ h2,WiB hg h3⟩
 | .clos f caps,v,⟨vs,h1,h2,h3⟩=>⟨vs,h1,h2,λj id u hc hv=>by
   obtain⟨h4,h6,h5⟩:=h3 j id u hc hv;exact⟨Xbi h4 hx,h6,by rw[hn id h4];exact h5⟩⟩
 | .junk,_,_=>trivial
theorem CellsRel.mono(hg:GLe G G')(hn:WqM nx ν ν')(hx:nx<=aj){cs:List Cell}{vs:List Value}(h:CellsRel G ν nx cs vs):CellsRel G' ν' aj cs vs:=
 ⟨h.1,λj c v hc hv=>⟨CellRel.mono hg hn hx c v (h.2 j c v hc hv).1,(h.2 j c v hc hv).2⟩⟩
theorem AvRel.mono(hg:GLe G G')(hn:WqM nx ν ν')(hx:nx<=aj):∀(x:AV) (v:Value),AvRel G ν nx x v->AvRel G' ν' aj x v
 | .one c,v,h=>⟨CellRel.mono hg hn hx c v h.1,h.2⟩
 | .agg cs,v,⟨vs,he,h⟩=>⟨vs,he,h.mono hg hn hx⟩
theorem AValRel.mono(hg:GLe G G')(hn:WqM nx ν ν')(hx:nx<=aj):∀(x:AVal) (v:Value),AValRel G ν nx x v->AValRel G' ν' aj x v
 | .s x,v,h=>AvRel.mono hg hn hx x v h
 | .tup xs,v,⟨vs,he,hl,h⟩=>⟨vs,he,hl,λj x u jj hu=>AvRel.mono hg hn hx x u (h j x u jj hu)⟩
end
theorem Wiy(nu:Nu):nu.hdr.oneCell'=true:=by unfold Nu.hdr;split<;>rfl
theorem WoV(nu:Nu)(lo hi:Nat):(nu.vhdr lo hi).oneCell'=true:=by unfold Nu.vhdr;split<;>rfl
section
variable{α:Type}{R R':α->List Value->List Pc->Prop}
theorem WaQ{n:Nat}(h:∀x c p,R x c p->c.length=n):∀(l:List α) (cs:List Value) (ps:List Pc),EncP R l cs ps->cs.length=l.length*n
 | [],cs,ps,e=>by simp[e.1]
 |x::l,cs,ps,⟨c1,c2,p1,p2,he,hp,h1,h2⟩=>by
  rw[he,Xw,h _ _ _ h1,WaQ h l c2 p2 h2,Xq,Xbx,Xct]
theorem WbE{Q:Pc->Prop}(h:∀x c p,(∀q∈p,Q q)->R x c p->R' x c p):∀(l:List α) (cs:List Value) (ps:List Pc),(∀q∈ps,Q q)->EncP R l cs ps->EncP R' l cs ps
 | [],_,_,_,e=>e
 |_::l,_,_,hq,⟨c1,c2,p1,p2,he,hp,h1,h2⟩=>by
  subst hp;exact⟨c1,c2,p1,p2,he,rfl,h _ _ _ (λq hm=>hq q (Xm _ hm)) h1,WbE h l c2 p2 (λq hm=>hq q (Xh _ hm)) h2⟩
theorem WdM:∀(l l':List α) (cs cs':List Value) (ps md:List Pc),EncP R l cs ps->EncP R l' cs' md->EncP R (l++l') (cs++cs') (ps++md)
 | [],_,cs,cs',ps,md,e,e'=>by obtain⟨rfl,rfl⟩:=e;exact e'
 |x::l,l',_,cs',_,md,⟨c1,c2,p1,p2,he,hp,h1,h2⟩,e'=>⟨c1,c2++cs',p1,p2++md,by simp[he],by simp[hp],h1,WdM l l' c2 cs' p2 md h2 e'⟩
theorem WjB:∀(l l':List α) (cs:List Value) (ps:List Pc),EncP R (l++l') cs ps->∃c1 c2 p1 p2,cs=c1++c2/\ps=p1++p2/\EncP R l c1 p1/\EncP R l' c2 p2
 | [],l',cs,ps,e=>⟨[],cs,[],ps,rfl,rfl,⟨rfl,rfl⟩,e⟩
 |x::l,l',cs,ps,⟨c1,c2,p1,p2,he,hp,h1,h2⟩=>by
  obtain⟨d1,d2,q1,q2,g1,g2,g3,g4⟩:=WjB l l' c2 p2 h2;exact⟨c1++d1,d2,p1++q1,q2,by grind,by grind,⟨c1,d1,p1,q1,rfl,rfl,h1,g3⟩,g4⟩
theorem Wow{x:α}{cs:List Value}{ps:List Pc}:EncP R [x] cs ps↔R x cs ps:=by
 constructor
 .rintro⟨c1,c2,p1,p2,he,hp,h1,h2,h3⟩;simp_all
 .intro h;exact⟨cs,[],ps,[],by simp,by simp,h,rfl,rfl⟩
theorem Wev(l:List α)(cs:List Value)(ps:List Pc)(n:Nat)(h:EncP R l cs ps):∃c1 c2 p1 p2,cs=c1++c2/\ps=p1++p2/\EncP R (l.take n) c1 p1/\EncP R (l.drop n) c2 p2:=
 WjB _ _ _ _ (by simp_all)
theorem Wn0{l:List α}{cs:List Value}{ps:List Pc}{i:Nat}(h:EncP R l cs ps)(d:α)(hi:i<l.length):
  ∃c1 c c2 p1 p p2,cs=c1++(c++c2)/\ps=p1++(p++p2)/\EncP R (l.take i) c1 p1/\R (l.getD i d) c p/\EncP R (l.drop (i+1)) c2 p2:=by
 obtain⟨c1,c',p1,p',h1,h2,h3,h4⟩:=Wev l cs ps i h;have e:l.drop i=l.getD i d::l.drop (i+1):=by
  simp_all
 rw[e]at h4;obtain⟨c,c2,p,p2,h5,h6,h7,h8⟩:=h4
 grind
theorem WoU{l:List α}{c1 c c2:List Value}{p1 p p2:List Pc}{i:Nat}{x:α}(hi:i<l.length)(h1:EncP R (l.take i) c1 p1)(h:R x c p)(h2:EncP R (l.drop (i+1)) c2 p2):
  EncP R (l.set i x) (c1++(c++c2)) (p1++(p++p2)):=by
 have e:l.set i x=l.take i++(x::l.drop (i+1)):=by
  rw[Xea,Wf hi]
 rw[e];exact WdM _ _ _ _ _ _ h1 ⟨c,c2,p,p2,rfl,rfl,h,h2⟩
end
section
variable{G G':GH}{w w':World}
theorem WD:∀(t:Ty) (d:t.den) (vs:List Value) (ns:List Pc),TyRel G w t d vs ns->vs.length=t.size
 | .own e,xs,vs,ns,⟨p,_,h,_⟩=>by rw[h];rfl
 | .prod a b,d,vs,ns,⟨v1,v2,n1,n2,h1,h2,h3,h4⟩=>by
  rw[h1,Xw,WD a _ _ _ h3,WD b _ _ _ h4];rfl
 | .int k,d,vs,ns,h=>Enc_len _ _ _ h.2
 | .bool,d,vs,ns,h=>Enc_len _ _ _ h.2
 | .str,d,vs,ns,h=>Enc_len _ _ _ h.2
 | .slice e,d,vs,ns,h=>Enc_len _ _ _ h.2
theorem W1:∀(t:Ty) (d:t.den) (vs:List Value) (ns:List Pc),TyRel G w t d vs ns->ns.length=t.owns
 | .own e,xs,vs,ns,⟨nu,h,_⟩=>by rw[h];rfl
 | .prod a b,d,vs,ns,⟨v1,v2,n1,n2,h1,h2,h3,h4⟩=>by rw[h2,Xw,W1 a _ _ _ h3,W1 b _ _ _ h4];rfl
 | .int k,d,vs,ns,h=>by rw[h.1];rfl
 | .bool,d,vs,ns,h=>by rw[h.1];rfl
 | .str,d,vs,ns,h=>by rw[h.1];rfl
 | .slice e,d,vs,ns,h=>by rw[h.1];rfl
theorem WaS:∀(t:Ty) (d:t.den) (vs:List Value) (ns:List Pc),t.data=true->(TyRel G w t d vs ns↔Enc G t d vs/\ns= [])
 | .own e,xs,vs,ns,h=>by simp[Ty.data]at h
 | .prod a b,d,vs,ns,h=>by
  simp only[Ty.data,Xi]at h;constructor
  .rintro⟨v1,v2,n1,n2,h1,h2,h3,h4⟩;obtain⟨e1,e2⟩:=(WaS a _ _ _ h.1).1 h3;obtain⟨e3,e4⟩:=(WaS b _ _ _ h.2).1 h4;exact⟨⟨v1,v2,h1,e1,e3⟩,by simp_all⟩
  .rintro⟨⟨v1,v2,h1,h2,h3⟩,h4⟩;exact⟨v1,v2,[],[],h1,h4,(WaS a _ _ _ h.1).2 ⟨h2,rfl⟩,(WaS b _ _ _ h.2).2 ⟨h3,rfl⟩⟩
 | .int k,d,vs,ns,_=>⟨λh=>⟨h.2,h.1⟩,λh=>⟨h.2,h.1⟩⟩
 | .bool,d,vs,ns,_=>⟨λh=>⟨h.2,h.1⟩,λh=>⟨h.2,h.1⟩⟩
 | .str,d,vs,ns,_=>⟨λh=>⟨h.2,h.1⟩,λh=>⟨h.2,h.1⟩⟩
 | .slice e,d,vs,ns,_=>⟨λh=>⟨h.2,h.1⟩,λh=>⟨h.2,h.1⟩⟩
theorem EncP_data{e:Ty}(he:e.data=true):∀(xs:List e.den) (cs:List Value) (ps:List Pc),EncP (TyRel G w e) xs cs ps↔EncL (Enc G e) xs cs/\ps= []
 | [],cs,ps=>Iff.rfl
 |x::xs,cs,ps=>by
  constructor
  .rintro⟨c1,c2,p1,p2,h1,h2,h3,h4⟩;obtain⟨e1,e2⟩:=(WaS e _ _ _ he).1 h3;obtain⟨e3,e4⟩:=(EncP_data he xs _ _).1 h4;exact⟨⟨c1,c2,h1,e1,e3⟩,by simp_all⟩
  .rintro⟨⟨c1,c2,h1,h2,h3⟩,h4⟩;exact⟨c1,c2,[],[],h1,h4,(WaS e _ _ _ he).2 ⟨h2,rfl⟩,(EncP_data he xs _ _).2 ⟨h3,rfl⟩⟩
structure Same(S:CS)(w w':World):Prop where
 row:∀b n,Row w b n->Row w' b n
 cell:∀b o,S b o->w'.cell? ⟨b,o,none⟩=w.cell? ⟨b,o,none⟩
theorem Same.mono{S S':CS}(h:Same S w w')(hl:CS.le S' S):Same S' w w':=⟨h.row,λb o hs=>h.cell b o (hl b o hs)⟩
theorem Mem.same{S:CS}(h:Same S w w'){b o n:Nat}{cs:List Value}(hm:Mem w b o cs)(hn:cs.length<=n)(hs:CS.le (rng b o n) S):Mem w' b o cs:=λj v hj=>by
 have hlt:j<cs.length:=(Xaa.1 hj).1;rw[h.cell b (o+j) (hs _ _ ⟨rfl,by omega,by omega⟩)];exact hm j v hj
theorem Whz{α:Type}{R R':α->List Value->List Pc->Prop}{n:Nat}{nu:Nu}{xs:List α}{S S':CS}(hR:∀x c p,R x c p->c.length=n)(h:Same S w w')(hle:CS.le S S')
  (hm:∀x c p,(∀q∈p,CS.le q.fp S)->R x c p->R' x c p) (ho:OwnL w R n nu xs S):OwnL w' R' n nu xs S':=by
 obtain⟨h1,h2,h3⟩:=ho;refine⟨h1,h2,?_⟩;cases hb:nu.blk with
 |none=>simp_all
 |some b=>
  simp only[hb]at h3;obtain⟨h4,h5,h6,cs,ps,h7,h8,h9,cu⟩:=h3;have hl:=WaQ hR _ _ _ h7;have jk:xs.length*n<=nu.cap*n:=Xbf _ h4;exact⟨h4,h5,h.row _ _ h6,cs,ps,WbE (Q:=λq=>CS.le q.fp S) hm _ _ _ (λq hq=>cu _ (Xf _ (Xam hq))) h7,h8.same h (n:=nu.cap*n) (by omega) (cu _ (Xj ..)),h9,λs hs b o hh=>hle b o (cu s hs b o hh)⟩
theorem Wau(hg:GLe G G'):∀(t:Ty) (d:t.den) (vs:List Value) (ns:List Pc),(∀p∈ns,Same p.fp w w')->TyRel G w t d vs ns->TyRel G' w' t d vs ns
 | .own e,xs,vs,ns,hs,⟨p,h1,h2,h3⟩=>by
  subst h1;have fV:=hs p (Xag.2 rfl);exact⟨p,rfl,h2,Whz (λx c q hx=>WD e x c q hx) fV (λ_ _ hh=>hh) (λx c q hq hx=>Wau hg e x c q (λq' jS=>fV.mono (hq q' jS)) hx) h3⟩
 | .prod a b,d,vs,ns,hs,⟨v1,v2,n1,n2,h1,h2,h3,h4⟩=>by
  subst h2;exact⟨v1,v2,n1,n2,h1,rfl,Wau hg a _ _ _ (λp hp=>hs p (Xm _ hp)) h3,Wau hg b _ _ _ (λp hp=>hs p (Xh _ hp)) h4⟩
 | .int k,d,vs,ns,_,h=>⟨h.1,WaV hg _ _ _ h.2⟩
 | .bool,d,vs,ns,_,h=>⟨h.1,WaV hg _ _ _ h.2⟩
 | .str,d,vs,ns,_,h=>⟨h.1,WaV hg _ _ _ h.2⟩
 | .slice e,d,vs,ns,_,h=>⟨h.1,WaV hg _ _ _ h.2⟩
theorem Same.refl(S:CS)(w:World):Same S w w:=⟨λ_ _ h=>h,λ_ _ _=>rfl⟩
theorem WcL(hg:GLe G G'){e:Ty}{nu:Nu}{xs:List e.den}{S S':CS}(h:Same S w w')(hle:CS.le S S')(ho:OwnL w (TyRel G w e) e.size nu xs S):OwnL w' (TyRel G' w' e) e.size nu xs S':=
 Whz (λx c q hx=>WD e x c q hx) h hle (λx c q hq hx=>Wau hg e x c q (λq' jS=>h.mono (hq q' jS)) hx) ho
theorem Wjp(hg:GLe G G'){e:Ty}{nu np:Nu}{xs:List e.den}{i:Nat}{S S':CS}(h:Same S w w')(hle:CS.le S S')(ho:Whk w (TyRel G w e) e.size nu np xs i S):Whk w' (TyRel G' w' e) e.size nu np xs i S':=by
 obtain⟨h1,h2,h3,b,h4,h5,h6,h7,h8,h9,c1,c2,p1,p2,g1,g2,g3,g4,g5,g6⟩:=ho;have l1:=WaQ (λx c q hx=>WD e x c q hx) _ _ _ g1;have l2:=WaQ (λx c q hx=>WD e x c q hx) _ _ _ g2;rw[Xbh,Xbz (by omega)]at l1;rw[Xds]at l2;have jk:(xs.length-(i+1))*e.size<=(nu.cap-(i+1))*e.size:=Xbf _ (by omega);refine⟨h1,h2,h3,b,h4,h5,h6,h7,h8,h.row _ _ h9,c1,c2,p1,p2,?_,?_,?_,?_,g5,λs hs b o hh=>hle b o (g6 s hs b o hh)⟩
 .exact WbE (Q:=λq=>CS.le q.fp S) (λx c q hq hx=>Wau hg e x c q (λq' jS=>h.mono (hq q' jS)) hx) _ _ _ (λq hq=>g6 _ (by grind)) g1
 .exact WbE (Q:=λq=>CS.le q.fp S) (λx c q hq hx=>Wau hg e x c q (λq' jS=>h.mono (hq q' jS)) hx) _ _ _ (λq hq=>g6 _ (by grind)) g2
 .exact g3.same h (n:=i*e.size) (by omega) (g6 _ (Xj ..))
 .exact g4.same h (n:=(nu.cap-(i+1))*e.size) (by omega) (g6 _ (Xf _ (Xj ..)))
theorem Wdr(hg:GLe G G'){ν ν':Nat->Nu}{nx aj id:Nat}{S S':CS}(h:Same S w w')(hle:CS.le S S')(hn:WqM nx ν ν')(hx:nx<=aj)(bz:id<nx):
  ∀(ob:Ob),Wch G ν nx w id S ob->Wch G' ν' aj w' id S' ob
 | .dead,_=>trivial
 | .box cs,⟨b,vs,h1,h2,h3,h4,h5⟩=>by
  refine⟨b,vs,by rw[hn id bz];exact h1,by rw[hn id bz];exact h.row _ _ h2,by rw[hn id bz];exact h3.same h (n:=cs.length) (by rw[h4.1];omega) h5,h4.mono hg hn hx,by rw[hn id bz];exactλb o hh=>hle b o (h5 b o hh)⟩
 | .arr e xs,ho=>by
  show OwnL w' (TyRel G' w' e) e.size (ν' id) xs S';rw[hn id bz];exact WcL hg h hle ho
 | .hole e xs i p,⟨hp,ho⟩=>by
  show p<aj/\Whk w' (TyRel G' w' e) e.size (ν' id) (ν' p) xs i S';rw[hn id bz,hn p hp];grind [Xbi,Wjp]
theorem Whs{ν:Nat->Nu}{nx:Nat}:∀(t:Ty) (d:t.den) (vs:List Value) (ns:List Pc),TyRel G w t d vs ns->CellsRel G ν nx (split t d) vs
 | .own e,d,vs,ns,⟨p,_,h,_⟩=>by rw[h];exact CellsRel.one trivial (Wiy _)
 | .prod a b,d,vs,ns,⟨v1,v2,n1,n2,h1,h2,h3,h4⟩=>by
  rw[h1];exact(Whs a _ _ _ h3).append (Whs b _ _ _ h4)
 | .int k,d,vs,ns,h=>Waw _ _ _ h.2
 | .bool,d,vs,ns,h=>Waw _ _ _ h.2
 | .str,d,vs,ns,h=>Waw _ _ _ h.2
 | .slice e,d,vs,ns,h=>Waw _ _ _ h.2
theorem Wq1{A A' B B':Type}(hA:A=A')(hB:B=B')(h:(A×B)=(A'×B'))(d:A×B):cast h d=(cast hA d.1,cast hB d.2):=by
 grind
theorem Wqd{A A':Type}(hA:A=A')(h:List A=List A')(x:A)(l:List A):cast h (x::l)=cast hA x::cast h l:=by
 grind
theorem WsD{A A':Type}(hA:A=A')(h:List A=List A'):cast h ([]:List A)= []:=by
 grind
theorem Wnv{A A':Type}(hA:A=A')(h:List A=List A')(l:List A):(cast h l).length=l.length:=by
 grind
theorem Wrh(a b:Ty)(d:(Ty.prod a b).den):Wta (.prod a b) d=(Wta a d.1,Wta b d.2):=Wq1 (WdW a).symm (WdW b).symm _ d
theorem Wpv(e:Ty)(x:e.den)(l:List e.den):Wcm e (x::l)=Wta e x::Wcm e l:=Wqd (WdW e).symm _ x l
theorem WlA(e:Ty):Wcm e []= []:=WsD (WdW e).symm _
theorem WfW(e:Ty)(l:List e.den):(Wcm e l).length=l.length:=Wnv (WdW e).symm _ l
theorem Wbi:∀t:Ty,t.ro.size=t.size
 | .prod a b=>by simp only[Ty.ro,Ty.size,Wbi a,Wbi b]
 | .own _| .slice _| .int _| .bool| .str=>rfl
theorem WnV:∀t:Ty,t.ro.data=true
 | .prod a b=>by simp only[Ty.ro,Ty.data,WnV a,WnV b];rfl
 | .own _| .slice _| .int _| .bool| .str=>rfl
def Froz(G:GH)(w:World)(S:CS):Prop:=∀b o v,S b o->w.cell? ⟨b,o,none⟩=some v->G b o=some v
theorem Froz.mono{G:GH}{S S':CS}(h:Froz G w S)(hl:CS.le S' S):Froz G w S':=λb o v hs=>h b o v (hl b o hs)
theorem Mem.stored{b o n:Nat}{cs:List Value}(hm:Mem w b o cs)(hn:cs.length<=n)(hf:Froz G w (rng b o n)):We6 G b o cs:=λj v hj=>by
 have hlt:j<cs.length:=(Xaa.1 hj).1;exact hf b (o+j) v ⟨rfl,by omega,by omega⟩ (hm j v hj)
theorem Wj7{e:Ty}(hE:∀(x:e.den) (c:List Value) (p:List Pc),(∀q∈p,Froz G' w q.fp)->TyRel G w e x c p->Enc G' e.ro (Wta e x) c):
  ∀(xs:List e.den) (cs:List Value) (ps:List Pc),(∀q∈ps,Froz G' w q.fp)->EncP (TyRel G w e) xs cs ps->EncL (Enc G' e.ro) (Wcm e xs) cs
 | [],cs,ps,_,h=>by rw[WlA];exact h.1
 |x::xs,cs,ps,hf,⟨c1,c2,p1,p2,h1,h2,h3,h4⟩=>by
  subst h2;rw[Wpv];exact⟨c1,c2,h1,hE x c1 p1 (λq hq=>hf q (Xm _ hq)) h3,Wj7 hE xs c2 p2 (λq hq=>hf q (Xh _ hq)) h4⟩
theorem WqS{e:Ty}(hE:∀(x:e.den) (c:List Value) (p:List Pc),(∀q∈p,Froz G' w q.fp)->TyRel G w e x c p->Enc G' e.ro (Wta e x) c){nu:Nu}{xs:List e.den}{S:CS}
  (hf:Froz G' w S) (h:OwnL w (TyRel G w e) e.size nu xs S):Wjh G' (Enc G' e.ro) (Wcm e xs) nu.hdr:=by
 obtain⟨h1,h2,h3⟩:=h;unfold Nu.hdr;cases hb:nu.blk with
 |none=>simp only[hb]at h3;exact .inl ⟨rfl,by rw[h3,WlA]⟩
 |some b=>
  simp only[hb]at h3;obtain⟨h4,h5,h6,cs,ps,h7,h8,h9,cu⟩:=h3;have hl:=WaQ (λx c q hx=>WD e x c q hx) _ _ _ h7;have jk:xs.length*e.size<=nu.cap*e.size:=Xbf _ h4;refine .inr (.inl ⟨b,nu.off,nu.cap,cs,by rw[WfW,h1],by grind [WfW],h5,Wj7 hE xs cs ps (λq hq=>hf.mono (cu _ (Xf _ (Xam hq)))) h7,?_⟩);exact h8.stored (n:=nu.cap*e.size) (by omega) (hf.mono (cu _ (Xj ..)))
theorem WdK(hg:GLe G G'):∀(t:Ty) (d:t.den) (vs:List Value) (ns:List Pc),(∀p∈ns,Froz G' w p.fp)->TyRel G w t d vs ns->Enc G' t.ro (Wta t d) vs
 | .own e,xs,vs,ns,hf,⟨p,h1,h2,h3⟩=>by
  subst h1;exact⟨_,h2,WqS (λx c q hq hx=>WdK hg e x c q hq hx) (hf p (Xag.2 rfl)) h3⟩
 | .prod a b,d,vs,ns,hf,⟨v1,v2,n1,n2,h1,h2,h3,h4⟩=>by
  subst h2;rw[Wrh];exact⟨v1,v2,h1,WdK hg a _ _ _ (λp hp=>hf p (Xm _ hp)) h3,WdK hg b _ _ _ (λp hp=>hf p (Xh _ hp)) h4⟩
 | .int k,d,vs,ns,_,h=>WaV hg (.int k) _ _ h.2
 | .bool,d,vs,ns,_,h=>WaV hg .bool _ _ h.2
 | .str,d,vs,ns,_,h=>WaV hg .str _ _ h.2
 | .slice e,d,vs,ns,_,h=>WaV hg (.slice e) _ _ h.2
theorem WiL(hg:GLe G G'){e:Ty}{nu:Nu}{xs:List e.den}{S:CS}(hf:Froz G' w S)(h:OwnL w (TyRel G w e) e.size nu xs S):Wjh G' (Enc G' e.ro) (Wcm e xs) nu.hdr:=
 WqS (λx c q hq hx=>WdK hg e x c q hq hx) hf h
theorem Wqt{b:Nat}{vs:Array Value}{T:TypeId}(h:w.heap[b]?=some (Obj.cells vs T (0,0))){o:Nat}{cs:List Value}(hc:∀j v,cs[j]?=some v->vs.toList[o+j]?=some v):Mem w b o cs:=λj v hj=>by
 grind [cell_of_row]
theorem Mem.left{b o:Nat}{c1 c2:List Value}(h:Mem w b o (c1++c2)):Mem w b o c1:=λj v hj=>h j v (by grind)
theorem Mem.right{b o n:Nat}{c1 c2:List Value}(h:Mem w b o (c1++c2))(hn:c1.length=n):Mem w b (o+n) c2:=λj v hj=>by
 have:=h (n+j) v (by grind)
 grind
theorem Mem.app{b o n:Nat}{c1 c2:List Value}(h1:Mem w b o c1)(h2:Mem w b (o+n) c2)(hn:c1.length=n):Mem w b o (c1++c2):=λj v hj=>by
 rw[Xau]at hj;split at hj
 .exact h1 j v hj
 .rename_i hlt;have:=h2 (j-c1.length) v hj
  grind
theorem WqN{e:Ty}{nu:Nu}{xs:List e.den}{S:CS}{b i:Nat}(h:OwnL w (TyRel G w e) e.size nu xs S)(hb:nu.blk=some b)(hi:i<xs.length):
  ∃c p,TyRel G w e (xs.getD i e.dflt) c p/\Mem w b (nu.off+i*e.size) c:=by
 obtain⟨h1,h2,h3⟩:=h;simp only[hb]at h3;obtain⟨h4,h5,h6,cs,ps,h7,h8,h9,cu⟩:=h3;obtain⟨c1,c,c2,p1,p,p2,g1,g2,g3,g4,g5⟩:=Wn0 h7 e.dflt hi;refine⟨c,p,g4,?_⟩;rw[g1]at h8;have hl:=WaQ (λx c q hx=>WD e x c q hx) _ _ _ g3;rw[Xbh,Xbz (by omega)]at hl;exact(h8.right hl).left
theorem Wdp{e:Ty}(he:e.data=true){nu:Nu}{xs:List e.den}{S:CS}{b:Nat}(h:OwnL w (TyRel G w e) e.size nu xs S)(hb:nu.blk=some b):
  xs.length=nu.len/\xs.length<=nu.cap/\nu.cap<=maxLen/\Row w b (nu.off+nu.cap*e.size)/\∃cs,EncL (Enc G e) xs cs/\Mem w b nu.off cs/\CS.le (rng b nu.off (nu.cap*e.size)) S:=by
 obtain⟨h1,h2,h3⟩:=h
 grind [EncP_data,Xj]
theorem WmO{e:Ty}(he:e.data=true){nu:Nu}{xs:List e.den}{S:CS}{b:Nat}{cs:List Value}(hb:nu.blk=some b)(h1:xs.length=nu.len)(h2:nu.esz=e.size)(h4:xs.length<=nu.cap)(h5:nu.cap<=maxLen)
  (h6:Row w b (nu.off+nu.cap*e.size)) (h7:EncL (Enc G e) xs cs) (h8:Mem w b nu.off cs) (h9:CS.le (rng b nu.off (nu.cap*e.size)) S):OwnL w (TyRel G w e) e.size nu xs S:=by
 refine⟨h1,h2,?_⟩;simp only[hb];exact⟨h4,h5,h6,cs,[],(EncP_data he xs cs []).2 ⟨h7,rfl⟩,h8,Xt.2 ⟨by simp,List.Pairwise.nil⟩,λs hs=>by simp_all⟩
theorem Wb8{e:Ty}{nu:Nu}{xs:List e.den}{S:CS}(h:OwnL w (TyRel G w e) e.size nu xs S)(hb:nu.blk=none):xs= []:=by
 obtain⟨h1,h2,h3⟩:=h;simp_all
end
end Go.Sx
namespace Go.Sx
set_option linter.unusedVariables false
set_option linter.unusedSimpArgs false
def Wbp:Ty->List Value
 | .prod a b=>Wbp a++Wbp b
 | .int k=>[.int k 0]
 | .bool=>[.bool false]
 | .str=>[.string ⟨#[]⟩]
 | .slice _=>[.slice none 0 0]
 | .own _=>[.pointer none]
def rep{α:Type}(l:List α):Nat->List α
 |0=>[]
 |n+1=>l++rep l n
def TE.cells(te:TE):List Value:=match te.shape with
 | .arr n _=>rep (Wbp te.ty) n
 |_=>Wbp te.ty
def TE.size(te:TE):Nat:=match te.shape with
 | .arr n _=>n*te.ty.size
 |_=>te.ty.size
structure TEok(P:Program)(T:Tab)(t:TypeId)(te:TE):Prop where
 und:match te.shape with
  | .basic=>te.agg=false/\(match te.ty with
   | .int k=>P.underlying t=some (.int k)
   | .bool=>P.underlying t=some .bool
   | .str=>P.underlying t=some .string
   |_=>False)
  | .slice e=>te.agg=false/\P.underlying t=some (.slice e)/\∃dE,Wq T e=some dE/\te.ty= .slice dE.ty
  | .struct fs=>te.agg=true/\∃fields:Array Field,P.underlying t=some (.struct fields)/\fields.toList.map (λf=>(f.offset,f.type))=fs/\
    (∀f∈fields,f.name≠ "_")∧P.stoodInHeld t=false∧P.eqGuardType P.depth t=false
  | .ptr e=>te.agg=false/\P.underlying t=some (.pointer e)
  | .arr n e=>te.agg=true/\P.underlying t=some (.array n e)/\∃dE,Wq T e=some dE/\dE.ty=te.ty/\∀m f,dE.shape≠ .arr m f
 info:∃i z,P.info? t=some i/\i.size=te.size/\i.zero=some z/\z.cells.toList=te.cells/\i.bytes<=4096
def Waf(P:Program)(T:Tab):Prop:=∀t te,Wq T t=some te->TEok P T t te
theorem Wbu:∀t:Ty,0<t.size
 | .prod a b=>by have:=Wbu a;simp[Ty.size];omega
 | .int _| .bool| .str| .slice _| .own _=>by simp[Ty.size]
section
variable{P:Program}{T:Tab}{w:World}
theorem Wl{t:TypeId}{d:TypeDesc}(h:P.underlying t=some d):(underlying t).run P w= .ok d w:=by
 simp[underlying,h]
theorem WgZ{t:TypeId}{i:TypeInfo}(h:P.info? t=some i):(typeInfo t).run P w= .ok i w:=by
 simp[typeInfo,h]
theorem WpF{t:TypeId}{i:TypeInfo}(h:P.info? t=some i):(sizeOf t).run P w= .ok i.size w:=by
 simp[sizeOf,WgZ h]
theorem TEok.sizeOf{t:TypeId}{te:TE}(h:TEok P T t te):(sizeOf t).run P w= .ok te.size w:=by
 obtain⟨i,z,hi,hs,_⟩:=h.info;rw[WpF hi,hs]
theorem TEok.isAgg{t:TypeId}{te:TE}(h:TEok P T t te):(isAgg t).run P w= .ok te.agg w:=by
 have hu:=h.und;obtain⟨ty,agg,shape⟩:=te;cases shape with
 |basic=>
  obtain⟨ha,hu⟩:=hu;cases ty<;>simp only at hu<;>first|exact hu.elim|simp_all [Go.isAgg,Wl]
 |slice e=>simp_all [Go.isAgg,Wl]
 |struct fs=>obtain⟨ha,f,hu,_⟩:=hu;simp_all [Go.isAgg,Wl]
 |ptr e=>simp_all [Go.isAgg,Wl]
 |arr n e=>simp_all [Go.isAgg,Wl]
end
theorem WaP(b o j:Nat):(⟨b,o,none⟩:Addr).add j=⟨b,o+j,none⟩:=by
 simp[Addr.add]
section
variable{P:Program}{T:Tab}{w:World}{G:GH}{ν:Nat->Nu}{objs:W9}{nx:Nat}
theorem WW{te:TE}(h:te.plain=true):te.size=te.ty.size:=by
 unfold TE.plain at h;unfold TE.size;split at h<;>simp_all
theorem WgE{t:TypeId}{te:TE}(bD:TEok P T t te)(eE:te.plain=true){b o off:Nat}{cs:List Cell}{us:List Value}{x:AVal}
  (hc:CellsRel G ν nx cs us) (hm:∀(j:Nat) (v:Value),us[j]?=some v->w.cell? ⟨b,o+j,none⟩=some v)
  (hs:sub te.agg cs off te.ty.size=some x):
  ∃v,(loadVar t ⟨b,o+off,none⟩).run P w= .ok v w/\AValRel G ν nx x v:=by
 have hsz:te.size=te.ty.size:=WW eE;unfold sub at hs;simp only[loadVar,Sem.run_bind,bD.isAgg,Result.andThen_ok];cases ha:te.agg with
 |true=>
  simp only[ha,W2]at hs⊢;split at hs
  .rename_i hle;injection hs with hs;subst hs;have hlen:((us.drop off).take te.ty.size).length=te.ty.size:=by simp[hc.1];omega
   have hr:=run_loadCells_list (P:=P) w ⟨b,o+off,none⟩ ((us.drop off).take te.ty.size) (λj v hj=>by
    grind [WaP,Xay])
   rw[hlen]at hr;refine⟨.agg ((us.drop off).take te.ty.size).toArray,?_,_,rfl,(hc.drop off).take _⟩;simp[bD.sizeOf,hsz,hr]
  grind
 |false=>
  simp only[ha]at hs⊢;cases bA:cs[off]? with
  |none=>simp_all
  |some c=>
   simp[bA]at hs;subst hs;have hlt:off<us.length:=by rw[hc.1];grind
   have hu:us[off]?=some us[off]:=Xs hlt;refine⟨us[off],?_,hc.2 off c _ bA hu⟩;simp_all
end
section
variable{w0:World}{F:CS}{nt:Slots}{G0 G:GH}{ν:Nat->Nu}{st:St}{a:Act}{w:World}{P:Program}{T:Tab}
theorem Wrs{G:GH}:∀(t:Ty) (d:t.den) (v:Value),Enc G t d [v]->v.oneCell'=true
 | .int _,_,_,h=>by grind [Enc,Value.oneCell']
 | .bool,_,_,h=>by grind [Enc,Value.oneCell']
 | .str,_,_,h=>by grind [Enc,Value.oneCell']
 | .slice _,_,_,h=>by
  obtain⟨v,hv,hr⟩:=h;simp at hv;subst hv;rcases hr with⟨rfl,_⟩|⟨_,_,_,_,rfl,_⟩|⟨_,_,rfl,_⟩<;>rfl
 | .own _,_,_,h=>h.elim
 | .prod a b,d,v,h=>by
  have:=Enc_len _ _ _ h
  grind [Wbu,Ty.size]
theorem WM{t:Ty}{d:t.den}{v:Value}(h:Enc G t d [v]):AValRel G ν st.nx (one t d) v:=
 ⟨h,Wrs t d v h⟩
theorem Wf8:∀(v:Value) (c:Cell),Wah v=some c->CellRel G ν st.nx c v/\v.oneCell'=true
 | .int k n,c,h=>by simp[Wah]at h;subst h;exact⟨rfl,rfl⟩
 | .bool b,c,h=>by simp[Wah]at h;subst h;exact⟨rfl,rfl⟩
 | .string s,c,h=>by simp[Wah]at h;subst h;exact⟨by simp[CellRel,Enc],rfl⟩
 | .slice none 0 0,c,h=>by simp[Wah]at h;subst h;exact⟨rfl,rfl⟩
 | .slice none 0 (n+1),c,h=>by simp[Wah]at h
 | .slice none (n+1) _,c,h=>by simp[Wah]at h
 | .slice (some _) _ _,c,h=>by simp[Wah]at h
 | .pointer none,c,h=>by simp[Wah]at h;subst h;exact⟨trivial,rfl⟩
 | .nilFunc,c,h=>by simp[Wah]at h;subst h;exact⟨trivial,rfl⟩
 | .float _ _,_,h| .complex _ _ _,_,h| .pointer (some _),_,h| .map _,_,h| .chan _,_,h| .func _ _ _,_,h| .iface _ _,_,h| .nilIface,_,h| .agg _,_,h| .tuple _,_,h=>by simp[Wah]at h
theorem Wos:∀(vs:List Value) (cs:List Cell),vs.mapM Wah=some cs->CellsRel G ν st.nx cs vs
 | [],cs,h=>by grind [CellsRel.nil]
 |v::vs,cs,h=>by
  simp only[Xep,Option.bind_eq_bind,Option.bind_eq_some_iff]at h;obtain⟨c,hc,ds,hd,he⟩:=h;simp at he;subst he;obtain⟨h1,h2⟩:=Wf8 (G:=G) (ν:=ν) (st:=st) v c hc;exact(CellsRel.one h1 h2).append (Wos vs ds hd)
theorem WL(h:Rel w0 F nt G0 G ν st a w):∀(x:Operand) (av:AVal),ev st x=some av->AValRel G ν st.nx av (a.eval x)
 | .tmp t,av,he=>by
  obtain⟨v,hv,hr⟩:=h.env t av he;simpa [Act.eval,hv]using hr
 | .const v,av,he=>by
  simp only[ev,Wrq]at he;split at he
  .rename_i cs;cases hm:cs.toList.mapM Wah with
   |none=>simp[hm]at he
   |some l=>
    simp[hm]at he;subst he;exact⟨cs.toList,by simp[Act.eval],Wos _ _ hm⟩
  .cases hm:Wah v with
   |none=>simp[hm]at he
   |some c=>
    simp[hm]at he;subst he;obtain⟨h1,h2⟩:=Wf8 (G:=G) (ν:=ν) (st:=st) v c hm;exact⟨h1,h2⟩
 | .func f,av,he=>by
  simp[ev]at he;subst he;exact⟨⟨[],rfl,rfl,λj id u hj=>by simp at hj⟩,rfl⟩
 | .global g,av,he=>by simp[ev]at he
theorem Wft(av:AVal)(v:Value)(n:Int)(h:AValRel G ν st.nx av v)(he:asI av=some n):∃k,v= .int k n:=by
 unfold asI at he;split at he
 .rename_i k m;injection he with he;subst he;obtain⟨h1,_⟩:=h;simp[CellRel,Enc]at h1;exact⟨k,h1⟩
 .simp at he
theorem Wnb(av:AVal)(v:Value)(b:Bool)(h:AValRel G ν st.nx av v)(he:asB av=some b):v= .bool b:=by
 unfold asB at he;split at he
 .injection he with he;subst he;obtain⟨h1,_⟩:=h;simpa [CellRel,Enc]using h1
 .simp at he
def Gives(P:Program)(G:GH)(ν:Nat->Nu)(st:St)(w:World)(s:Sem Value)(r:AVal):Prop:=∃v,s.run P w= .ok v w/\AValRel G ν st.nx r v
theorem Gives.one{s:Sem Value}{t:Ty}{d:t.den}{v:Value}(hr:s.run P w= .ok v w)(h:Enc G t d [v]):Gives P G ν st w s (Sx.one t d):=⟨v,hr,WM h⟩
theorem Wp2{op:BinOp}{k:IntKind}{x y:Int}{r:AVal}(t:TypeId)(hs:op≠ .shl)(cT:op≠ .shr)(h:WuP op k x y=some (true,r)):
  Gives P G ν st w (Go.binOp op t (.int k x) (.int k y)) r:=by
 cases op<;>simp[WuP,inz]at h<;>first
  |exact WC rfl hs
  |exact WC rfl cT
  |(subst h;exact⟨_,by simp only[Go.binOp,ne_eq,not_true_eq_false,Wal,↓reduceIte,Op.intArith,Op.intBits,Op.intCmp]<;>rfl,WM rfl⟩)
  |(obtain⟨hz,rfl⟩:=h;exact⟨_,by simp[Go.binOp,Op.intDiv,hz,Wom,Wgi]<;>rfl,WM rfl⟩)
theorem WhS{op:BinOp}{k yk:IntKind}{x y:Int}{r:AVal}(t:TypeId)(h:(op= .shl/\(true,r)=(inn y,Sx.one (.int k) (WuL k x y)))\/(op= .shr/\(true,r)=(inn y,Sx.one (.int k) (WuV k x y)))):
  Gives P G ν st w (Go.binOp op t (.int k x) (.int yk y)) r:=by
 rcases h with⟨rfl,h⟩|⟨rfl,h⟩<;>simp[inn]at h<;>obtain⟨hn,rfl⟩:=h
 .exact⟨_,by simp[Go.binOp,Op.shift,Int.not_lt.2 hn,WuL]<;>rfl,WM rfl⟩
 .exact⟨_,by simp[Go.binOp,Op.shift,Int.not_lt.2 hn,WuV]<;>rfl,WM rfl⟩
theorem WpS{op:BinOp}{x y:List UInt8}{r:AVal}(t:TypeId)(h:WuZ op x y=some (true,r)):
  Gives P G ν st w (Go.binOp op t (.string ⟨x.toArray⟩) (.string ⟨y.toArray⟩)) r:=by
 cases op<;>simp[WuZ]at h
 .obtain⟨hf,rfl⟩:=h;simp[Wu3]at hf;refine⟨.string ⟨(x++y).toArray⟩,?_,WM rfl⟩;have e:(ByteArray.mk x.toArray++ByteArray.mk y.toArray)=⟨(x++y).toArray⟩:=by
   apply ByteArray.ext;simp
  have hsz:¬((((ByteArray.mk x.toArray).size+(ByteArray.mk y.toArray).size:Nat):Int)>IntKind.i64.max):=by
   have hm:IntKind.i64.max=9223372036854775807:=by decide
   simp only[ByteArray.size,List.size_toArray,hm];omega
  simp only[Go.binOp,Op.stringOp,Wb hsz,e];rfl
 .subst h;exact⟨_,by simp[Go.binOp,Op.stringOp]<;>rfl,WM rfl⟩
 .subst h;exact⟨_,by simp[Go.binOp,Op.stringOp]<;>rfl,WM rfl⟩
theorem WuB(x y:List UInt8):((ByteArray.mk x.toArray).toList==(ByteArray.mk y.toArray).toList)=seq x y:=by simp[seq]
theorem Wkz{te:TE}{c d:Cell}{b:Bool}{u v:Value}{t:TypeId}(bD:TEok P T t te)(hc:CellRel G ν st.nx c u)(hd:CellRel G ν st.nx d v)
  (h:Wj4 te c d=some b) (n:Nat):(Op.equalIn (n+1) t u v).run P w= .ok b w/\te.agg=false:=by
 have hu:=bD.und;unfold Wj4 at h;split at h
 .split at h
  .rename_i hk;subst hk;injection h with h;subst h;simp only[CellRel,Enc,List.cons.injEq,and_true]at hc hd;subst hc hd;exact⟨run_equalIn_int w n t _ _ _ _ hu.2,rfl⟩
  .simp at h
 .injection h with h;subst h;simp only[CellRel,Enc,List.cons.injEq,and_true]at hc hd;subst hc hd;exact⟨run_equalIn_bool' w n t _ _ hu.2,rfl⟩
 .injection h with h;subst h;simp only[CellRel,Enc,List.cons.injEq,and_true]at hc hd;subst hc hd;exact⟨(run_equalIn_string w n t _ _ hu.2).trans (Wn (Result.ok · w) (WuB _ _)),rfl⟩
 .simp at h
theorem WoC{t:TypeId}{te:TE}(bD:TEok P T t te)(ha:te.agg=false)(cs:Array Value)(off:Nat)(v:Value)(h:cs[off]?=some v):(part t cs off).run P w= .ok v w:=by
 simp only[part,Sem.run_bind,bD.isAgg,Result.andThen_ok,ha];simp[h]
theorem We3(hT:Waf P T)(n:Nat)(xs ys:Array Value):∀(fields:List Field) (k:Nat) (cs ds:List Cell) (b:Bool),
  (∀f∈fields,f.name≠ "_")→fields.map (·.offset)=List.range' k fields.length→
  (∀(j:Nat) (c:Cell),cs[j]?=some c->∃v,xs[k+j]?=some v/\CellRel G ν st.nx c v)->
  (∀(j:Nat) (c:Cell),ds[j]?=some c->∃v,ys[k+j]?=some v/\CellRel G ν st.nx c v)->
  WcC T (fields.map (·.type)) cs ds=some b->(Op.eqFields (n+1) xs ys fields).run P w= .ok b w
 | [],k,[],[],b,_,_,_,_,h=>by simp[WcC]at h;subst h;rfl
 |f::fs,k,c::cs,d::ds,b,hn,ho,hx,hy,h=>by
  simp only[Xaf,WcC]at h;cases hl:Wq T f.type with
  |none=>simp[hl]at h
  |some te=>
   simp only[hl]at h;cases h1:Wj4 te c d with
   |none=>simp[h1]at h
   |some p=>
    cases h2:WcC T (fs.map (·.type)) cs ds with
    |none=>simp[h1,h2]at h
    |some q=>
     simp[h1,h2]at h;subst h;obtain⟨u,hu,sh⟩:=hx 0 c rfl;obtain⟨v,hv,si⟩:=hy 0 d rfl;obtain⟨he,ha⟩:=Wkz (w:=w) (hT _ _ hl) sh si h1 n;simp only[Xaf,Xq,List.range'_succ,List.cons.injEq]at ho;have ih:=We3 hT n xs ys fs (k+1) cs ds q (λf hf=>hn f (Xf _ hf)) ho.2
      (λj c hj=>by have:=hx (j+1) c (by simpa using hj);rwa [Xay,Xct 1 j])
      (λj c hj=>by have:=hy (j+1) c (by simpa using hj);rwa [Xay,Xct 1 j]) h2
     simp only[Op.eqFields,Wf (hn f (Xj ..)),Sem.run_bind,ho.1];rw[Xbd]at hu hv;rw[WoC (hT _ _ hl) ha xs k u hu,Result.andThen_ok,WoC (hT _ _ hl) ha ys k v hv,Result.andThen_ok,he,Result.andThen_ok];cases p
     .simp
     .simpa using ih
 | [],_,_::_,_,_,_,_,_,_,h=>by simp[WcC]at h
 | [],_,[],_::_,_,_,_,_,_,h=>by simp[WcC]at h
 |_::_,_,[],_,_,_,_,_,_,h=>by simp[WcC]at h
 |_::_,_,_::_,[],_,_,_,_,_,h=>by simp[WcC]at h
theorem WbC{op:BinOp}{t:TypeId}{x y:Operand}{u v:Value}(hu:∀cs,u≠ .agg cs)(hn:u≠ .nilIface):(eqGuard op t x y u v).run P w= .ok () w:=by
 unfold eqGuard;cases op<;>simp<;>cases u<;>cases v<;>first|rfl|exact WC rfl hn|exact WC rfl (hu _)
theorem WmW(hT:Waf P T){op:BinOp}{t:TypeId}{x y:AVal}{u v:Value}{r:AVal}(ox oy:Operand)(hx:AValRel G ν st.nx x u)(hy:AValRel G ν st.nx y v)
  (h:Sx.binOp T op t x y=some (true,r)):Gives P G ν st w (do eqGuard op t ox oy u v;Go.binOp op t u v) r:=by
 unfold Sx.binOp at h;split at h
 .rename_i k m k' m';obtain⟨hx,_⟩:=hx;obtain⟨hy,_⟩:=hy;simp only[CellRel,Enc,List.cons.injEq,and_true]at hx hy;subst hx hy;have hg:(eqGuard op t ox oy (.int k m) (.int k' m')).run P w= .ok () w:=WbC (by simp) (by simp)
  suffices hh:Gives P G ν st w (Go.binOp op t (.int k m) (.int k' m')) r by
   obtain⟨z,h1,h2⟩:=hh;exact⟨z,by simp[hg,h1],h2⟩
  split at h
  .injection h with h;exact WhS t (.inl ⟨rfl,h.symm⟩)
  .injection h with h;exact WhS t (.inr ⟨rfl,h.symm⟩)
  .split at h
   .rename_i hk;subst hk;exact Wp2 t (by assumption) (by assumption) h
   .simp at h
 .rename_i m m';obtain⟨hx,_⟩:=hx;obtain⟨hy,_⟩:=hy;simp only[CellRel,Enc,List.cons.injEq,and_true]at hx hy;subst hx hy;obtain⟨z,h1,h2⟩:=WpS (w:=w) (P:=P) (G:=G) (ν:=ν) (st:=st) t h;exact⟨z,by simp[WbC,h1],h2⟩
 .rename_i m m';obtain⟨hx,_⟩:=hx;obtain⟨hy,_⟩:=hy;simp only[CellRel,Enc,List.cons.injEq,and_true]at hx hy;subst hx hy;split at h
  .rename_i hl;have hu:=(hT _ _ hl).und;simp only[true_and]at hu;have key:(Op.equalIn 10000 t (.bool m) (.bool m')).run P w= .ok (beq m m') w:=run_equalIn_bool' w 9999 t m m' hu;split at h<;>simp at h
   .subst h;exact⟨.bool (beq m m'),by simp[WbC,Go.binOp,Op.equal,Op.maxDepth,key],WM rfl⟩
   .subst h;exact⟨.bool (!beq m m'),by simp[WbC,Go.binOp,Op.equal,Op.maxDepth,key],WM rfl⟩
  .simp at h
 .rename_i cs ds;obtain⟨us,rfl,bA⟩:=hx;obtain⟨vs,rfl,gr⟩:=hy;split at h
  .rename_i fs hl;obtain⟨_,fields,hu,eI,sj,be,ra⟩:=(hT _ _ hl).und;split at h
   .rename_i hr;have hr:=WaH hr;have rb:P.fieldsOf t=fields:=by simp[Program.fieldsOf,hu]
    have key:∀b,WcC T (fs.map (·.2)) cs ds=some b->(Op.equalIn 10000 t (.agg us.toArray) (.agg vs.toArray)).run P w= .ok b w:=λb hb=>by
     rw[run_equalIn_struct w 9999 t _ _ (by rw[rb];exact hu) be,rb];refine We3 (G:=G) (ν:=ν) (st:=st) hT 9998 us.toArray vs.toArray fields.toList 0 cs ds b (λf hf=>sj f (by simpa using hf)) ?_ ?_ ?_ ?_
     .rw[←eI]at hr;simpa [List.range_eq_range',Function.comp_def]using hr
     .intro j c hj;have hlt:j<us.length:=by rw[bA.1];exact(Xaa.1 hj).1
      exact⟨us[j],by simp[hlt],(bA.2 j c _ hj (Xs hlt)).1⟩
     .intro j c hj;have hlt:j<vs.length:=by rw[gr.1];exact(Xaa.1 hj).1
      exact⟨vs[j],by simp[hlt],(gr.2 j c _ hj (Xs hlt)).1⟩
     .rw[←eI]at hb;simpa [Function.comp_def]using hb
    split at h
    .rename_i b hb;simp at h;subst h;exact⟨.bool b,by simp[run_eqGuard_agg w _ t ox oy _ _ ra,run_eql_struct,key b hb],WM rfl⟩
    .rename_i b hb;simp at h;subst h;exact⟨.bool (!b),by simp[run_eqGuard_agg w _ t ox oy _ _ ra,run_neq_struct,key b hb],WM rfl⟩
    .simp at h
   .simp at h
  .simp at h
 .simp at h
end
end Go.Sx
namespace Go.Sx
set_option linter.unusedVariables false
set_option linter.unusedSimpArgs false
section
variable{w0:World}{F:CS}{nt:Slots}{G0 G:GH}{ν:Nat->Nu}{st:St}{a:Act}{w:World}{P:Program}{T:Tab}
theorem HRel.g{objs:W9}{nx:Nat}(h:HRel w0 F G ν objs nx w){b o:Nat}{v:Value}(hg:G b o=some v):w.cell? ⟨b,o,none⟩=some v:=by
 obtain⟨φ,h⟩:=h;exact h.g b o v hg
theorem HRel.obj{objs:W9}{nx:Nat}(h:HRel w0 F G ν objs nx w){id:Nat}{ob:Ob}(ho:Wq objs id=some ob):∃S,Wch G ν nx w id S ob:=by
 obtain⟨φ,h⟩:=h;exact⟨φ id,h.ob id ob ho⟩
theorem Wgu{k:IntKind}{n:Int}{v:Value}(h:AValRel G ν st.nx (.s (.one (.val (.int k) n))) v):v= .int k n:=by
 obtain⟨h,_⟩:=h
 grind [CellRel,Enc]
theorem Wku{n:Bool}{v:Value}(h:AValRel G ν st.nx (.s (.one (.val .bool n))) v):v= .bool n:=by
 obtain⟨h,_⟩:=h
 grind [CellRel,Enc]
theorem WkZ{s:List UInt8}{v:Value}(h:AValRel G ν st.nx (.s (.one (.val .str s))) v):v= .string ⟨s.toArray⟩:=by
 obtain⟨h,_⟩:=h
 grind [CellRel,Enc]
theorem Wo1{op:UnOp}{x:AVal}{u:Value}{r:AVal}(hx:AValRel G ν st.nx x u)(h:Sx.unOp op x=some (true,r)):Gives P G ν st w (Op.unary op u) r:=by
 unfold Sx.unOp at h;split at h
 .have:=Wku hx;subst this;simp at h;subst h;exact⟨_,rfl,WM rfl⟩
 .have:=Wgu hx;subst this;simp at h;subst h;exact⟨_,rfl,WM rfl⟩
 grind
theorem WtJ{id:Nat}{e:Ty}{xs:List e.den}{nx:Nat}{S:CS}(h:Wch G ν nx w id S (.arr e xs)):∃a c,(ν id).hdr= .slice a xs.length c:=by
 obtain⟨hlen,_,az⟩:=h;unfold Nu.hdr;cases hb:(ν id).blk with
 |none=>simp_all
 |some b=>simp_all
theorem Wst{id:Nat}{e:Ty}{xs:List e.den}{i p nx:Nat}{S:CS}(h:Wch G ν nx w id S (.hole e xs i p)):∃a c,(ν id).hdr= .slice a xs.length c:=by
 obtain⟨_,hlen,_,_,b,hb,_⟩:=h;unfold Nu.hdr;simp_all
theorem Wt2{t ty:TypeId}(hu:P.underlying t=some .string)(s:List UInt8):(Builtin.len_ #[t] ty #[.string ⟨s.toArray⟩]).run P w= .ok (.int .i64 (Wh s)) w:=by
 have h1:(Builtin.len_ #[t] ty #[.string ⟨s.toArray⟩]).run P w= .ok (goInt (ByteArray.mk s.toArray).size) w:=by
  simp_all [Builtin.len_,Wl]
 rw[h1];rfl
theorem Wnj(hT:Waf P T)(hh:HRel w0 F G ν st.objs st.nx w){t ty:TypeId}{x:AVal}{u:Value}{r:AVal}(hx:AValRel G ν st.nx x u)(h:Wi6 T st t x=some (true,r)):
  Gives P G ν st w (Builtin.len_ #[t] ty #[u]) r:=by
 unfold Wi6 at h;split at h
 .rename_i te e l _ hl;simp at h;subst h;have hu:=(hT _ _ hl).und.2.1;obtain⟨⟨v,hv,hr⟩,_⟩:=hx;simp at hv;subst hv;rcases hr with⟨rfl,da⟩|⟨b,off,cap,cs,rfl,_⟩|⟨a,cap,rfl,da⟩
  rotate_left 2
  .exact⟨_,by simp[Builtin.len_,Wl hu]<;>rfl,WM (by rw[da];rfl)⟩
  .exact⟨_,by simp[Builtin.len_,Wl hu]<;>rfl,WM (by rw[da];rfl)⟩
  .exact⟨_,by simp[Builtin.len_,Wl hu]<;>rfl,WM rfl⟩
 .rename_i te e _ hl;simp at h;subst h;have hu:=(hT _ _ hl).und.2.1;obtain⟨hv,_⟩:=hx;simp only[CellRel]at hv;subst hv;exact⟨_,by simp[Builtin.len_,Wl hu]<;>rfl,WM rfl⟩
 .rename_i te e id hl;have hu:=(hT _ _ hl).und.2.1;obtain⟨⟨_,hv⟩,_⟩:=hx;subst hv;unfold obL at h;split at h
  .rename_i e' xs ho;simp at h;subst h;obtain⟨S,az⟩:=hh.obj ho;obtain⟨a,c,hd⟩:=WtJ az;rw[hd];exact⟨.int .i64 (Wh xs),by simp[Builtin.len_,Wl hu]<;>rfl,WM rfl⟩
  .rename_i e' xs i p ho;simp at h;subst h;obtain⟨S,az⟩:=hh.obj ho;obtain⟨a,c,hd⟩:=Wst az;rw[hd];exact⟨.int .i64 (Wh xs),by simp[Builtin.len_,Wl hu]<;>rfl,WM rfl⟩
  grind
 .rename_i te e id lo hi hl;simp only[Option.some.injEq,Prod.mk.injEq,true_and]at h;subst h;have hu:=(hT _ _ hl).und.2.1;obtain⟨⟨_,h1,h2,h3,hv⟩,_⟩:=hx;subst hv;unfold Nu.vhdr;cases hb:(ν id).blk with
  |none=>
   have h0:=h3 hb;have e0:hi-lo=0:=by omega
   rw[e0];exact⟨_,by simp[Builtin.len_,Wl hu]<;>rfl,WM rfl⟩
  |some b=>exact⟨.int .i64 ((hi-lo:Nat):Int),by simp[Builtin.len_,Wl hu]<;>rfl,WM rfl⟩
 .rename_i s hl;simp at h;subst h;have hu:=(hT _ _ hl).und.2;have:=WkZ hx;subst this;exact⟨.int .i64 (Wh (α:=UInt8) s),Wt2 hu s,WM rfl⟩
 grind
theorem WdB(hT:Waf P T){t:TypeId}{f off:Nat}{te:TE}(h:Wgl T t f=some (off,te)):
  ∃(fields:Array Field) (fd:Field),P.underlying t=some (.struct fields)/\fields[f]?=some fd/\fd.offset=off/\TEok P T fd.type te/\te.plain=true:=by
 unfold Wgl at h;split at h
 .rename_i fs hl;obtain⟨_,fields,hu,eI,_⟩:=(hT _ _ hl).und;split at h
  .rename_i o ft hf;split at h
   .rename_i dE da;split at h
    .rename_i hp;injection h with h;injection h with h1 h2;subst h1 h2;rw[←eI]at hf;simp only[Xan,Array.getElem?_toList]at hf;cases hQ:fields[f]? with
     |none=>simp_all
     |some fd=>
      simp[hQ]at hf;obtain⟨h1,h2⟩:=hf;subst h1 h2;exact⟨fields,fd,hu,hQ,rfl,hT _ _ da,hp⟩
    grind
   grind
  grind
 grind
theorem WfC{t:TypeId}{f off:Nat}{te:TE}{b o:Nat}{fields:Array Field}{fd:Field}(hu:P.underlying t=some (.struct fields))(hf:fields[f]?=some fd)(ho:fd.offset=off)
  (bD:TEok P T fd.type te) (hp:te.plain=true):(Instr.fieldAt t (.pointer (some ⟨b,o,none⟩)) f).run P w= .ok (.pointer (some ⟨b,o+off,none⟩)) w:=by
 have hsz:te.size≠0:=by grind [WW,Wbu]
 simp[Instr.fieldAt,Wl hu,hf,Instr.sureAddr,fieldPlace,bD.sizeOf,hsz,WaP,ho]
theorem Wgr(hT:Waf P T)(hh:HRel w0 F G ν st.objs st.nx w){t:TypeId}{f:Nat}{x:AVal}{u:Value}{r:AVal}(hx:AValRel G ν st.nx x u)(h:WbQ T st t x f=some (true,r)):
  Gives P G ν st w (Instr.fieldAt t u f) r:=by
 unfold WbQ at h;split at h
 .rename_i off te id o hf;obtain⟨fields,fd,hu,hQ,ho,bD,hp⟩:=WdB hT hf;split at h
  .simp at h;subst h;obtain⟨⟨h1,b,hb,rfl⟩,_⟩:=hx;exact⟨_,WfC hu hQ ho bD hp,⟨h1,b,hb,by rw[Xay]⟩,rfl⟩
  grind
 .rename_i off te id i o hf;obtain⟨fields,fd,hu,hQ,ho,bD,hp⟩:=WdB hT hf;split at h
  .simp at h;subst h;obtain⟨⟨h1,h2,b,hb,rfl⟩,_⟩:=hx;exact⟨_,WfC hu hQ ho bD hp,⟨h1,h2,b,hb,by rw[Xay,Xay]⟩,rfl⟩
  grind
 .rename_i off te t' d o hf;obtain⟨fields,fd,hu,hQ,ho,bD,hp⟩:=WdB hT hf;simp at h;subst h;obtain⟨⟨b,o',cs,rfl,h1,h2⟩,_⟩:=hx;exact⟨_,WfC hu hQ ho bD hp,⟨b,o',cs,by rw[Xay],h1,h2⟩,rfl⟩
 grind
theorem Wk6(hT:Waf P T){t:TypeId}{f:Nat}{x:AVal}{u:Value}{r:AVal}(hx:AValRel G ν st.nx x u)(h:Wnz T t x f=some (true,r)):
  Gives P G ν st w (Instr.field t u f) r:=by
 unfold Wnz at h;split at h
 .rename_i off te cs hf;obtain⟨fields,fd,hu,hQ,ho,bD,hp⟩:=WdB hT hf;obtain⟨us,rfl,bA⟩:=hx;cases hs:sub te.agg cs off te.ty.size with
  |none=>simp_all
  |some y=>
   simp[hs]at h;subst h;unfold sub at hs;simp only[Gives,Instr.field,Sem.run_bind,Wl hu,Result.andThen_ok,hQ,asAgg,Sem.run_pure,part,bD.isAgg];cases ha:te.agg with
   |true=>
    simp only[ha,W2]at hs⊢;split at hs
    .rename_i hle;injection hs with hs;subst hs;refine⟨.agg ((us.drop off).take te.ty.size).toArray,?_,_,rfl,(bA.drop off).take _⟩;simp[bD.sizeOf,WW hp,ho]
    grind
   |false=>
    simp only[ha]at hs⊢;cases hc:cs[off]? with
    |none=>simp_all
    |some c=>
     simp[hc]at hs;subst hs;have hlt:off<us.length:=by rw[bA.1];grind
     refine⟨us[off],?_,bA.2 off c _ hc (Xs hlt)⟩;simp_all
 grind
end
end Go.Sx
namespace Go.Sx
set_option linter.unusedVariables false
set_option linter.unusedSimpArgs false
section
variable{w0:World}{F:CS}{nt:Slots}{G0 G:GH}{ν:Nat->Nu}{st:St}{a:Act}{w:World}{P:Program}{T:Tab}
theorem WmD{α:Type}{R:α->List Value->Prop}{n:Nat}(h:∀x c,R x c->c.length=n)(l:List α)(cs:List Value)(i:Nat)(d:α)(he:EncL R l cs)(hi:i<l.length):
  R (l.getD i d) ((cs.drop (i*n)).take n):=EncL_nth h l cs i _ he (by simp_all)
theorem WdL{i:Int}{n:Nat}(h:inb i n=true):0<=i/\i<n:=by simpa [inb]using h
theorem WdQ{t et:TypeId}{te:TE}{k:IntKind}{n:Int}{b off len cap:Nat}(hu:P.underlying t=some (.slice et))(bD:TEok P T et te)(hp:te.plain=true)(h0:0<=n)(h1:n<len):
  (Instr.indexAt t (.slice (some ⟨b,off,none⟩) len cap) (.int k n)).run P w= .ok (.pointer (some ⟨b,off+n.toNat*te.ty.size,none⟩)) w:=by
 simp[Instr.indexAt,asIntOf,Wl hu,h0,h1,bD.sizeOf,WW hp,WaP]
theorem WrL(hT:Waf P T)(hh:HRel w0 F G ν st.objs st.nx w){t et:TypeId}{te:TE}{k:IntKind}{n:Int}{id:Nat}{u:Value}{r:AVal}(hu:P.underlying t=some (.slice et))(bD:TEok P T et te)(hp:te.plain=true)
  (hx:AValRel G ν st.nx (.s (.one (.own id))) u) (h:obI te n id (Wq st.objs id)=some (true,r)):Gives P G ν st w (Instr.indexAt t u (.int k n)) r:=by
 obtain⟨⟨bz,hv⟩,_⟩:=hx;subst hv;unfold obI at h;split at h
 .rename_i e xs az;split at h
  .rename_i he;simp only[Option.some.injEq,Prod.mk.injEq]at h;obtain⟨hb,rfl⟩:=h;obtain⟨h0,h1⟩:=WdL hb;obtain⟨S,hlen,cd,ho⟩:=hh.obj az;unfold Nu.hdr;cases bf:(ν id).blk with
   |none=>grind
   |some b=>
    refine⟨.pointer (some ⟨b,(ν id).off+n.toNat*te.ty.size,none⟩),WdQ hu bD hp h0 (by omega),⟨bz,by omega,b,bf,?_⟩,rfl⟩;rw[cd,he,Wbi,Xbd]
  grind
 .rename_i e xs i p az;split at h
  .rename_i he;simp only[Option.some.injEq,Prod.mk.injEq,Xi]at h;obtain⟨⟨hb,hi⟩,rfl⟩:=h;obtain⟨h0,h1⟩:=WdL hb;have hi:=Xch hi;obtain⟨S,j8,hlen,cd,hlt,b,bf,fH,sm,ho⟩:=hh.obj az;unfold Nu.hdr;simp only[bf];refine⟨.pointer (some ⟨b,(ν id).off+n.toNat*te.ty.size,none⟩),WdQ hu bD hp h0 (by omega),⟨j8,b,fH,?_⟩,rfl⟩;rw[sm,he,Wbi,Xbd,hi]
  grind
 grind
theorem Wpm(hT:Waf P T)(hh:HRel w0 F G ν st.objs st.nx w){t et:TypeId}{te:TE}{k:IntKind}{n:Int}{id lo hi:Nat}{u:Value}{r:AVal}(hu:P.underlying t=some (.slice et))(bD:TEok P T et te)(hp:te.plain=true)
  (hx:AValRel G ν st.nx (.s (.one (.vw id lo hi))) u) (h:Wut te n id lo hi (Wq st.objs id)=some (true,r)):Gives P G ν st w (Instr.indexAt t u (.int k n)) r:=by
 obtain⟨⟨bz,g1,g2,g3,hv⟩,_⟩:=hx;subst hv;unfold Wut at h;split at h
 .rename_i e xs az;split at h
  .rename_i he;simp only[Option.some.injEq,Prod.mk.injEq]at h;obtain⟨hb,rfl⟩:=h;obtain⟨h0,h1⟩:=WdL hb;obtain⟨S,hlen,cd,ho⟩:=hh.obj az;unfold Nu.vhdr;cases bf:(ν id).blk with
   |none=>grind
   |some b=>
    simp only[bf]at ho;have hne:(ν id).cap≠lo:=by omega
    rw[Wb hne];refine⟨.pointer (some ⟨b,(ν id).off+lo*(ν id).esz+n.toNat*te.ty.size,none⟩),WdQ hu bD hp h0 h1,⟨bz,by omega,b,bf,?_⟩,rfl⟩;rw[cd,he,Wbi,Xbd,Xcp,Xay]
  grind
 grind
theorem WpU(hT:Waf P T)(hh:HRel w0 F G ν st.objs st.nx w){t et:TypeId}{te:TE}{k:IntKind}{n:Int}{m id:Nat}{u:Value}{r:AVal}(hu:P.underlying t=some (.array m et))(bD:TEok P T et te)(hp:te.plain=true)
  (hx:AValRel G ν st.nx (.s (.one (.aptr id))) u) (h:Wuo te n m id (Wq st.objs id)=some (true,r)):Gives P G ν st w (Instr.indexAt t u (.int k n)) r:=by
 obtain⟨⟨bz,b,bf,hv⟩,_⟩:=hx;subst hv;unfold Wuo at h;split at h
 .rename_i e xs az;split at h
  .rename_i he;simp only[Option.some.injEq,Prod.mk.injEq,Xi,Wi]at h;obtain⟨⟨hb,hm⟩,rfl⟩:=h;obtain⟨h0,h1⟩:=WdL hb;obtain⟨S,hlen,cd,ho⟩:=hh.obj az;refine⟨.pointer (some ⟨b,(ν id).off+n.toNat*e.size,none⟩),?_,⟨bz,by omega,b,bf,by rw[cd,Xbd]⟩,rfl⟩;have:((0:Int)<=n/\n<(m:Int)):=⟨h0,h1⟩;simp only[Instr.indexAt,asIntOf,Sem.run_bind,Sem.run_pure,Result.andThen_ok,Wl hu,Instr.sureAddr,Wf this,bD.sizeOf,WW hp,WaP,he]
  grind
 grind
theorem WgA(hT:Waf P T)(hh:HRel w0 F G ν st.objs st.nx w){t:TypeId}{x i:AVal}{u v:Value}{r:AVal}(hx:AValRel G ν st.nx x u)(hi:AValRel G ν st.nx i v)
  (h:WbV T st t x i=some (true,r)):Gives P G ν st w (Instr.indexAt t u v) r:=by
 unfold WbV at h;split at h
 .rename_i ty ag et n hl hn;obtain⟨k,rfl⟩:=Wft _ _ _ hi hn;have hu:=(hT _ _ hl).und.2.1;split at h
  .rename_i te hle;split at h
   .rename_i hp;split at h
    .rename_i e l;split at h
     .rename_i he;simp only[Option.some.injEq,Prod.mk.injEq]at h;obtain⟨hb,rfl⟩:=h;obtain⟨h0,h1⟩:=WdL hb;obtain⟨⟨z,hz,hr⟩,_⟩:=hx;simp at hz;subst hz;rcases hr with⟨rfl,da⟩|⟨b,off,cap,cs,rfl,h2,h3,h4,h5⟩|⟨a,cap,rfl,da⟩
      rotate_left 2
      .grind
      .grind
      .have hlt:n.toNat<Xb l:=by omega
       refine⟨_,WdQ hu (hT _ _ hle) hp h0 h1,⟨b,off+n.toNat*e.size,_,?_,WmD (λx c hc=>Enc_len e x c hc) l cs n.toNat e.dflt h4 hlt,?_⟩,rfl⟩
       .grind
       .intro j v hj;rw[Xbm]at hj;split at hj
        .rw[Xbl]at hj;rw[Xay];exact h5 _ _ hj
        grind
     grind
    .simp at h
    .exact WrL hT hh hu (hT _ _ hle) hp hx h
    .exact Wpm hT hh hu (hT _ _ hle) hp hx h
    grind
   grind
  grind
 .rename_i ty ag m et n hl hn;obtain⟨k,rfl⟩:=Wft _ _ _ hi hn;have hu:=(hT _ _ hl).und.2.1;split at h
  .rename_i te hle;split at h
   .rename_i hp;split at h
    .exact WpU hT hh hu (hT _ _ hle) hp hx h
    grind
   grind
  grind
 grind
theorem WtO(s:List UInt8)(n:Nat)(h:n<s.length):(ByteArray.mk s.toArray)[n]?=some (s.getD n 0):=by
 grind [ByteArray.getElem?_lt',ByteArray.size,ByteArray.getElem_eq_getElem_data]
theorem WjG{k:IntKind}:∀(cs:List Cell) (us:List Value) (l:List Int),Wbs k cs=some l->CellsRel G ν st.nx cs us->l.length=cs.length/\∀j,j<us.length->us[j]?=some (.int k (Xc l j (0:Int)))
 | [],us,l,h,hc=>by
  simp only[Wbs]at h;injection h with h;subst h;have:=hc.1;simp_all
 | .val (.int k') d::cs,us,l,h,hc=>by
  simp only[Wbs]at h;split at h
  .rename_i hk;subst hk;cases hi:Wbs k' cs with
   |none=>simp_all
   |some l'=>
    rw[hi]at h;simp only[Xby]at h;injection h with h;subst h;cases us with
    |nil=>have:=hc.1;grind
    |cons u us=>
     have h0:=(hc.2 0 _ u rfl rfl).1;have hu:u= .int k' d:=by grind [CellRel,Enc]
     obtain⟨h1,h2⟩:=WjG cs us l' hi ⟨by have:=hc.1;simp_all,λj c v hj hv=>hc.2 (j+1) c v (by simp_all) (by simp_all)⟩
     grind
  .cases h
 | .val .bool d::cs,us,l,h,_=>by simp[Wbs]at h
 | .val .str d::cs,us,l,h,_=>by simp[Wbs]at h
 | .val (.slice _) d::cs,us,l,h,_=>by simp[Wbs]at h
 | .val (.own _) d::cs,us,l,h,_=>by simp[Wbs]at h
 | .val (.prod _ _) d::cs,us,l,h,_=>by simp[Wbs]at h
 | .nils::cs,us,l,h,_=>by simp[Wbs]at h
 | .own _::cs,us,l,h,_=>by simp[Wbs]at h
 | .vw _ _ _::cs,us,l,h,_=>by simp[Wbs]at h
 | .aptr _::cs,us,l,h,_=>by simp[Wbs]at h
 | .ptr _ _::cs,us,l,h,_=>by simp[Wbs]at h
 | .eptr _ _ _::cs,us,l,h,_=>by simp[Wbs]at h
 | .rptr _ _ _::cs,us,l,h,_=>by simp[Wbs]at h
 | .clos _ _::cs,us,l,h,_=>by simp[Wbs]at h
 | .junk::cs,us,l,h,_=>by simp[Wbs]at h
theorem Wkl(hT:Waf P T){t:TypeId}{x i:AVal}{u v:Value}{r:AVal}(hx:AValRel G ν st.nx x u)(hi:AValRel G ν st.nx i v)
  (h:WnF T t x i=some (true,r)):Gives P G ν st w (Instr.index t u v) r:=by
 unfold WnF at h;split at h
 .rename_i s n hl hn;obtain⟨k,rfl⟩:=Wft _ _ _ hi hn;have:=WkZ hx;subst this;have hu:=(hT _ _ hl).und.2;simp only[Option.some.injEq,Prod.mk.injEq]at h;obtain⟨hb,rfl⟩:=h;obtain⟨h0,h1⟩:=WdL hb;have hlt:n.toNat<Xb s:=by omega
  refine⟨.int .u8 ((Xc s n.toNat 0).toNat:Int),?_,WM rfl⟩;simp only[Instr.index,asIntOf,Sem.run_bind,Sem.run_pure,Result.andThen_ok,Wl hu,Wf h0,WtO s n.toNat hlt]
 .rename_i k ag m et cs n hl hn;split at h
  .rename_i k' hle;split at h
   .rename_i l mE;split at h
    .rename_i hc;obtain⟨rfl,hm⟩:=hc;obtain⟨kk,rfl⟩:=Wft _ _ _ hi hn;obtain⟨us,rfl,bA⟩:=hx;simp only[Option.some.injEq,Prod.mk.injEq]at h;obtain⟨hb,rfl⟩:=h;obtain⟨h0,h1⟩:=WdL hb;obtain⟨hlen,ga⟩:=WjG _ _ _ mE bA;have hu:=(hT _ _ hl).und.2.1;have rc:=hT _ _ hle;have me:(Go.isAgg et).run P w= .ok false w:=rc.isAgg;have hsz:(Go.sizeOf et).run P w= .ok 1 w:=rc.sizeOf;have hlt:n.toNat<us.length:=by rw[bA.1];omega
     have iM:us[n.toNat]?=some (.int k' (Xc l n.toNat (0:Int))):=ga _ hlt;refine⟨.int k' (Xc l n.toNat (0:Int)),?_,WM rfl⟩;simp only[Instr.index,asIntOf,Sem.run_bind,Sem.run_pure,Result.andThen_ok,Wl hu,h0,h1,and_self,W2,hsz,part,me,Nat.mul_one];simp[iM]
    grind
   grind
  grind
 grind
theorem WiA{k:IntKind}{n:Int}{y:Nat}{c:BoundsCode}(h0:0<=n)(h1:n<=y):(Instr.sliceBound (.int k n) y c).run P w= .ok n.toNat w:=by
 simp[Instr.sliceBound,asIntOf,h0,h1]
inductive BRel:Option Int->Option Value->Prop where
 |none:BRel .none .none
 |some (k:IntKind) (n:Int):BRel (.some n) (.some (.int k n))
theorem Wc5(h:Rel w0 F nt G0 G ν st a w)(o:Option Operand)(r:Option Int)(he:Wlh st o=some r):BRel r (o.map a.eval):=by
 cases o with
 |none=>simp[Wlh]at he;subst he;exact .none
 |some x=>
  simp only[Wlh]at he;cases hv:ev st x with
  |none=>simp_all
  |some av=>
   simp only[hv,Option.bind_some]at he;cases hi:asI av with
   |none=>simp_all
   |some n=>
    simp[hi]at he;subst he;obtain⟨k,hk⟩:=Wft _ _ _ (WL h x av hv) hi;simp only[Xby,hk];exact .some k n
theorem WcA{isSlice:Bool}{n cap:Nat}{lo hi:Option Int}{vl vh:Option Value}(hl:BRel lo vl)(hh:BRel hi vh)(hc:n<=cap)(hb:(Wcx n lo hi).1=true):
  (Instr.sliceBounds isSlice n cap vl vh none).run P w= .ok ((Wcx n lo hi).2.1,(Wcx n lo hi).2.2,cap) w/\(Wcx n lo hi).2.1<=(Wcx n lo hi).2.2/\(Wcx n lo hi).2.2<=n:=by
 cases hl<;>cases hh<;>simp only[Wcx,Xi,Wi]at hb⊢
 .simp[Instr.sliceBounds]
 .grind [Instr.sliceBounds,Sem.run_bind,Sem.run_pure,Result.andThen_ok,WiA]
 .grind [Instr.sliceBounds,Sem.run_bind,Sem.run_pure,Result.andThen_ok,WiA]
 .rename_i k l k' h;obtain⟨⟨⟨h1,h2⟩,h3⟩,h4⟩:=hb;refine⟨?_,by omega,by omega⟩;simp only[Instr.sliceBounds,Sem.run_bind,Sem.run_pure,Result.andThen_ok]
  grind [WiA,Result.andThen_ok]
theorem WkJ{α:Type}(l:List α)(lo hi:Option Int):Ws4 l lo hi=(l.take (Wcx l.length lo hi).2.2).drop (Wcx l.length lo hi).2.1:=by
 cases lo<;>cases hi<;>simp[Ws4,Wcx]
theorem WtV(s:List UInt8)(l h:Nat):(ByteArray.mk s.toArray).extract l h=⟨((s.take h).drop l).toArray⟩:=by
 apply ByteArray.ext;simp[ByteArray.data_extract,List.extract_eq_take_drop,List.drop_take]
theorem WqL{t:TypeId}{lo hi:Option Int}{vl vh:Option Value}(hu:P.underlying t=some .string)(s:List UInt8)(hl:BRel lo vl)(hh:BRel hi vh)(hb:(Wcx s.length lo hi).1=true):
  (Instr.sliceAt t (.string ⟨s.toArray⟩) vl vh none).run P w= .ok (.string ⟨(Ws4 s lo hi).toArray⟩) w:=by
 have hsz:(ByteArray.mk (List.toArray s)).size=Xb s:=by simp[ByteArray.size]
 obtain⟨hr,h3,h4⟩:=WcA (P:=P) (w:=w) (isSlice:=false) (cap:=Xb s) hl hh (Xl _) hb;simp only[Instr.sliceAt,Instr.slice,Sem.run_bind,Wl hu,Result.andThen_ok,Option.isSome_none,Bool.false_eq_true,Wal,Sem.run_pure,hsz,hr,WtV,WkJ]
theorem WrX{t et:TypeId}{te:TE}{lo hi:Option Int}{vl vh:Option Value}{α:Type}{R:α->List Value->Prop}{n:Nat}(hR:∀x c,R x c->c.length=n)(hu:P.underlying t=some (.slice et))(bD:TEok P T et te)(hp:te.plain=true)(hn:te.ty.size=n)
  (xs:List α) {v:Value} (hx:Wjh G R xs v) (hl:BRel lo vl) (hh:BRel hi vh) (hb:(Wcx xs.length lo hi).1=true):
  ∃v',(Instr.sliceAt t v vl vh none).run P w= .ok v' w/\Wjh G R (Ws4 xs lo hi) v':=by
 rcases hx with⟨rfl,bu⟩|⟨b,off,cap,cs,rfl,h3,h4,h5,h6⟩|⟨a,cap,rfl,bu⟩
 rotate_left 2
 .subst bu;obtain⟨hr,h3,h4⟩:=WcA (P:=P) (w:=w) (isSlice:=true) (cap:=cap) hl hh (Xcf _) hb;have e1:(Wcx 0 lo hi).2.2=0:=by omega
  have e2:(Wcx 0 lo hi).2.1=0:=by omega
  rw[e1,e2]at hr;refine⟨.slice (some a) 0 cap,?_,.inr (.inr ⟨a,cap,rfl,?_⟩)⟩
  .simp only[Instr.sliceAt,Instr.slice,Sem.run_bind,Wl hu,Result.andThen_ok,hr,bD.sizeOf,Sem.run_pure,Xby];simp[Addr.add]
  .rw[WkJ];simp
 .subst bu;obtain⟨hr,h3,h4⟩:=WcA (P:=P) (w:=w) (isSlice:=true) (cap:=0) hl hh (Xl _) hb;refine⟨.slice none 0 0,?_,.inl ⟨rfl,?_⟩⟩
  .have e1:(Wcx 0 lo hi).2.2=0:=by omega
   have e2:(Wcx 0 lo hi).2.1=0:=by omega
   rw[e1,e2]at hr;simp[Instr.sliceAt,Instr.slice,Wl hu,hr,bD.sizeOf]
  .rw[WkJ];simp
 .obtain⟨hr,h7,h8⟩:=WcA (P:=P) (w:=w) (isSlice:=true) (cap:=cap) hl hh h3 hb;have sn:=WkJ xs lo hi;generalize (Wcx xs.length lo hi).2.1=p at*;generalize (Wcx xs.length lo hi).2.2=q at*;have hsz:te.size=n:=by rw[WW hp,hn]
  have hlen:(Ws4 xs lo hi).length=q-p:=by simp_all
  refine⟨.slice (some (if cap=p then⟨b,off,none⟩else⟨b,off+p*n,none⟩)) (q-p) (cap-p),?_,.inr (.inl ?_)⟩
  .simp only[Instr.sliceAt,Instr.slice,Sem.run_bind,Wl hu,Result.andThen_ok,hr,bD.sizeOf,Sem.run_pure,hsz,Xby,WaP];split<;>rfl
  .by_cases hc:cap=p
   .have h0:Ws4 xs lo hi= []:=Xz (by omega);refine⟨b,off,cap-p,[],?_,by omega,by omega,?_,λj v hj=>by simp at hj⟩
    .rw[Wf hc];rw[hlen]
    .rw[h0];rfl
   .refine⟨b,off+p*n,cap-p,(cs.take (q*n)).drop (p*n),?_,by omega,by omega,?_,?_⟩
    .rw[Wb hc,hlen]
    .grind [WeA,Wew]
    .intro j v hj;rw[Xbl,Xbm]at hj;split at hj
     .rw[Xay];exact h6 _ _ hj
     grind
theorem Wkk(hT:Waf P T){t:TypeId}{x:AVal}{u:Value}{vl vh:Option Value}{lo hi:Option Operand}{r:AVal}(hx:AValRel G ν st.nx x u)
  (hl:∀l,Wlh st lo=some l->BRel l vl) (hh:∀l,Wlh st hi=some l->BRel l vh)
  (h:Wlf T st t x lo hi=some (true,r)):Gives P G ν st w (Instr.sliceAt t u vl vh none) r:=by
 unfold Wlf at h;split at h
 .rename_i s l h' og h1 h2;have:=WkZ hx;subst this;simp only[Option.some.injEq,Prod.mk.injEq]at h;obtain⟨hb,rfl⟩:=h;exact⟨_,WqL (hT _ _ og).und.2 s (hl _ h1) (hh _ h2) hb,WM rfl⟩
 .rename_i ty ag et e xs l h' og h1 h2;have hu:=(hT _ _ og).und.2.1;split at h
  .rename_i te hle;split at h
   .rename_i so;obtain⟨he,hp⟩:=so;simp only[Option.some.injEq,Prod.mk.injEq]at h;obtain⟨hb,rfl⟩:=h;obtain⟨⟨z,hz,hr⟩,_⟩:=hx;simp at hz;subst hz;obtain⟨v',h3,h4⟩:=WrX (P:=P) (T:=T) (w:=w) (λx c hc=>Enc_len e x c hc) hu (hT _ _ hle) hp (by rw[he]) xs hr (hl _ h1) (hh _ h2) hb;exact⟨v',h3,WM ⟨v',rfl,h4⟩⟩
   grind
  grind
 grind
end
end Go.Sx
namespace Go.Sx
set_option linter.unusedVariables false
set_option linter.unusedSimpArgs false
section
variable{w0:World}{F:CS}{nt:Slots}{G0 G:GH}{ν:Nat->Nu}{st:St}{a:Act}{w:World}{P:Program}{T:Tab}
theorem Wil{k:IntKind}:∀(l:List Int) (cs:List Value),EncL (Enc G (.int k)) l cs->cs=l.map (Value.int k)
 | [],cs,h=>h
 |x::l,cs,⟨c1,c2,he,h1,h2⟩=>by
  have:=Wil l c2 h2
  grind [Enc]
theorem Wlm{t e:TypeId}{dst:TypeId}(hs:P.underlying t=some (.slice e))(he:P.underlying e=some (.int .u8))(hd:P.underlying dst=some .string){b off cap:Nat}(l:List Int)
  (hm:∀j v,(l.map (Value.int .u8))[j]?=some v->w.cell? ⟨b,off+j,none⟩=some v):
  (convert t dst (.slice (some ⟨b,off,none⟩) l.length cap)).run P w= .ok (.string ⟨(Wsf l).toArray⟩) w:=by
 rw[run_convert_bytes_string w t dst e _ _ _ hs he hd];have h1:=run_loadCells_list (P:=P) w ⟨b,off,none⟩ (l.map (Value.int .u8)) (λj v hj=>by grind [WaP]);rw[Xx]at h1;rw[run_bytesToString w _ _ _ l h1,foldl_push_bytes];simp[ByteArray.ext,Wsf]
theorem WhH{t e:TypeId}{dst:TypeId}(hs:P.underlying t=some (.slice e))(he:P.underlying e=some (.int .u8))(hd:P.underlying dst=some .string)(l c:Nat):
  (convert t dst (.slice none l c)).run P w= .ok (.string ⟨#[]⟩) w:=by
 rw[run_convert_bytes_string w t dst e _ _ _ hs he hd];rfl
theorem Wpt{t e:TypeId}{dst:TypeId}(hs:P.underlying t=some (.slice e))(he:P.underlying e=some (.int .u8))(hd:P.underlying dst=some .string)(a:Addr)(c:Nat):
  (convert t dst (.slice (some a) 0 c)).run P w= .ok (.string ⟨#[]⟩) w:=by
 rw[run_convert_bytes_string w t dst e _ _ _ hs he hd];have h1:=run_loadCells_list (P:=P) w a ([].map (Value.int .u8)) (λj v hj=>by simp at hj);simp only[Xce,List.length_nil]at h1;rw[run_bytesToString w _ _ _ [] (by simp_all),foldl_push_bytes];rfl
theorem WmQ(hT:Waf P T)(hh:HRel w0 F G ν st.objs st.nx w){src dst:TypeId}{x:AVal}{u:Value}{r:AVal}(hx:AValRel G ν st.nx x u)
  (h:WjK T st src dst x=some (true,r)):Gives P G ν st w (convert src dst u) r:=by
 unfold WjK Wun at h;split at h
 .rename_i k0 k k1 n h1 h2;have:=Wgu hx;subst this;have hs:=(hT _ _ h1).und.2;have hd:=(hT _ _ h2).und.2;simp at h;subst h;exact⟨.int k (k.wrap n),by simp_all [convert,Wl,Conv.intToInt],WM rfl⟩
 .rename_i s h1 h2;have:=WkZ hx;subst this;have hs:=(hT _ _ h1).und.2;have hd:=(hT _ _ h2).und.2;simp at h;subst h;exact⟨_,by simp[convert,Wl hs,Wl hd]<;>rfl,WM rfl⟩
 .rename_i ty ag et c h1 h2;have hs:=(hT _ _ h1).und.2.1;have hd:=(hT _ _ h2).und.2;split at h
  .rename_i h3;have he:=(hT _ _ h3).und.2;split at h
   .rename_i l;simp at h;subst h;obtain⟨⟨z,hz,hr⟩,_⟩:=hx;simp at hz;subst hz;rcases hr with⟨rfl,bu⟩|⟨b,off,cap,cs,rfl,h4,h5,h6,h7⟩|⟨a,cap,rfl,bu⟩
    rotate_left 2
    .refine⟨_,Wpt hs he hd a _,WM ?_⟩;rw[bu];rfl
    .refine⟨_,WhH hs he hd _ _,WM ?_⟩;rw[bu];rfl
    .have bA:=Wil _ _ h6;exact⟨_,Wlm hs he hd l (λj v hj=>hh.g (h7 j v (by simp_all))),WM rfl⟩
   .simp at h;subst h;obtain⟨hv,_⟩:=hx;simp only[CellRel]at hv;subst hv;exact⟨_,WhH hs he hd _ _,WM rfl⟩
   .rename_i id;split at h
    .rename_i xs az;simp at h;subst h;obtain⟨⟨bz,hv⟩,_⟩:=hx;subst hv;obtain⟨S,ho⟩:=hh.obj az;unfold Nu.hdr;cases bf:(ν id).blk with
     |none=>
      have hn:=Wb8 ho bf;refine⟨_,WhH hs he hd _ _,WM ?_⟩;rw[hn];rfl
     |some b=>
      obtain⟨hlen,h4,h5,h6,cs,h7,h8,h9⟩:=Wdp (e:=.int .u8) rfl ho bf;have bA:=Wil _ _ h7;simp only[←hlen];exact⟨_,Wlm hs he hd xs (λj v hj=>h8 j v (by simp_all)),WM rfl⟩
    grind
   grind
  grind
 grind
theorem WtM{x:Operand}{o:Oper}(ho:o.op= .nilCheck x){ρ:Operand->Value}{p:Addr}(h:ρ x= .pointer (some p)):(execOp ρ o).run P w= .ok (.value (.pointer (some p))) w:=by
 simp[execOp,ho,h]
theorem Wqn{x r:AVal}{u:Value}(hx:AValRel G ν st.nx x u)(h:Wpp st x=some (true,r)):r=x/\∃p,u= .pointer (some p):=by
 unfold Wpp at h;split at h
 .simp at h;subst h;obtain⟨⟨b,o,cs,rfl,_⟩,_⟩:=hx;simp_all
 .split at h
  .simp at h;subst h;obtain⟨⟨_,b,_,rfl⟩,_⟩:=hx;simp_all
  grind
 .split at h
  .simp at h;subst h;obtain⟨⟨_,_,b,_,rfl⟩,_⟩:=hx;simp_all
  grind
 .split at h
  .simp at h;subst h;obtain⟨⟨_,b,_,rfl⟩,_⟩:=hx;simp_all
  grind
 grind
theorem Wjv(hr:Rel w0 F nt G0 G ν st a w):∀(l:List Operand) (ids:List Nat),Wf2 st l=some ids->
  ids.length=l.length/\∀(j id:Nat) (u:Value),ids[j]?=some id->(l.map a.eval)[j]?=some u->id<st.nx/\u.oneCell'=true/\∃b,(ν id).blk=some b/\u= .pointer (some ⟨b,(ν id).off+0,none⟩)
 | [],ids,h=>by simp[Wf2]at h;simp_all
 |o::l,ids,h=>by
  simp only[Wf2]at h;split at h
  .rename_i id r h1 h2;injection h with h;subst h;obtain⟨h3,h4⟩:=Wjv hr l r h2;refine⟨by simp[h3],λj i u hj hu=>?_⟩;cases j with
   |zero=>
    simp at hj hu;subst hj hu;obtain⟨⟨g1,g2⟩,g3⟩:=WL hr o _ h1;simp_all
   |succ j=>grind
  grind
theorem WgY(hT:Waf P T)(hh:HRel w0 F G ν st.objs st.nx w){t:TypeId}{x:AVal}{u:Value}{r:AVal}(hx:AValRel G ν st.nx x u)(h:WgX T st t x=some r):
  Gives P G ν st w (Instr.loadAt t u) r:=by
 unfold WgX at h;split at h
 .rename_i te hl;split at h
  .rename_i hp;split at h
   .rename_i id off;split at h
    .rename_i cs az;obtain⟨⟨_,b,hb,rfl⟩,_⟩:=hx;obtain⟨S,b',vs,hb',hrow,hmem,bA,_⟩:=hh.obj az;rw[hb]at hb';injection hb' with hb';subst hb';obtain⟨v,h3,h4⟩:=WgE (hT _ _ hl) hp bA (o:=(ν id).off) hmem h;exact⟨v,by grind [Instr.loadAt,Instr.sureAddr],h4⟩
    grind
   .rename_i id i off;split at h
    .rename_i e xs az;obtain⟨⟨_,hlt,b,hb,rfl⟩,_⟩:=hx;obtain⟨S,ho⟩:=hh.obj az;have cd:=ho.2.1;obtain⟨c,p,h1,h2⟩:=WqN ho hb (by rw[ho.1];exact hlt);obtain⟨v,h9,cu⟩:=WgE (hT _ _ hl) hp (Whs (ν:=ν) (nx:=st.nx) e _ _ _ h1) (w:=w) (b:=b) (o:=(ν id).off+i*e.size) h2 h;exact⟨v,by grind [Instr.loadAt,Instr.sureAddr,Xay],cu⟩
    grind
   .rename_i t' d off;obtain⟨⟨b,o,cs,rfl,h1,h2⟩,_⟩:=hx;obtain⟨v,h9,cu⟩:=WgE (hT _ _ hl) hp (Waw (G:=G) (ν:=ν) (nx:=st.nx) t' d _ h1) (w:=w) (b:=b) (o:=o) (λj v hj=>hh.g (h2 j v hj)) h;exact⟨v,by grind [Instr.loadAt,Instr.sureAddr],cu⟩
   grind
  grind
 grind
theorem Wog{G:GH}{k:IntKind}:∀(xs:List Int) (cs:List Value),EncL (Enc G (.int k)) xs cs->cs=xs.map λx=>Value.int k x
 | [],cs,h=>h
 |x::xs,cs,⟨c1,c2,h1,h2,h3⟩=>by
  have:c1= [.int k x]:=h2;rw[h1,this,Wog xs c2 h3];rfl
theorem WoP{k:IntKind}{xs:List Int}:∀(n i j:Nat),(Wto k xs i n)[j]?=if j<n then some (.val (.int k) (xs.getD (i+j) (0:Int)))else none
 |0,i,j=>by simp[Wto]
 |n+1,i,j=>by
  cases j with
  |zero=>simp[Wto]
  |succ j=>
   rw[Wto,List.getElem?_cons_succ,WoP n (i+1) j,show i+1+j=i+(j+1) by omega];simp_all
theorem Wox{k:IntKind}{xs:List Int}:∀(n i:Nat),(Wto k xs i n).length=n
 |0,i=>rfl
 |n+1,i=>by rw[Wto,Xq,Wox n (i+1)]
theorem Wj0(hT:Waf P T)(hh:HRel w0 F G ν st.objs st.nx w){t:TypeId}{x:AVal}{u:Value}{r:AVal}(hx:AValRel G ν st.nx x u)(h:WfD T st t x=some (true,r)):
  Gives P G ν st w (Instr.loadAt t u) r:=by
 unfold WfD at h;split at h
 .rename_i k n et hl;split at h
  .rename_i id;split at h
   .rename_i k' xs az;change List Int at xs;split at h
    .rename_i hk;subst hk;simp only[Option.some.injEq,Prod.mk.injEq,Wi]at h;obtain⟨hn,rfl⟩:=h;obtain⟨⟨_,b,hb,rfl⟩,_⟩:=hx;obtain⟨S,ho⟩:=hh.obj az;obtain⟨hlen,h4,h5,h6,cs,h7,h8,h9⟩:=Wdp (e:=.int k') rfl ho hb;have bA:=Wog _ _ h7;have bD:=hT _ _ hl;have me:(Go.isAgg t).run P w= .ok true w:=bD.isAgg;have hsz:(Go.sizeOf t).run P w= .ok n w:=by have:=bD.sizeOf (w:=w);grind [TE.size,Ty.size]
     have hcl:cs.length=n:=by rw[bA,Xx];exact hn
     have hr:=run_loadCells_list (P:=P) w ⟨b,(ν id).off,none⟩ cs (λj v hj=>by rw[WaP];exact h8 j v hj);rw[hcl]at hr;refine⟨.agg cs.toArray,?_,cs,rfl,?_,λj c v hj hv=>?_⟩
     .simp_all [Instr.loadAt,Instr.sureAddr,Sem.run_bind,Sem.run_pure,Result.andThen_ok,loadVar,W2]
     .rw[Wox,hcl]
     .rw[WoP]at hj;split at hj
      .rename_i oV;injection hj with hj;subst hj;rw[bA,Xan]at hv;have re:j<Xb xs:=Nat.lt_of_lt_of_eq oV hn.symm;rw[Xs re]at hv;simp only[Xby]at hv;injection hv with hv;subst hv;refine⟨?_,rfl⟩;simp[CellRel,Enc,re]
      .cases hj
    grind
   grind
  grind
 grind
end
section
variable{w0:World}{F:CS}{nt:Slots}{G0 G:GH}{ν:Nat->Nu}{st:St}{a:Act}{w:World}{P:Program}{T:Tab}
theorem WbM{o:Oper}{s:Sem Value}{r:AVal}(he:execOp a.eval o=(do pure (.value (←s))))(h:Gives P G ν st w s r):
  ∃v,(execOp a.eval o).run P w= .ok (.value v) w/\AValRel G ν st.nx r v:=by
 obtain⟨v,h1,h2⟩:=h;simp_all
theorem Wcb{α β:Type}{x:Option α}{f:α->Option (Bool×β)}{r:β}(h:x.bind f=some (true,r)):∃y,x=some y/\f y=some (true,r):=by
 cases x with
 |none=>simp at h
 |some y=>simp_all
theorem WnK(hT:Waf P T)(hh:HRel w0 F G ν st.objs st.nx w){op:BinOp}{t:TypeId}{x y:AVal}{u v:Value}{r:AVal}(ox oy:Operand)(hx:AValRel G ν st.nx x u)(hy:AValRel G ν st.nx y v)
  (h:Wo8 T st op t x y=some (true,r)):Gives P G ν st w (do eqGuard op t ox oy u v;Go.binOp op t u v) r:=by
 unfold Wo8 at h;split at h
 .rename_i id;split at h
  .rename_i te e hl;have hu:=(hT _ _ hl).und.2.1;obtain⟨⟨_,hv⟩,_⟩:=hx;subst hv;obtain⟨hn,_⟩:=hy;simp only[CellRel]at hn;subst hn;split at h
   .rename_i e' xs ho;have key:∀n:Nat,Xgd 0 xs.length=true->(Op.equalIn (n+1) t (ν id).hdr (.slice none 0 0)).run P w= .ok false w:=λn hb=>by
     have hne:xs≠ []:=by rintro rfl;simp at hb
     obtain⟨S,az⟩:=hh.obj ho;have hd:∃g,(ν id).hdr= .slice (some g) (ν id).len (ν id).cap:=by
      unfold Nu.hdr;obtain⟨hlen,_,az⟩:=az;cases hb:(ν id).blk with
      |none=>simp_all
      |some g=>simp_all
     obtain⟨g,hd⟩:=hd;simp_all [Op.equalIn,Wl]
    have hg:∀op,(eqGuard op t ox oy (ν id).hdr (.slice none 0 0)).run P w= .ok () w:=λop=>WbC (λcs=>by unfold Nu.hdr;split<;>exactλh=>nomatch h) (by unfold Nu.hdr;split<;>exactλh=>nomatch h);split at h
    .simp only[Option.some.injEq,Prod.mk.injEq]at h;obtain⟨h1,rfl⟩:=h;exact⟨.bool false,by simp[hg,Go.binOp,Op.equal,Op.maxDepth,show(Op.equalIn 10000 t (ν id).hdr (.slice none 0 0)).run P w= .ok false w from key 9999 h1],WM rfl⟩
    .simp only[Option.some.injEq,Prod.mk.injEq]at h;obtain⟨h1,rfl⟩:=h;exact⟨.bool true,by simp[hg,Go.binOp,Op.equal,Op.maxDepth,show(Op.equalIn 10000 t (ν id).hdr (.slice none 0 0)).run P w= .ok false w from key 9999 h1],WM rfl⟩
    grind
   grind
  grind
 grind
theorem Wph(hT:Waf P T)(hr:Rel w0 F nt G0 G ν st a w){o:Oper}{r:AVal}(h:Wac T st o.op=some (true,r)):
  ∃v,(execOp a.eval o).run P w= .ok (.value v) w/\AValRel G ν st.nx r v:=by
 obtain⟨dst,op,type,pos,after,guard⟩:=o;simp only at h;unfold Wac at h;split at h
 .rename_i x;cases hx:ev st x with
  |none=>simp_all
  |some v=>simp[hx]at h;subst h;exact⟨_,rfl,WL hr x _ hx⟩
 .rename_i x;cases hx:ev st x with
  |none=>simp_all
  |some v=>simp[hx]at h;subst h;exact⟨_,rfl,WL hr x _ hx⟩
 .rename_i c x y;split at h
  .rename_i p h1;cases hc:ev st c with
   |none=>simp_all
   |some cv=>
    simp[hc]at h1;have e1:=Wnb _ _ _ (WL hr c _ hc) h1;split at h
    .rename_i m n h2 h3;simp at h;subst h;have e2:=Wku (WL hr x _ h2);have e3:=Wku (WL hr y _ h3);refine⟨.bool (bif p then m else n),?_,WM rfl⟩;simp only[execOp,e1,e2,e3,asBool];cases p<;>rfl
    .cases p with
     |true=>
      cases hx:ev st x with
      |none=>simp_all
      |some v=>simp[hx]at h;subst h;exact⟨a.eval x,by simp_all [execOp,asBool],WL hr x _ hx⟩
     |false=>
      cases hx:ev st y with
      |none=>simp_all
      |some v=>simp[hx]at h;subst h;exact⟨a.eval y,by simp_all [execOp,asBool],WL hr y _ hx⟩
  grind
 .rename_i t x;obtain⟨y,hy,h⟩:=Wcb h;cases ha:WfD T st t y with
  |some z=>rw[ha]at h;simp only[]at h;injection h with h;subst h;exact WbM rfl (Wj0 hT hr.h (WL hr x _ hy) ha)
  |none=>
   rw[ha]at h;cases hl:WgX T st t y with
   |none=>simp_all
   |some z=>simp[hl]at h;subst h;exact WbM rfl (WgY hT hr.h (WL hr x _ hy) hl)
 .rename_i x;obtain⟨y,hy,h⟩:=Wcb h;obtain⟨rfl,p,hp⟩:=Wqn (WL hr x _ hy) h;exact⟨_,WtM rfl hp,by grind [WL]⟩
 .rename_i op t x y _;split at h
  .rename_i u v h1 h2;split at h
   .rename_i z hz;injection h with h;subst h;exact WbM rfl (WnK hT hr.h x y (WL hr x _ h1) (WL hr y _ h2) hz)
   .exact WbM rfl (WmW hT x y (WL hr x _ h1) (WL hr y _ h2) h)
  grind
 .rename_i op t x;obtain⟨y,hy,h⟩:=Wcb h;exact WbM rfl (Wo1 (WL hr x _ hy) h)
 .rename_i src dst x;obtain⟨y,hy,h⟩:=Wcb h;exact WbM rfl (WmQ hT hr.h (WL hr x _ hy) h)
 .rename_i t x lo hi;obtain⟨y,hy,h⟩:=Wcb h;exact WbM rfl (Wkk hT (WL hr x _ hy) (λl hl=>Wc5 hr lo l hl) (λl hl=>Wc5 hr hi l hl) h)
 .rename_i s x f;obtain⟨y,hy,h⟩:=Wcb h;exact WbM rfl (Wgr hT hr.h (WL hr x _ hy) h)
 .rename_i s x f;obtain⟨y,hy,h⟩:=Wcb h;exact WbM rfl (Wk6 hT (WL hr x _ hy) h)
 .rename_i t x i;split at h
  .rename_i u v h1 h2;exact WbM rfl (WgA hT hr.h (WL hr x _ h1) (WL hr i _ h2) h)
  grind
 .rename_i t x i;split at h
  .rename_i u v h1 h2;exact WbM rfl (Wkl hT (WL hr x _ h1) (WL hr i _ h2) h)
  grind
 .rename_i t ix;split at h
  .rename_i xs h1;cases hx:xs[ix]? with
   |none=>simp_all
   |some y=>
    simp[hx]at h;subst h;obtain⟨vs,hv,hl,fy⟩:=WL hr t _ h1;have hlt:ix<vs.length:=by grind
    exact WbM rfl ⟨vs[ix],by simp[hv,Instr.extract,hlt],fy ix y _ hx (Xs hlt)⟩
  grind
 .rename_i f first captured
  split at h
  .rename_i hf;cases hc:Wf2 st captured.toList with
   |none=>simp_all
   |some ids=>
    simp[hc]at h;subst h;obtain⟨h1,h2⟩:=Wjv hr _ _ hc;have mF:first= #[]:=by simp_all
    subst mF;refine WbM rfl ⟨.func (.func f) #[] (captured.map a.eval),by simp[Instr.makeFunc],⟨captured.toList.map a.eval,?_,?_,h2⟩,rfl⟩
    .apply Wn
     grind
    grind
  grind
 .rename_i c;obtain⟨callee,args,argTypes⟩:=c;obtain⟨args⟩:=args;obtain⟨argTypes⟩:=argTypes;simp only at h;split at h
  .rename_i x t;obtain⟨y,hy,h⟩:=Wcb h;obtain⟨v,h1,h2⟩:=Wnj (ty:=type) hT hr.h (WL hr x _ hy) h;refine⟨v,?_,h2⟩;simp only[execOp,resolve,invoke,builtin,Sem.run_bind,Sem.run_pure,Result.andThen_ok,Xdq,Xaf,Xce,h1]
  .rename_i x y _ _;split at h
   .rename_i k m k' n h1 h2;split at h
    .rename_i hk;subst hk;simp at h;subst h;have e1:=Wgu (WL hr x _ h1);have e2:=Wgu (WL hr y _ h2);refine⟨.int k (Wu2 m n),?_,WM rfl⟩;simp only[execOp,resolve,invoke,builtin,Sem.run_bind,Sem.run_pure,Result.andThen_ok,Xdq,Xaf,Xce,e1,e2,Builtin.min_];rfl
    grind
   grind
  .rename_i x y _ _;split at h
   .rename_i k m k' n h1 h2;split at h
    .rename_i hk;subst hk;simp at h;subst h;have e1:=Wgu (WL hr x _ h1);have e2:=Wgu (WL hr y _ h2);refine⟨.int k (WqR m n),?_,WM rfl⟩;simp only[execOp,resolve,invoke,builtin,Sem.run_bind,Sem.run_pure,Result.andThen_ok,Xdq,Xaf,Xce,e1,e2,Builtin.max_];rfl
    grind
   grind
  grind
 grind
end
end Go.Sx
namespace Go.Sx
set_option linter.unusedVariables false
set_option linter.unusedSimpArgs false
section
variable{w0:World}{F:CS}{nt:Slots}{G0 G G':GH}{ν ν':Nat->Nu}{φ φ':Nat->CS}{objs objs':W9}{nx aj:Nat}{w w':World}{P:Program}{T:Tab}
theorem Live.of{id:Nat}{ob:Ob}(h:Wq objs id=some ob)(hd:ob≠ .dead):Live objs id:=⟨ob,h,hd⟩
theorem WG{α:Type}(k:Nat)(v:α)(l:List (Nat×α))(i:Nat):Wq ((k,v)::l) i=if k=i then some v else Wq l i:=by
 simp only[Wq];by_cases h:k=i
 .subst h;simp
 .have:Xbk k i=false:=by
   grind [Xbk,absurd,Xch]
  rw[this,Wb h]
theorem Wbo{α:Type}:∀(l m:List (Nat×α)) (i:Nat),Wq (l++m) i=match Wq l i with
  |some x=>some x
  |none=>Wq m i
 | [],m,i=>rfl
 |(k,v)::l,m,i=>by
  rw[List.cons_append,WG,WG];split
  .rfl
  .exact Wbo l m i
theorem HR.blk_lt_g(h:HR w0 F G ν φ objs nx w){b o:Nat}{v:Value}(hg:G b o=some v):b<w.heap.size:=block_lt_of_cell (h.g b o v hg)
theorem WLe.refl(S:CS)(w:World):WLe S w w:=⟨Xl _,λ_ vs _ h=>⟨vs,h,rfl⟩,λ_ _ _ _=>rfl,λ_ _ _=>rfl,rfl,rfl,rfl⟩
theorem WLe.mono{S S':CS}(h:WLe S w w')(hl:CS.le S S'):WLe S' w w':=
 ⟨h.size,h.row,λb o hb hn=>h.cell b o hb (λhs=>hn (hl b o hs)),λb hb hn=>h.whole b hb (λo hs=>hn o (hl b o hs)),h.os,h.output,h.tape⟩
theorem WLe.same{S S':CS}(h:WLe S w w')(hd:CS.disj S S')(hb:∀b o,S' b o->b<w.heap.size):Same S' w w':=
 ⟨λb n ⟨vs,T,h1,h2⟩=>by obtain⟨vs',h3,h4⟩:=h.row b vs T h1;exact⟨vs',T,h3,by omega⟩,λb o hs=>h.cell b o (hb b o hs) (λcT=>hd b o cT hs)⟩
theorem WLe.rows{S:CS}(h:WLe S w w'):Same (λ_ _=>False) w w':=
 ⟨λb n ⟨vs,T,h1,h2⟩=>by obtain⟨vs',h3,h4⟩:=h.row b vs T h1;exact⟨vs',T,h3,by omega⟩,λ_ _ hs=>hs.elim⟩
theorem WLe.trans{S S':CS}{w1 w2 w3:World}(h:WLe S w1 w2)(h':WLe S' w2 w3)(hs:∀b o,S' b o->w1.heap.size<=b\/S b o):WLe S w1 w3 where
 size:=Xbe h.size h'.size
 row b vs T hb:=by
  obtain⟨vs',h1,h2⟩:=h.row b vs T hb;obtain⟨vs2,h3,h4⟩:=h'.row b vs' T h1;simp_all
 cell b o hb hn:=by
  rw[h'.cell b o (Xbi hb h.size) (λcT=>by grind)];exact h.cell b o hb hn
 whole b hb hn:=by
  rw[h'.whole b (Xbi hb h.size) (λo cT=>by grind)];exact h.whole b hb hn
 os:=h'.os.trans h.os
 output:=h'.output.trans h.output
 tape:=h'.tape.trans h.tape
theorem WLe.alloc(S:CS)(wd:World)(o:Obj)(hh:wd.heap=w.heap)(mf:wd.os=w.os)(ir:wd.output=w.output)(fz:wd.tape=w.tape):WLe S w (wd.alloc o) where
 size:=by simp[hh]
 row b vs T hb:=by
  have hlt:b<w.heap.size:=(Array.getElem?_eq_some_iff.1 hb).1;exact⟨vs,by grind [heap_alloc_old],rfl⟩
 cell b o' hb _:=World.cell?_of_block (by show(wd.alloc o).heap[b]?=w.heap[b]?;rw[heap_alloc_old wd o (by simp_all),hh])
 whole b hb _:=by rw[heap_alloc_old wd o (by simp_all),hh]
 os:=mf
 output:=ir
 tape:=fz
theorem WLe.setRow{S:CS}{b:Nat}{vs us:Array Value}{T:TypeId}(h:w.heap[b]?=some (Obj.cells vs T (0,0)))(hsz:us.size=vs.size)(hc:∀o,¬S b o->us[o]?=vs[o]?):WLe S w (w.setRow b us) where
 size:=by simp
 row k vs' T' hk:=by
  by_cases e:k=b
  .grind [setRow_heap]
  .exact⟨vs',by grind [setRow_other],rfl⟩
 cell k o hk hn:=by
  by_cases e:k=b
  .subst e;rw[cell_of_row _ k o us T (0,0) (setRow_heap w k vs us T (0,0) h),cell_of_row w k o vs T (0,0) h]
   grind
  grind [World.cell?_of_block,setRow_other]
 whole k hk hn:=by
  by_cases e:k=b
  .subst e;have:us=vs:=Array.ext_getElem? λo=>hc o (hn o);rw[setRow_heap w k vs us T (0,0) h,h,this]
  grind [setRow_other]
 os:=rfl
 output:=rfl
 tape:=rfl
def WtY(φ:Nat->CS)(objs:W9):CS:=λb o=>∃id,Live objs id/\φ id b o
theorem HR.step(h:HR w0 F G ν φ objs nx w)(hw:WLe (WtY φ objs) w w')
  (az:∀id ob,Wq objs' id=some ob->ob≠ .dead->Wch G ν' aj w' id (φ' id) ob)
  (hlt:∀id,Live objs' id->id<aj)
  (db:∀id b o,Live objs' id->φ' id b o->WtY φ objs b o\/w.heap.size<=b)
  (hbl:∀id b o,Live objs' id->φ' id b o->b<w'.heap.size)
  (oW:∀id bN b o,Live objs' id->Live objs' bN->φ' id b o->φ' bN b o->id=bN):
  HR w0 F G ν' φ' objs' aj w' where
 g b o v hg:=by
  rw[hw.cell b o (h.blk_lt_g hg) (λ⟨id,hl,hp⟩=>by rw[h.gf id b o hl hp]at hg;cases hg)];exact h.g b o v hg
 ob id ob ho:=by
  by_cases hd:ob= .dead
  .subst hd;trivial
  simp_all
 gf id b o hl hp:=by
  rcases db id b o hl hp with⟨oX,hl0,oY⟩|cW
  .exact h.gf oX b o hl0 oY
  .cases hg:G b o with
   |none=>rfl
   |some v=>have:=h.blk_lt_g hg;omega
 inj:=oW
 own id b o hl hp:=by
  rcases db id b o hl hp with⟨oX,hl0,oY⟩|cW
  .exact h.own oX b o hl0 oY
  .exact .inl (Xbe h.le.size cW)
 lt:=hlt
 bl:=hbl
 le:=h.le.trans hw (λb o ⟨id,hl,hp⟩=>h.own id b o hl hp)
def Wur(φ:Nat->CS)(i:Nat)(S:CS):Nat->CS:=λj=>if j=i then S else φ j
theorem WhF(φ:Nat->CS)(i:Nat)(S:CS):Wur φ i S i=S:=by simp[Wur]
theorem WfG(φ:Nat->CS){i j:Nat}(S:CS)(h:j≠i):Wur φ i S j=φ j:=by simp[Wur,h]
theorem Wer:∀(l:List Nat) (id:Nat) (ob:Ob),Wq (kill objs l) id=some ob->ob≠ .dead->Wq objs id=some ob/\id∉l
 | [],id,ob,h,_=>⟨h,by simp⟩
 |i::l,id,ob,h,hd=>by
  simp only[kill]at h;rw[WG]at h;split at h
  .simp_all
  .rename_i hne;obtain⟨h1,h2⟩:=Wer l id ob h hd
   grind
theorem Wdn{l:List Nat}{id:Nat}(h:Live (kill objs l) id):Live objs id/\id∉l:=by
 obtain⟨ob,h1,h2⟩:=h;obtain⟨h3,h4⟩:=Wer l id ob h1 h2;exact⟨⟨ob,h3,h2⟩,h4⟩
def WuI(φ:Nat->CS)(objs:W9)(t:Nat)(m:List Nat):CS:=λb o=>∃i,(i=t\/i∈m)/\Live objs i/\φ i b o
theorem HR.put(h:HR w0 F G ν φ objs nx w){t:Nat}{m:List Nat}{ob:Ob}{S:CS}(hn:WqM nx ν ν')(hx:nx<=aj)(ht:t<aj)
  (hw:WLe (WuI φ objs t m) w w') (hS:∀b o,S b o->WuI φ objs t m b o\/(w.heap.size<=b/\b<w'.heap.size))
  (cJ:ob≠ .dead->Wch G ν' aj w' t S ob):HR w0 F G ν' (Wur φ t S) ((t,ob)::kill objs m) aj w':=by
 have hl:∀id cK,Wq ((t,ob)::kill objs m) id=some cK->cK≠ .dead->(id=t/\cK=ob)\/(id≠t/\id∉m/\Wq objs id=some cK):=λid cK ho hd=>by
  grind [WG,Wer]
 have j9:∀id,Live ((t,ob)::kill objs m) id->(id=t)\/(id≠t/\id∉m/\Live objs id):=λid ⟨cK,ho,hd⟩=>by
  rcases hl id cK ho hd with⟨h1,h2⟩|⟨h1,h2,h3⟩
  .omega
  .exact .inr ⟨h1,h2,cK,h3,hd⟩
 refine h.step (hw.mono λb o ⟨i,_,h1,h2⟩=>⟨i,h1,h2⟩) (λid cK ho hd=>?_) (λid aJ=>?_) (λid b o aJ hp=>?_) (λid b o aJ hp=>?_) (λid bN b o aJ jl hp dS=>?_)
 .rcases hl id cK ho hd with⟨h1,h2⟩|⟨h1,h2,h3⟩
  .grind [WhF]
  .rw[WfG φ S h1];have aJ:Live objs id:=⟨cK,h3,hd⟩;refine Wdr (λ_ _ _ hh=>hh) (hw.same (λb o ⟨i,hi,oZ,o0⟩ hp=>?_) (λb o hp=>h.bl id b o aJ hp)) (λ_ _ hh=>hh) hn hx (h.lt id aJ) cK (h.ob id cK h3);have:=h.inj i id b o oZ aJ o0 hp;simp_all
 .rcases j9 id aJ with h1|⟨_,_,h3⟩
  .omega
  .exact Xbi (h.lt id h3) hx
 .rcases j9 id aJ with h1|⟨h1,_,h3⟩
  .subst h1;rw[WhF]at hp;rcases hS b o hp with⟨i,_,h4,h5⟩|h4
   .exact .inl ⟨i,h4,h5⟩
   omega
  .rw[WfG φ S h1]at hp;exact .inl ⟨id,h3,hp⟩
 .rcases j9 id aJ with h1|⟨h1,_,h3⟩
  .subst h1;rw[WhF]at hp;rcases hS b o hp with⟨i,_,h4,h5⟩|h4
   .exact Xbi (h.bl i b o h4 h5) hw.size
   omega
  .rw[WfG φ S h1]at hp;exact Xbi (h.bl id b o h3 hp) hw.size
 .have key:∀bN,bN≠t->bN∉m->Live objs bN->φ bN b o->S b o->False:=λbN h1 h2 h3 h4 h5=>by
   rcases hS b o h5 with⟨i,hi,h6,h7⟩|h6
   .have:=h.inj i bN b o h6 h3 h7 h4;simp_all
   .have:=h.bl bN b o h3 h4;omega
  rcases j9 id aJ with h1|⟨h1,h2,h3⟩<;>rcases j9 bN jl with iN|⟨iN,iO,pd⟩
  .rw[h1,iN]
  .simp_all [WhF,WfG]
  .simp_all [WhF,WfG]
  .rw[WfG φ S h1]at hp;rw[WfG φ S iN]at dS;exact h.inj id bN b o h3 pd hp dS
theorem HR.drew(h:HR w0 F G ν φ objs nx w):HR w0 F G ν φ objs nx w.drew:=by
 have hw:WLe (WtY φ objs) w w.drew:=⟨Xl _,λ_ vs _ h=>⟨vs,h,rfl⟩,λ_ _ _ _=>rfl,λ_ _ _=>rfl,rfl,rfl,rfl⟩;exact h.step hw (λid ob ho _=>Wdr (w:=w) (w':=w.drew) (S:=φ id) (λ_ _ _ hh=>hh) ⟨λ_ _ hh=>hh,λ_ _ _=>rfl⟩ (λ_ _ hh=>hh) (λ_ _=>rfl) (Xl _) (h.lt id ⟨ob,ho,by assumption⟩) ob (h.ob id ob ho))
  h.lt (λid b o hl hp=>.inl ⟨id,hl,hp⟩) (λid b o hl hp=>h.bl id b o hl hp) h.inj
theorem HRel.drew(h:HRel w0 F G ν objs nx w):HRel w0 F G ν objs nx w.drew:=by
 obtain⟨φ,h⟩:=h;exact⟨φ,h.drew⟩
end
section
variable{w0:World}{F:CS}{nt:Slots}{G0 G G':GH}{ν ν':Nat->Nu}{st:St}{a:Act}{w w':World}{P:Program}{T:Tab}
theorem Rel.put(h:Rel w0 F nt G0 G ν st a w){dst:Option Tmp}(hd:∀d,dst=some d->nt.Ok d){x:AVal}{v:Value}(hx:AValRel G ν st.nx x v):Rel w0 F nt G0 G ν (st.put dst x) (a.put dst v) w:=by
 cases dst with
 |none=>exact h
 |some d=>
  have hlt:d<a.tmps.size:=by rw[h.ntm];exact(hd d rfl).1
  refine⟨h.defers,by simpa [Act.put]using h.ntm,λp hp=>?_,λi y hy=>?_,h.h,h.gx⟩
  .simp only[Act.put];rw[Xeh (λe=>(hd d rfl).2 p hp e.symm)];exact h.par p hp
  simp only[St.put]at hy;rw[WG]at hy;split at hy
  .rename_i e;subst e;injection hy with hy;subst hy;exact⟨v,by simp[Act.put,hlt],hx⟩
  .rename_i hne;obtain⟨u,hu,hr⟩:=h.env i y hy;exact⟨u,by grind [Act.put,Xeh],hr⟩
theorem Rel.on(h:Rel w0 F nt G0 G ν st a w){objs':W9}{aj:Nat}(hg:GLe G G')(hn:WqM st.nx ν ν')(hx:st.nx<=aj)
  (hh:HRel w0 F G' ν' objs' aj w') (gx:GExt w0.heap.size F G0 G'):Rel w0 F nt G0 G' ν' {env:=st.env,objs:=objs',nx:=aj} a w':=
 ⟨h.defers,h.ntm,h.par,λi y hy=>by
  obtain⟨u,hu,hr⟩:=h.env i y hy
  grind [AValRel.mono],hh,gx⟩
def upd(ν:Nat->Nu)(i:Nat)(n:Nu):Nat->Nu:=λj=>if j=i then n else ν j
theorem Wfc(ν:Nat->Nu)(i:Nat)(n:Nu):WqM i ν (upd ν i n):=λj hj=>by simp[upd];omega
theorem Wa8(ν:Nat->Nu)(i:Nat)(n:Nu):upd ν i n i=n:=by simp[upd]
theorem Rel.lay(h:Rel w0 F nt G0 G ν st a w){dst:Option Tmp}(hd:∀d,dst=some d->nt.Ok d){objs':W9}{aj:Nat}(hn:WqM st.nx ν ν')(hx:st.nx<=aj)
  (hh:HRel w0 F G ν' objs' aj w') {x:AVal} {v:Value} (hv:AValRel G ν' aj x v):Rel w0 F nt G0 G ν' (({env:=st.env,objs:=objs',nx:=aj}:St).put dst x) (a.put dst v) w':=
 (h.on (λ_ _ _ hh=>hh) hn hx hh h.gx).put hd hv
theorem Rel.fresh(h:Rel w0 F nt G0 G ν st a w){dst:Option Tmp}(hd:∀d,dst=some d->nt.Ok d)(m:List Nat)(ob:Ob)(nu:Nu)(S:(Nat->CS)->CS)(x:AVal)(v:Value)
  (hw:∀φ,HR w0 F G ν φ st.objs st.nx w->WLe (WuI φ st.objs st.nx m) w w') (hS:∀φ,HR w0 F G ν φ st.objs st.nx w->∀b o,S φ b o->WuI φ st.objs st.nx m b o\/(w.heap.size<=b/\b<w'.heap.size))
  (cJ:∀φ,HR w0 F G ν φ st.objs st.nx w->Wch G (upd ν st.nx nu) (st.nx+1) w' st.nx (S φ) ob)
  (hv:AValRel G (upd ν st.nx nu) (st.nx+1) x v):
  Rel w0 F nt G0 G (upd ν st.nx nu) (({env:=st.env,objs:=(st.nx,ob)::kill st.objs m,nx:=st.nx+1}:St).put dst x) (a.put dst v) w':=by
 obtain⟨φ,hφ⟩:=h.h;exact h.lay hd (Wfc ν st.nx nu) (Xdc _) ⟨_,hφ.put (Wfc ν st.nx nu) (Xdc _) (Xbs _) (hw φ hφ) (hS φ hφ) (λ_=>cJ φ hφ)⟩ hv
theorem Rel.new(h:Rel w0 F nt G0 G ν st a w){dst:Option Tmp}(hd:∀d,dst=some d->nt.Ok d)(ob:Ob)(nu:Nu)(x:AVal)(v:Value)
  (hw:WLe (λ_ _=>False) w w')
  (cJ:Wch G (upd ν st.nx nu) (st.nx+1) w' st.nx (λb _=>w.heap.size<=b/\b<w'.heap.size) ob)
  (hv:AValRel G (upd ν st.nx nu) (st.nx+1) x v):
  Rel w0 F nt G0 G (upd ν st.nx nu) (st.new dst ob x) (a.put dst v) w':=
 h.fresh hd [] ob nu (λ_ b _=>w.heap.size<=b/\b<w'.heap.size) x v (λφ _=>hw.mono λ_ _ hh=>hh.elim) (λφ _ b o hs=>.inr hs) (λφ _=>cJ) hv
end
end Go.Sx
namespace Go.Sx
set_option linter.unusedVariables false
set_option linter.unusedSimpArgs false
theorem WrN{v:Value}(h:v.oneCell'=true):v.cells= #[v]:=by
 cases v<;>first|rfl|simp[Value.oneCell']at h
section
variable{w0:World}{F:CS}{nt:Slots}{G0 G:GH}{ν:Nat->Nu}{objs:W9}{nx:Nat}{st:St}{a:Act}{w w':World}{P:Program}{T:Tab}
theorem WuU:∀(t:Ty),t.data=true->Enc G t t.dflt (Wbp t)
 | .int _,_=>rfl
 | .bool,_=>rfl
 | .str,_=>rfl
 | .slice e,_=>⟨_,rfl,.inl ⟨rfl,rfl⟩⟩
 | .own _,h=>by simp[Ty.data]at h
 | .prod a b,h=>by
  simp only[Ty.data,Xi]at h;exact⟨_,_,rfl,WuU a h.1,WuU b h.2⟩
theorem WuH:∀(t:Ty),CellsRel G ν nx (Wen t) (Wbp t)
 | .int _=>CellsRel.one rfl rfl
 | .bool=>CellsRel.one rfl rfl
 | .str=>CellsRel.one rfl rfl
 | .slice e=>CellsRel.one rfl rfl
 | .own _=>CellsRel.one trivial rfl
 | .prod a b=>(WuH a).append (WuH b)
theorem Wbc:∀(t:Ty),(Wbp t).length=t.size
 | .int _| .bool| .str| .slice _| .own _=>rfl
 | .prod a b=>by simp[Wbp,Wbc a,Wbc b,Ty.size]
theorem WkY{α:Type}(l:List α):∀n,(rep l n).length=n*l.length
 |0=>by simp[rep]
 |n+1=>by rw[rep,Xw,WkY l n,Xbx,Xct]
theorem WgN{e:Ty}(h:e.data=true):∀n,EncL (Enc G e) (Xp n e.dflt) (rep (Wbp e) n)
 |0=>rfl
 |n+1=>⟨_,_,rfl,WuU e h,WgN h n⟩
theorem WeR{t:TypeId}{te:TE}(bD:TEok P T t te):∃z,(zeroValue t).run P w= .ok z w/\z.cells.toList=te.cells:=by
 obtain⟨i,z,hi,_,hz,hc,_⟩:=bD.info;simp_all [zeroValue,WgZ]
theorem Wbk{te:TE}(h:te.plain=true):te.cells=Wbp te.ty:=by
 unfold TE.plain at h;unfold TE.cells;split at h<;>simp_all
theorem Wka(w:World)(o:Obj):(w.alloc o).heap[w.heap.size]?=some o:=heap_alloc_new w o
theorem zty:∀(t:Ty),∃ps,TyRel G w t t.dflt (Wbp t.ro) ps/\∀p∈ps,p.fp= λ_ _=>False
 | .int _=>⟨[],⟨rfl,rfl⟩,by simp⟩
 | .bool=>⟨[],⟨rfl,rfl⟩,by simp⟩
 | .str=>⟨[],⟨rfl,rfl⟩,by simp⟩
 | .slice e=>⟨[],⟨rfl,_,rfl,.inl ⟨rfl,rfl⟩⟩,by simp⟩
 | .own e=>⟨[⟨⟨none,0,0,0,e.size⟩,λ_ _=>False⟩],⟨_,rfl,rfl,rfl,rfl,rfl⟩,by simp⟩
 | .prod a b=>by
  obtain⟨p1,h1,h2⟩:=zty a;obtain⟨p2,h3,h4⟩:=zty b;refine⟨p1++p2,⟨_,_,p1,p2,rfl,rfl,h1,h3⟩,λp hp=>?_⟩
  grind
theorem WsZ(e:Ty):∀n,∃ps,EncP (TyRel G w e) (Xp n e.dflt) (rep (Wbp e.ro) n) ps/\∀p∈ps,p.fp= λ_ _=>False
 |0=>⟨[],⟨rfl,rfl⟩,by simp⟩
 |n+1=>by
  obtain⟨p1,h1,h2⟩:=zty (G:=G) (w:=w) e;obtain⟨p2,h3,h4⟩:=WsZ e n;refine⟨p1++p2,⟨_,_,p1,p2,rfl,rfl,h1,h3⟩,λp hp=>?_⟩
  grind
theorem WmG:∀(ps:List Pc),(∀p∈ps,p.fp= λ_ _=>False)->Sep (ps.map Pc.fp)
 | [],_=>List.Pairwise.nil
 |p::ps,h=>Xt.2 ⟨λs _ b o hb _=>by simp_all,WmG ps λq hq=>h q (Xf _ hq)⟩
theorem Wrx(h:Rel w0 F nt G0 G ν st a w){dst:Option Tmp}(hd:∀d,dst=some d->nt.Ok d){cs:List Cell}{vs:Array Value}{t:TypeId}(hc:CellsRel G ν st.nx cs vs.toList):
  ∃ν',Rel w0 F nt G0 G ν' (st.new dst (.box cs) (.s (.one (.ptr st.nx 0)))) (a.put dst (.pointer (some ⟨w.heap.size,0,none⟩))) (w.alloc (.cells vs t)):=by
 refine⟨upd ν st.nx ⟨some w.heap.size,0,0,0,0⟩,h.new hd (.box cs) _ _ _ (WLe.alloc _ w _ rfl rfl rfl rfl) ?_ ?_⟩
 .have hl:vs.size=cs.length:=by have:=hc.1;omega
  refine⟨w.heap.size,vs.toList,by rw[Wa8],⟨vs,t,Wka w _,by grind [Wa8]⟩,?_,hc.mono (λ_ _ _ hh=>hh) (Wfc _ _ _) (Xdc _),λb o ⟨hb,_⟩=>by simp_all⟩;rw[Wa8];exact Wqt (Wka w _) (λj v hj=>by simp_all)
 .exact⟨⟨Xbs _,w.heap.size,by rw[Wa8],by rw[Wa8]⟩,rfl⟩
def FromL(φ:Nat->CS)(objs:W9)(m:List Nat):CS:=λb o=>∃i∈m,Live objs i/\φ i b o
theorem Wht(h:Rel w0 F nt G0 G ν st a w){dst:Option Tmp}(hd:∀d,dst=some d->nt.Ok d)(m:List Nat){e:Ty}{xs:List e.den}{cap:Nat}{vs:Array Value}{t:TypeId}{cs:List Value}(hx:xs.length<=cap)(gJ:cap<=maxLen)
  (hsz:vs.size=cap*e.size) (hc:∀φ,HR w0 F G ν φ st.objs st.nx w->∃ps,EncP (TyRel G w e) xs cs ps/\Sep (ps.map Pc.fp)/\∀p∈ps,CS.le p.fp (FromL φ st.objs m)) (hp:cs<+:vs.toList)
  (wd:World) (oh:wd.heap=w.heap) (mf:wd.os=w.os) (ir:wd.output=w.output) (fz:wd.tape=w.tape):
  (∃ν',Rel w0 F nt G0 G ν' (({env:=st.env,objs:=(st.nx,.arr e xs)::kill st.objs m,nx:=st.nx+1}:St).put dst (.s (.one (.own st.nx)))) (a.put dst (.slice (some ⟨w.heap.size,0,none⟩) xs.length cap)) (wd.alloc (.cells vs t)))/\
  (∃ν',Rel w0 F nt G0 G ν' (({env:=st.env,objs:=(st.nx,.arr e xs)::kill st.objs m,nx:=st.nx+1}:St).put dst (.s (.one (.aptr st.nx)))) (a.put dst (.pointer (some ⟨w.heap.size,0,none⟩))) (wd.alloc (.cells vs t))):=by
 have kF:(wd.alloc (.cells vs t)).heap[w.heap.size]?=some (Obj.cells vs t (0,0)):=by grind [Wka]
 have key:∀(x:AVal) (v:Value),AValRel G (upd ν st.nx ⟨some w.heap.size,0,xs.length,cap,e.size⟩) (st.nx+1) x v->
   ∃ν',Rel w0 F nt G0 G ν' (({env:=st.env,objs:=(st.nx,.arr e xs)::kill st.objs m,nx:=st.nx+1}:St).put dst x) (a.put dst v) (wd.alloc (.cells vs t)):=λx v hv=>by
  refine⟨upd ν st.nx ⟨some w.heap.size,0,xs.length,cap,e.size⟩,h.fresh hd m (.arr e xs) _ (λφ b o=>FromL φ st.objs m b o\/b=w.heap.size) x v (λφ _=>WLe.alloc _ wd _ oh mf ir fz) (λφ hφ b o hs=>?_) (λφ hφ=>?_) hv⟩
  .rcases hs with⟨i,hi,h1,h2⟩|hs
   .exact .inl ⟨i,.inr hi,h1,h2⟩
   simp_all
  .obtain⟨ps,h1,h2,h3⟩:=hc φ hφ;have hbl:∀p∈ps,∀b o,p.fp b o->b<w.heap.size:=λp dS b o hh=>by
    obtain⟨i,_,g1,g2⟩:=h3 p dS b o hh;exact hφ.bl i b o g1 g2
   show OwnL (wd.alloc (.cells vs t)) (TyRel G _ e) e.size (upd ν st.nx ⟨some w.heap.size,0,xs.length,cap,e.size⟩ st.nx) xs _;rw[Wa8];refine⟨rfl,rfl,hx,gJ,⟨vs,t,kF,by simp_all⟩,cs,ps,?_,?_,Xt.2 ⟨λs hs b o ⟨hb,_⟩ it=>?_,h2⟩,λs hs b o it=>?_⟩
   .refine WbE (Q:=λp=>∀b o,p.fp b o->b<w.heap.size) (λx c p dS hh=>?_) _ _ _ hbl h1;exact Wau (λ_ _ _ hh=>hh) e x c p (λq hq=>(WLe.alloc (λ_ _=>False) wd _ oh mf ir fz).same (λ_ _ hh _=>hh) (dS q hq)) hh
   .obtain⟨tl,og⟩:=hp;exact Wqt kF (λj v hj=>by grind)
   .obtain⟨p,dS,rfl⟩:=Xv.1 hs
    grind
   .rcases Xr.1 hs with rfl|hs
    .exact .inr it.1
    .obtain⟨p,dS,rfl⟩:=Xv.1 hs;exact .inl (h3 p dS b o it)
 refine⟨key _ _ ⟨⟨Xbs _,?_⟩,rfl⟩,key _ _ ⟨⟨Xbs _,w.heap.size,by rw[Wa8],by rw[Wa8]⟩,rfl⟩⟩;rw[Wa8];rfl
theorem Wn2(h:Rel w0 F nt G0 G ν st a w){dst:Option Tmp}(hd:∀d,dst=some d->nt.Ok d){e:Ty}(he:e.data=true){xs:List e.den}{cap:Nat}{vs:Array Value}{t:TypeId}{cs:List Value}(hx:xs.length<=cap)(gJ:cap<=maxLen)
  (hsz:vs.size=cap*e.size) (hc:EncL (Enc G e) xs cs) (hp:cs<+:vs.toList) (wd:World) (oh:wd.heap=w.heap) (mf:wd.os=w.os) (ir:wd.output=w.output) (fz:wd.tape=w.tape):
  (∃ν',Rel w0 F nt G0 G ν' (st.new dst (.arr e xs) (.s (.one (.own st.nx)))) (a.put dst (.slice (some ⟨w.heap.size,0,none⟩) xs.length cap)) (wd.alloc (.cells vs t)))/\
  (∃ν',Rel w0 F nt G0 G ν' (st.new dst (.arr e xs) (.s (.one (.aptr st.nx)))) (a.put dst (.pointer (some ⟨w.heap.size,0,none⟩))) (wd.alloc (.cells vs t))):=
 Wht h hd [] hx gJ hsz (λφ _=>⟨[],(EncP_data he xs cs []).2 ⟨hc,rfl⟩,List.Pairwise.nil,by simp⟩) hp wd oh mf ir fz
theorem Wdi{x:AVal}{v:Value}{cs:List Cell}(hx:AValRel G ν nx x v)(hb:WgC x=some cs):CellsRel G ν nx cs v.cells.toList/\∀u∈v.cells.toList,u.oneCell'=true:=by
 cases x with
 |tup xs=>simp[WgC]at hb
 |s y=>
  cases y with
  |one c=>
   simp[WgC]at hb;subst hb;obtain⟨h1,h2⟩:=hx
   grind [WrN,CellsRel.one]
  |agg ds=>
   simp[WgC]at hb;subst hb;obtain⟨vs,rfl,h1⟩:=hx;refine⟨by grind [Value.cells],λu hu=>?_⟩;simp[Value.cells]at hu;obtain⟨j,hj⟩:=List.getElem?_of_mem hu;have hlt:j<ds.length:=by rw[←h1.1];grind
   exact(h1.2 j _ u (Xs hlt) hj).2
theorem Wcy(t:TypeId)(vs:Array Value):(newRow t vs).run P w= .ok ⟨w.heap.size,0,none⟩ (w.alloc (.cells vs t)):=rfl
theorem WeD{cs ds:List Cell}{off:Nat}(h:off+ds.length<=cs.length):(WdZ cs off ds).length=cs.length:=by
 simp[WdZ];omega
theorem WeM{cs ds:List Cell}{vs us:List Value}{off:Nat}(hc:CellsRel G ν nx cs vs)(hd:CellsRel G ν nx ds us):
  CellsRel G ν nx (WdZ cs off ds) (vs.take off++us++vs.drop (off+us.length)):=by
 rw[hd.1];exact((hc.take off).append hd).append (hc.drop _)
theorem WhN(us:List Value):∀(off k:Nat) (cs:Array Value),off+k+us.length<=cs.size->
  ((us.zipIdx k).foldl (λcs (c,j)=>cs.setIfInBounds (off+j) c) cs).toList=cs.toList.take (off+k)++us++cs.toList.drop (off+k+us.length):=by
 induction us with
 |nil=>simp_all
 |cons u us ih=>
  intro off k cs h;simp only[List.zipIdx_cons,List.foldl_cons,Xq]at h⊢;rw[ih off (k+1) _ (by simp;omega)];have hlt:off+k<cs.toList.length:=by simp;omega
  simp only[Array.toList_setIfInBounds];generalize cs.toList=l at*;have e1:(l.set (off+k) u).take (off+(k+1))=l.take (off+k)++ [u]:=by
   rw[←Xay,List.take_succ_eq_append_getElem (by simp_all),List.take_set_of_le (Xl _)];simp
  grind [List.drop_set_of_lt]
end
end Go.Sx
namespace Go.Sx
set_option linter.unusedVariables false
set_option linter.unusedSimpArgs false
section
variable{w0:World}{F:CS}{nt:Slots}{G0 G:GH}{ν:Nat->Nu}{objs:W9}{nx:Nat}{st af:St}{a:Act}{w w':World}{P:Program}{T:Tab}
def Done(P:Program)(w0:World)(F:CS)(nt:Slots)(G0:GH)(o:Oper)(a:Act)(w:World)(af:St):Prop:=
 ∃n v w' G' ν',(execOp a.eval o).run P w= .ok n w'/\(n= .value v\/(n= .skip/\v=undef))/\Rel w0 F nt G0 G' ν' af (a.put o.dst v) w'
theorem WfU(hr:Rel w0 F nt G0 G ν st a w):∀(l:List (Nat×Operand)) (ps:List (Nat×AVal)),Wci st l=some ps->
  ps.length=l.length/\∀(j:Nat) (p:Nat×AVal) (q:Nat×Operand),ps[j]?=some p->l[j]?=some q->p.1=q.1/\AValRel G ν st.nx p.2 (a.eval q.2)
 | [],ps,h=>by simp[Wci]at h;simp_all
 |(i,x)::l,ps,h=>by
  simp only[Wci]at h;split at h
  .rename_i y ys h1 h2;injection h with h;subst h;obtain⟨h3,h4⟩:=WfU hr l ys h2;refine⟨by simp[h3],λj p q hp hq=>?_⟩;cases j with
   |zero=>simp at hp hq;subst hp hq;exact⟨rfl,WL hr x _ h1⟩
   |succ j=>grind
  grind
theorem Wjx(hT:Waf P T){fs:List (Nat×TypeId)}{place:Nat->Option (Nat×Nat)}
  (eE:∀(i off:Nat) (ft:TypeId) (te:TE),fs[i]?=some (off,ft)->Wq T ft=some te->place i=some (off,te.size)) (gK:∀(i off:Nat) (ft:TypeId) (te:TE),fs[i]?=some (off,ft)->Wq T ft=some te->te.plain=true):
  ∀(l:List (Nat×AVal)) (ps:List (Nat×Value)) (cs cs':List Cell) (vs:Array Value),CellsRel G ν nx cs vs.toList->ps.length=l.length->
   (∀(j:Nat) (p:Nat×AVal) (q:Nat×Value),l[j]?=some p->ps[j]?=some q->p.1=q.1/\AValRel G ν nx p.2 q.2)->Wma T fs l cs=some cs'->
   ∃vs',Instr.fill place vs ps=some vs'/\CellsRel G ν nx cs' vs'.toList
 | [],[],cs,cs',vs,hc,_,_,h=>by simp[Wma]at h;subst h;exact⟨vs,rfl,hc⟩
 |(i,x)::l,[],_,_,_,_,hl,_,_=>by simp at hl
 | [],_::_,_,_,_,_,hl,_,_=>by simp at hl
 |(i,x)::l,(i',v)::ps,cs,cs',vs,hc,hl,hp,h=>by
  obtain⟨he,hx⟩:=hp 0 _ _ rfl rfl;simp only at he hx;subst he;simp only[Wma]at h;split at h
  .rename_i off ft hf;split at h
   .rename_i te ds bD gr;split at h
    .rename_i bq;simp only[Xi,Wi]at bq;obtain⟨h1,h2⟩:=bq;obtain⟨h3,_⟩:=Wdi hx gr;have hsz:v.cells.size=ds.length:=by have:=h3.1;omega
     have fy:vs.size=cs.length:=by have:=hc.1;omega
     have sq:=gK _ _ _ _ hf bD;have dT:=WhN v.cells.toList off 0 vs (by simp;omega);simp only[Xbd,Xar]at dT;have jm:CellsRel G ν nx (WdZ cs off ds) (v.cells.toList.zipIdx.foldl (λcs (c,j)=>cs.setIfInBounds (off+j) c) vs).toList:=by
      rw[dT];have:=WeM (off:=off) hc h3;omega
     obtain⟨vs',h4,h5⟩:=Wjx hT eE gK l ps _ cs' _ jm (by simp_all) (λj p q hj hq=>hp (j+1) p q (by simp_all) (by simp_all)) h;refine⟨vs',?_,h5⟩;simp only[Instr.fill,eE _ _ _ _ hf bD];rw[Wb (by grind [WW])];rw[←h4];congr 1;rw[←Array.foldl_toList];simp
    grind
   grind
  grind
theorem Wf7{α β:Type}(f:α->Sem β)(g:α->β):∀(l:List α),(∀x∈l,(f x).run P w= .ok (g x) w)->(l.mapM f).run P w= .ok (l.map g) w
 | [],_=>by simp
 |x::l,h=>by
  simp only[Xep,Sem.run_bind,h x (Xj ..),Result.andThen_ok,Wf7 f g l (λy hy=>h y (Xf _ hy)),Sem.run_pure,Xaf]
theorem Wme{α β:Type}(f:α->Sem β)(g:α->β)(l:Array α)(h:∀x∈l,(f x).run P w= .ok (g x) w):(l.mapM f).run P w= .ok (l.map g) w:=by
 rw[Array.mapM_eq_mapM_toList];simp only[Sem.run_map,Wf7 f g l.toList (λx hx=>h x (by simp_all)),Result.andThen_ok];congr 1
 grind
theorem Wpd(hT:Waf P T)(hr:Rel w0 F nt G0 G ν st a w){o:Oper}(hd:∀d,o.dst=some d->nt.Ok d){t:TypeId}{parts:Array (Nat×Operand)}(ho:o.op= .build t parts)
  {ty:Ty} {fs:List (Nat×TypeId)} {ps:List (Nat×AVal)} {cs:List Cell} (hl:Wq T t=some ⟨ty,true,.struct fs⟩) (bT:Wci st parts.toList=some ps) (hf:Wma T fs ps (Wen ty)=some cs)
  (eE:∀f∈fs,∃te,Wq T f.2=some te/\te.plain=true):
  Done P w0 F nt G0 o a w (st.put o.dst (.s (.agg cs))):=by
 have bD:=hT _ _ hl;obtain⟨_,fields,hu,eI,_⟩:=bD.und;obtain⟨z,hz,dK⟩:=WeR (w:=w) bD;obtain⟨h1,h2⟩:=WfU hr _ _ bT;have hsz:∀f∈fields,∃te,Wq T f.type=some te/\te.plain=true:=λf hf=>eE (f.offset,f.type) (by grind)
 let sz:Field->Nat:=λf=>match Wq T f.type with|some te=>te.size|none=>0
 have hrun:(fields.mapM λf=>(do pure (f.offset,←sizeOf f.type):Sem (Nat×Nat))).run P w= .ok (fields.map λf=>(f.offset,sz f)) w:=by
  refine Wme _ (λf=>(f.offset,sz f)) fields (λf hf=>?_);obtain⟨te,da,_⟩:=hsz f hf;simp[sz,(hT _ _ da).sizeOf,da]
 have lh:∀(i off:Nat) (ft:TypeId) (te:TE),fs[i]?=some (off,ft)->Wq T ft=some te->(fields.map λf=>(f.offset,sz f))[i]?=some (off,te.size):=λi off ft te hi da=>by
  grind
 have mG:CellsRel G ν st.nx (Wen ty) z.cells.toList:=by
  rw[dK];exact WuH ty
 obtain⟨vs',h3,h4⟩:=Wjx hT lh (λi off ft te hi da=>by
   obtain⟨dE,h5,h6⟩:=eE _ (List.mem_of_getElem? hi);simp_all) ps (parts.toList.map λp=>(p.1,a.eval p.2)) _ cs z.cells mG (by simp[h1]) (λj p q hp hq=>by
   grind) hf
 refine⟨.value (.agg vs'),.agg vs',w,G,ν,?_,.inl rfl,hr.put hd ⟨vs'.toList,by simp,h4⟩⟩;simp only[execOp,ho,Instr.build,Sem.run_bind,hz,Result.andThen_ok,Wl hu,hrun];have:(parts.map λx=>match x with|(i,x)=>(i,a.eval x)).toList=parts.toList.map λp=>(p.1,a.eval p.2):=by simp
 rw[this,h3];rfl
theorem Wpe(hT:Waf P T)(hr:Rel w0 F nt G0 G ν st a w){o:Oper}(hd:∀d,o.dst=some d->nt.Ok d){t:TypeId}(ho:o.op= .alloc t){te:TE}(hl:Wq T t=some te)(hp:te.plain=true):
  Done P w0 F nt G0 o a w (st.new o.dst (.box (Wen te.ty)) (.s (.one (.ptr st.nx 0)))):=by
 obtain⟨z,hz,dK⟩:=WeR (w:=w) (hT _ _ hl);obtain⟨ν',h⟩:=Wrx (t:=t) (vs:=z.cells) hr hd (cs:=Wen te.ty) (by grind [Wbk,WuH]);refine⟨_,_,_,G,ν',?_,.inl rfl,h⟩;simp_all [execOp,Instr.alloc,Sem.run_bind,Result.andThen_ok,newVar,Wcy,Sem.run_pure]
theorem WkK(hT:Waf P T)(hr:Rel w0 F nt G0 G ν st a w){o:Oper}(hd:∀d,o.dst=some d->nt.Ok d){t:TypeId}(ho:o.op= .alloc t){e:Ty}{n:Nat}{et:TypeId}(hl:Wq T t=some ⟨e,true,.arr n et⟩)(aX:e.data=true)(ao:Wz n=true):
  Done P w0 F nt G0 o a w (st.new o.dst (.arr e (Xp n e.dflt)) (.s (.one (.aptr st.nx)))):=by
 obtain⟨z,hz,dK⟩:=WeR (w:=w) (hT _ _ hl);have hn:n<=maxLen:=by grind [Wz,maxLen]
 have hlen:z.cells.size=n*e.size:=by
  grind [Xar,TE.cells,WkY,Wbc]
 obtain⟨_,ν',h⟩:=Wn2 (t:=t) (vs:=z.cells) hr hd (e:=e) aX (xs:=Xp n e.dflt) (cap:=n) (cs:=rep (Wbp e) n) (by simp) hn hlen (WgN aX n) (by rw[dK];exact List.prefix_refl _) w rfl rfl rfl rfl;refine⟨_,_,_,G,ν',?_,.inl rfl,h⟩;simp_all [execOp,Instr.alloc,Sem.run_bind,Result.andThen_ok,newVar,Wcy,Sem.run_pure]
theorem WsU(hr:Rel w0 F nt G0 G ν st a w){o:Oper}(hd:∀d,o.dst=some d->nt.Ok d){t:TypeId}{x:Operand}(ho:o.op= .box t x){v:AVal}{cs:List Cell}(hv:ev st x=some v)(hb:WgC v=some cs):
  Done P w0 F nt G0 o a w (st.new o.dst (.box cs) (.s (.one (.ptr st.nx 0)))):=by
 obtain⟨h1,_⟩:=Wdi (WL hr x _ hv) hb;obtain⟨ν',h⟩:=Wrx (t:=t) hr hd h1;refine⟨_,_,_,G,ν',?_,.inl rfl,h⟩;simp only[execOp,ho,Instr.box,Sem.run_bind,Result.andThen_ok,newVar,Wcy,Sem.run_pure]
theorem Wqz(hT:Waf P T)(hr:Rel w0 F nt G0 G ν st a w){o:Oper}(hd:∀d,o.dst=some d->nt.Ok d){r:AVal}(h:Wac T st o.op=some (true,r)):Done P w0 F nt G0 o a w (st.put o.dst r):=by
 obtain⟨v,h1,h2⟩:=Wph hT hr h;exact⟨_,v,w,G,ν,h1,.inl rfl,hr.put hd h2⟩
end
end Go.Sx
namespace Go.Sx
set_option linter.unusedVariables false
set_option linter.unusedSimpArgs false
theorem Wfu{t t':Ty}{d:t.den}{d':t'.den}(h:Wmn t t' d=some d'):∃e:t=t',e▸d=d':=by
 grind [Wmn]
theorem Wap{e e':Ty}{d:List e.den}{d':List e'.den}(h:WfQ e e' d=some d'):∃he:e=e',he▸d=d':=by
 grind [WfQ]
theorem WqF{A A':Type}(hA:A=A')(h:List A=List A')(l:List A)(i:Nat):cast h (l.take i)=(cast h l).take i:=by
 grind
theorem WrD{A A':Type}(hA:A=A')(h:List A=List A')(l:List A)(i:Nat):cast h (l.drop i)=(cast h l).drop i:=by
 grind
theorem WpR(e:Ty)(l:List e.den)(i:Nat):Wcm e (l.take i)=(Wcm e l).take i:=WqF (WdW e).symm _ l i
theorem Wpc(e:Ty)(l:List e.den)(i:Nat):Wcm e (l.drop i)=(Wcm e l).drop i:=WrD (WdW e).symm _ l i
section
variable{w0:World}{F:CS}{G G':GH}{ν:Nat->Nu}{φ:Nat->CS}{objs:W9}{nx:Nat}{w:World}
def Lent(G':GH)(w:World)(φ:Nat->CS)(objs:W9)(l:List Nat):Prop:=∀id∈l,Live objs id->Froz G' w (φ id)
theorem Lent.mono{l m:List Nat}(h:Lent G' w φ objs m)(hs:∀i∈l,i∈m):Lent G' w φ objs l:=λid bz=>h id (hs id bz)
theorem CellsRel.single{c:Cell}{vs:List Value}(h:CellsRel G ν nx [c] vs):∃v,vs= [v]/\CellRel G ν nx c v/\v.oneCell'=true:=by
 obtain⟨h1,h2⟩:=h
 match vs,h1 with
 | [v],_=>exact⟨v,rfl,h2 0 c v rfl rfl⟩
theorem Wgk{t:Ty}{c:Cell}{d:t.den}{v:Value}(hg:GLe G G')(h:CellRel G ν nx c v)(hf:WiO t c=some d):Enc G' t d [v]:=by
 unfold WiO at hf;split at hf
 .obtain⟨e,hd⟩:=Wfu hf;subst e;simp only at hd;subst hd;exact WaV hg _ _ _ h
 grind
theorem FromL.mono{m m':List Nat}(h:∀i∈m,i∈m'):CS.le (FromL φ objs m) (FromL φ objs m'):=λb o ⟨i,hi,h1⟩=>⟨i,h i hi,h1⟩
theorem FromL.one{i:Nat}{m:List Nat}(hi:i∈m)(hl:Live objs i):CS.le (φ i) (FromL φ objs m):=λb o h=>⟨i,hi,hl,h⟩
theorem FromL.disj(h:HR w0 F G ν φ objs nx w){m m':List Nat}(hd:∀i∈m,i∉m'):CS.disj (FromL φ objs m) (FromL φ objs m'):=λb o ⟨i,hi,h1,h2⟩ ⟨j,hj,h3,h4⟩=>by
 have:=h.inj i j b o h1 h3 h2 h4;simp_all
theorem CS.disj.mono{A B A' B':CS}(h:CS.disj A B)(h1:CS.le A' A)(h2:CS.le B' B):CS.disj A' B':=λb o ha hb=>h b o (h1 b o ha) (h2 b o hb)
theorem CS.disj.symm{A B:CS}(h:CS.disj A B):CS.disj B A:=λb o ha hb=>h b o hb ha
theorem Wni{l m:List CS}{A B:CS}(h1:Sep l)(h2:Sep m)(ha:∀s∈l,CS.le s A)(hb:∀s∈m,CS.le s B)(hd:CS.disj A B):Sep (l++m):=
 Xah.2 ⟨h1,h2,λs hs t ht=>hd.mono (ha s hs) (hb t ht)⟩
theorem Wln{l1 l2 l3:List CS}(rf:Sep (l1++l3))(h2:Sep l2)(hd:∀s∈l2,∀t∈l1++l3,CS.disj s t):Sep (l1++(l2++l3)):=by
 obtain⟨h1,h3,h4⟩:=Xah.1 rf;refine Xah.2 ⟨h1,Xah.2 ⟨h2,h3,λs hs t ht=>hd s hs t (Xh _ ht)⟩,λs hs t ht=>?_⟩;rcases Xn.1 ht with ht|ht
 .exact(hd t ht s (Xm _ hs)).symm
 simp_all
theorem WfY{b off i n cap:Nat}(hi:i<cap){S:CS}(h1:CS.le (rng b off (i*n)) S)(h2:CS.le (rng b (off+i*n) n) S)(h3:CS.le (rng b (off+(i+1)*n) ((cap-(i+1))*n)) S):CS.le (rng b off (cap*n)) S:=λb' o ⟨e,g1,g2⟩=>by
 have e1:(i+1)*n=i*n+n:=Xbx i n;have e2:(cap-(i+1))*n+(i+1)*n=cap*n:=by rw[←Xcp];grind
 by_cases c1:o<off+i*n
 .exact h1 b' o ⟨e,g1,c1⟩
 .by_cases c2:o<off+i*n+n
  .exact h2 b' o ⟨e,by omega,c2⟩
  .exact h3 b' o ⟨e,by omega,by omega⟩
theorem Wsm{b a n c m:Nat}(h:a+n<=c):CS.disj (rng b a n) (rng b c m):=λb' o ⟨_,h1,h2⟩ ⟨_,h3,h4⟩=>by omega
theorem Woi{e:Ty}{nu np:Nu}{xs:List e.den}{i:Nat}{S S1 S2:CS}(h:Whk w (TyRel G w e) e.size nu np xs i S){d:e.den}{vs:List Value}{ns:List Pc}(hd:TyRel G w e d vs ns)
  {b:Nat} (hb:np.blk=some b) (hm:Mem w b np.off vs) (hr:CS.le (rng b np.off e.size) S1) (hs:Sep (ns.map Pc.fp)) (eb:∀p∈ns,CS.le p.fp S2) (d1:CS.disj S S1) (d2:CS.disj S S2) (d3:CS.disj S1 S2)
  {S':CS} (l1:CS.le S S') (l2:CS.le S1 S') (l3:CS.le S2 S'):OwnL w (TyRel G w e) e.size nu (xs.set i d) S':=by
 obtain⟨h1,h2,h3,b',h4,h5,h6,h7,h8,h9,c1,c2,p1,p2,g1,g2,g3,g4,g5,g6⟩:=h;rw[hb]at h5;injection h5 with h5;subst h5;have bv:=WaQ (λx c q hx=>WD e x c q hx) _ _ _ g1;rw[Xbh,Xbz (by omega)]at bv;have aJ:=WD _ _ _ _ hd;have e1:(i+1)*e.size=i*e.size+e.size:=Xbx i e.size;refine⟨by simp_all,h2,?_⟩;simp only[h4];have gA:=g6 _ (Xj ..);have gC:=g6 _ (Xf _ (Xj ..));have gp:∀s∈(p1++p2).map Pc.fp,CS.le s S:=λs hs=>g6 s (Xf _ (Xf _ hs));obtain⟨q1,q2⟩:=Xt.1 g5;obtain⟨q3,q4⟩:=Xt.1 q2;rw[h6]at hm hr;refine⟨by simp_all,h8,h9,c1++(vs++c2),p1++(ns++p2),WoU h3 g1 hd g2,?_,Xt.2 ⟨λs cT=>?_,?_⟩,λs cT=>?_⟩
 .refine g3.app (n:=i*e.size) ?_ bv;refine hm.app (n:=e.size) ?_ aJ
  grind
 .
  simp only[Xy,Xn]at cT;have key:∀s,(CS.disj s (rng b nu.off (i*e.size)))->CS.disj s (rng b (nu.off+i*e.size) e.size)->CS.disj s (rng b (nu.off+(i+1)*e.size) ((nu.cap-(i+1))*e.size))->CS.disj (rng b nu.off (nu.cap*e.size)) s:=λs k1 k2 k3 b' o hY it=>
   (WfY (show i<nu.cap by omega) (S:=λb o=>¬s b o) (λb o hh hs=>k1 b o hs hh) (λb o hh hs=>k2 b o hs hh) (λb o hh hs=>k3 b o hs hh) b' o hY) it
  have sr:∀s∈(p1++p2).map Pc.fp,CS.disj (rng b nu.off (nu.cap*e.size)) s:=λs hs=>key s (q1 s (Xf _ hs)).symm (d1.mono (gp s hs) hr) (q3 s hs).symm;rcases cT with cT|cT|cT
  .simp_all
  .obtain⟨p,hp,rfl⟩:=Xv.1 cT;exact key _ (d2.mono gA (eb p hp)).symm (d3.mono hr (eb p hp)).symm (d2.mono gC (eb p hp)).symm
  simp_all
 .rw[Xy,Xy];rw[Xy]at q4 gp;refine Wln q4 hs (λs cT t ht=>?_);obtain⟨p,hp,rfl⟩:=Xv.1 cT;exact(d2.mono (gp t ht) (eb p hp)).symm
 .rcases Xr.1 cT with rfl|cT
  .exact WfY (show i<nu.cap by omega) (λb o hh=>l1 b o (gA b o hh)) (λb o hh=>l2 b o (hr b o hh)) (λb o hh=>l1 b o (gC b o hh))
  .simp only[Xy,Xn]at cT;rcases cT with cT|cT|cT
   .exactλb o hh=>l1 b o (gp s (by simp_all) b o hh)
   .obtain⟨p,hp,rfl⟩:=Xv.1 cT
    exactλb o hh=>l3 b o (eb p hp b o hh)
   .exactλb o hh=>l1 b o (gp s (by simp_all) b o hh)
def Nu.part(n:Nu)(lo hi:Nat):Nu:=⟨n.blk,if n.cap=lo then n.off else n.off+lo*n.esz,hi-lo,n.cap-lo,n.esz⟩
theorem Wky{n:Nu}{lo hi:Nat}:(n.part lo hi).hdr=n.vhdr lo hi:=by
 unfold Nu.hdr Nu.vhdr Nu.part;cases n.blk<;>rfl
theorem WoT{e:Ty}{nu:Nu}{xs:List e.den}{S:CS}{lo hi:Nat}(h:OwnL w (TyRel G w e) e.size nu xs S)(h1:lo<=hi)(h2:hi<=nu.len):OwnL w (TyRel G w e) e.size (nu.part lo hi) ((xs.take hi).drop lo) S:=by
 obtain⟨g1,g2,g3⟩:=h;refine⟨by simp[Nu.part];omega,g2,?_⟩;show match nu.blk with|none=>_|some b=>_
 cases hb:nu.blk with
 |none=>simp_all
 |some b=>
  simp only[hb]at g3;obtain⟨g4,g5,g6,cs,ps,g7,g8,g9,oi⟩:=g3;obtain⟨c1,c2,p1,p2,k1,k2,k3,k4⟩:=Wev xs cs ps hi g7;obtain⟨d1,d2,q1,q2,k5,k6,k7,k8⟩:=Wev (xs.take hi) c1 p1 lo k3;have hl:=WaQ (λx c q hx=>WD e x c q hx) _ _ _ k7;rw[Xbh,Xbh,Xbz (by omega)]at hl;have hcl:(nu.cap-lo)*e.size+lo*e.size=nu.cap*e.size:=by rw[←Xcp];grind
  have hlen:((xs.take hi).drop lo).length=hi-lo:=by simp;omega
  by_cases hc:nu.cap=lo
  .have h0:(xs.take hi).drop lo= []:=Xz (by omega);have e0:nu.cap-lo=0:=by omega
   simp only[Nu.part,Wf hc,e0,Nat.zero_mul,Xbd];rw[h0]at k8⊢;refine⟨Xcf _,Xcf _,?_,[],[],⟨rfl,rfl⟩,λj v hj=>by simp at hj,Xt.2 ⟨by simp,List.Pairwise.nil⟩,λs hs=>?_⟩
   .obtain⟨vs,T,r1,r2⟩:=g6;exact⟨vs,T,r1,by omega⟩
   .simp at hs;subst hs
    exactλb o ⟨_,r1,r2⟩=>WC r2 (by omega)
  .simp only[Nu.part,Wb hc,g2];have hle:CS.le (rng b (nu.off+lo*e.size) ((nu.cap-lo)*e.size)) (rng b nu.off (nu.cap*e.size)):=λb' o ⟨r0,r1,r2⟩=>⟨r0,by omega,by omega⟩;refine⟨by omega,by omega,?_,d2,q2,k8,?_,?_,λs hs=>?_⟩
   .grind
   .rw[k1,k5,List.append_assoc]at g8;exact(g8.right hl).left
   .obtain⟨r1,r2⟩:=Xt.1 g9;rw[k2,k6,Xy,Xy]at r1 r2;refine Xt.2 ⟨λs hs=>(r1 s (Xm _ (Xh _ hs))).mono hle (λ_ _ hh=>hh),?_⟩
    grind
   .rcases Xr.1 hs with rfl|hs
    .exactλb' o hh=>oi _ (Xj ..) b' o (hle b' o hh)
    simp_all
theorem Wll{e:Ty}{nu:Nu}{xs:List e.den}{S:CS}{lo hi:Nat}(h:OwnL w (TyRel G w e) e.size nu xs S)(h1:lo<=hi)(h2:hi<=nu.len):OwnL w (TyRel G w e) e.size (nu.part lo hi) (List.drop lo (List.take hi xs)) S:=WoT h h1 h2
theorem WpT(hg:GLe G G'){e:Ty}{nu np:Nu}{xs:List e.den}{i:Nat}{S S1:CS}(h:Whk w (TyRel G w e) e.size nu np xs i S){d:e.ro.den}{vs:List Value}(hd:Enc G' e.ro d vs)
  {b:Nat} (hb:np.blk=some b) (hm:Mem w b np.off vs) (hr:CS.le (rng b np.off e.size) S1) (f1:Froz G' w S) (f2:Froz G' w S1):Wjh G' (Enc G' e.ro) ((Wcm e xs).set i d) nu.hdr:=by
 obtain⟨h1,h2,h3,b',h4,h5,h6,h7,h8,h9,c1,c2,p1,p2,g1,g2,g3,g4,g5,g6⟩:=h;rw[hb]at h5;injection h5 with h5;subst h5;have bv:=WaQ (λx c q hx=>WD e x c q hx) _ _ _ g1;have kG:=WaQ (λx c q hx=>WD e x c q hx) _ _ _ g2;rw[Xbh,Xbz (by omega)]at bv;rw[Xds]at kG;have aJ:=Enc_len _ _ _ hd;rw[Wbi]at aJ;have e1:(i+1)*e.size=i*e.size+e.size:=Xbx i e.size;rw[h6]at hm hr;have gA:=g6 _ (Xj ..);have gC:=g6 _ (Xf _ (Xj ..));have gp:∀p∈p1++p2,Froz G' w p.fp:=λp hp=>f1.mono (g6 _ (Xf _ (Xf _ (Xam hp))));have jk:(xs.length-(i+1))*e.size<=(nu.cap-(i+1))*e.size:=Xbf _ (by omega);have E1:=Wj7 (λx c p hp hx=>WdK hg e x c p hp hx) _ _ _ (λq hq=>gp q (Xm _ hq)) g1;have E2:=Wj7 (λx c p hp hx=>WdK hg e x c p hp hx) _ _ _ (λq hq=>gp q (Xh _ hq)) g2;rw[WpR]at E1;rw[Wpc]at E2;have hlen:(Wcm e xs).length=xs.length:=WfW e xs;have eset:(Wcm e xs).set i d=(Wcm e xs).take i++(d::(Wcm e xs).drop (i+1)):=by
  rw[Xea,Wf (by omega)]
 unfold Nu.hdr;simp only[h4];refine .inr (.inl ⟨b,nu.off,nu.cap,c1++(vs++c2),by rw[List.length_set,hlen,h1],by grind,h8,?_,λj v hj=>?_⟩)
 .rw[eset];exact WdN _ _ _ _ E1 ⟨vs,c2,rfl,hd,E2⟩
 .have s1:We6 G' b nu.off c1:=g3.stored (n:=i*e.size) (by omega) (f1.mono gA);have s2:We6 G' b (nu.off+i*e.size) vs:=hm.stored (n:=e.size) (by omega) (f2.mono hr);have s3:We6 G' b (nu.off+(i+1)*e.size) c2:=g4.stored (n:=(nu.cap-(i+1))*e.size) (by omega) (f1.mono gC);rw[Xau]at hj;split at hj
  .exact s1 j v hj
  .rename_i cW;rw[Xau]at hj;split at hj
   .have:=s2 _ v hj
    grind
   .have:=s3 _ v hj
    grind
theorem Wo3{α:Type}{R:α->List Value->Prop}{n:Nat}(hR:∀x c,R x c->c.length=n){nu:Nu}{xs:List α}(h:Wjh G R xs nu.hdr)(hlen:xs.length=nu.len)(hn:nu.esz=n){lo hi:Nat}(h1:lo<=hi)(h2:hi<=nu.len)(h3:nu.blk=none->hi=0)(gJ:nu.blk≠none->nu.len<=nu.cap/\nu.cap<=maxLen):
  Wjh G R ((xs.take hi).drop lo) (nu.vhdr lo hi):=by
 unfold Nu.hdr at h;unfold Nu.vhdr;cases hb:nu.blk with
 |none=>
  have:=h3 hb;refine .inl ⟨rfl,Xz (by simp;omega)⟩
 |some b=>
  obtain⟨oj,ka⟩:=gJ (by grind);simp only[hb]at h;have hle:((xs.take hi).drop lo).length=hi-lo:=by simp;omega
  by_cases h0:hi-lo=0
  .refine .inr (.inr ⟨_,nu.cap-lo,by rw[h0],Xz (by omega)⟩)
  .rcases h with⟨e,_⟩|⟨b',off,cap,cs,e,g1,g2,g3,g4⟩|⟨a,cap,e,bu⟩
   .cases e
   .injection e with e1 e2 e3;injection e1 with e1;injection e1 with e4 e5 e6;subst e4 e5 e3;rw[Wb (by omega)];refine .inr (.inl ⟨b,nu.off+lo*nu.esz,nu.cap-lo,(cs.take (hi*n)).drop (lo*n),by rw[hle],by omega,by omega,WeA hR _ _ lo (Wew hR _ _ hi g3),λj v hj=>?_⟩);rw[Xbl,Xbm]at hj;split at hj
    .rw[Xay,hn];exact g4 _ _ hj
    grind
   simp_all
def Leaf(ν:Nat->Nu)(t:Ty)(cs:List Cell)(ns:List Pc):Prop:=∀(lf k r:Nat),Wbl t lf=some k->cs[k]?=some (.own r)->∃pc,ns[lf]?=some pc/\pc.nu=ν r
theorem WeO:∀(t:Ty) (lf k:Nat),Wbl t lf=some k->lf<t.owns/\k<t.size
 | .own _,lf,k,h=>by
  cases lf with
  |zero=>simp[Wbl]at h;subst h;exact⟨Nat.one_pos,Nat.one_pos⟩
  |succ n=>simp[Wbl]at h
 | .prod a b,lf,k,h=>by
  simp only[Wbl]at h;split at h
  .obtain⟨h1,h2⟩:=WeO a lf k h;exact⟨by show _<a.owns+b.owns;omega,by show _<a.size+b.size;omega⟩
  .obtain⟨j,hj,rfl⟩:=Xu.1 h;obtain⟨h1,h2⟩:=WeO b _ j hj;exact⟨by show _<a.owns+b.owns;omega,by show _<a.size+b.size;omega⟩
 | .int _,_,_,h=>by simp[Wbl]at h
 | .bool,_,_,h=>by simp[Wbl]at h
 | .str,_,_,h=>by simp[Wbl]at h
 | .slice _,_,_,h=>by simp[Wbl]at h
theorem Leaf.none{ν:Nat->Nu}{t:Ty}{cs:List Cell}{ns:List Pc}(h:t.owns=0):Leaf ν t cs ns:=λlf k r h1 h2=>by
 have:=(WeO t lf k h1).1;omega
theorem Wuk{ν:Nat->Nu}{e:Ty}{c:Cell}{ns:List Pc}(hc:∀r,c≠ .own r):Leaf ν (.own e) [c] ns:=λlf k r k1 k2=>by
 grind
theorem Wab(h:HR w0 F G ν φ objs nx w)(hg:GLe G G'):∀(t:Ty) (cs:List Cell) (vs:List Value) (d:t.den) (m l:List Nat),CellsRel G ν nx cs vs->Lent G' w φ objs l->m.Nodup->
  Waq t cs objs=some (d,m,l)->∃ns,TyRel G' w t d vs ns/\Sep (ns.map Pc.fp)/\(∀p∈ns,CS.le p.fp (FromL φ objs m))/\(∀i∈m,Live objs i)/\(∀i∈l,Live objs i)/\Leaf ν t cs ns
 | .prod a b,cs,vs,d,m,l,hc,hl,aS,hf=>by
  simp only[Waq]at hf;split at hf
  .rename_i x m1 l1 y m2 l2 h1 h2;simp only[Option.some.injEq,Prod.mk.injEq]at hf;obtain⟨rfl,rfl,rfl⟩:=hf;obtain⟨n1,n2,n3⟩:=List.nodup_append.1 aS;obtain⟨q1,h3,s1,h4,h5,h5',f1⟩:=Wab h hg a _ (vs.take a.size) x m1 l1 (hc.take _) (hl.mono (by simp_all)) n1 h1;obtain⟨q2,h6,s2,h7,h8,h8',f2⟩:=Wab h hg b _ (vs.drop a.size) y m2 l2 (hc.drop _) (hl.mono (by simp_all)) n2 h2;refine⟨q1++q2,⟨_,_,q1,q2,(List.take_append_drop a.size vs).symm,rfl,h3,h6⟩,?_,?_,?_,?_,?_⟩
   .rw[Xy];refine Wni s1 s2 (A:=FromL φ objs m1) (B:=FromL φ objs m2) (λs hs=>?_) (λs hs=>?_) (FromL.disj h (λi hi hj=>n3 i hi i hj rfl))
    .grind
    grind
   .intro p hp b o hh;rcases Xn.1 hp with hp|hp
    .exact FromL.mono (λi hi=>Xm _ hi) b o (h4 p hp b o hh)
    .exact FromL.mono (λi hi=>Xh _ hi) b o (h7 p hp b o hh)
   .grind
   .grind
   .intro lf k r k1 k2;have hq:=W1 _ _ _ _ h3;simp only[Wbl]at k1;split at k1
    .rename_i hlt;obtain⟨_,hk⟩:=WeO a lf k k1;obtain⟨pc,k3,k4⟩:=f1 lf k r k1 (by simp_all)
     grind
    .obtain⟨j,hj,rfl⟩:=Xu.1 k1;obtain⟨pc,k3,k4⟩:=f2 _ j r hj (by simp_all)
     grind
  grind
 | .own e,cs,vs,d,m,l,hc,hl,aS,hf=>by
  simp only[Waq]at hf;split at hf
  .rename_i id;obtain⟨v,rfl,⟨_,hv⟩,_⟩:=hc.single;subst hv;have kH:∀{S:CS},Leaf ν (.own e) [.own id] [⟨ν id,S⟩]:=λ{S} lf k r k1 k2=>by
    cases lf with
    |zero=>
     simp[Wbl]at k1;simp_all
    |succ n=>simp[Wbl]at k1
   obtain⟨⟨ys,m'⟩,ho,hf⟩:=Xu.1 hf;simp only[Prod.mk.injEq]at hf;obtain⟨rfl,rfl,rfl⟩:=hf;unfold WsQ at ho;split at ho
   .rename_i e' xs bc;obtain⟨zs,br,ho⟩:=Xu.1 ho;have ho:=Prod.mk.inj ho;obtain⟨rfl,rfl⟩:=ho;obtain⟨he,hy⟩:=Wap br;subst he;simp only at hy;subst hy;have aJ:Live objs id:=⟨_,bc,by simp⟩;have az:OwnL w (TyRel G w e') e'.size (ν id) xs (φ id):=h.ob _ _ bc;refine⟨[⟨ν id,φ id⟩],⟨_,rfl,rfl,WcL hg (Same.refl _ w) (λ_ _ hh=>hh) az⟩,Xbj _ _,?_,?_,by simp,kH⟩
    .simp_all [FromL.one]
    simp_all
   .rename_i e' xs i p bc;split at ho
    .rename_i zs cs' br gt;split at ho
     .rename_i d' m'' mF;simp only[Option.some.injEq,Prod.mk.injEq]at ho;obtain⟨rfl,rfl⟩:=ho;obtain⟨he,hy⟩:=Wap br;subst he;simp only at hy;subst hy;obtain⟨n1,n2⟩:=Xac.1 aS;obtain⟨n3,n4⟩:=Xac.1 n2;have aJ:Live objs id:=⟨_,bc,by simp⟩;have eJ:Live objs p:=⟨_,gt,by simp⟩;obtain⟨j8,hole⟩:p<nx/\Whk w (TyRel G w e') e'.size (ν id) (ν p) xs i (φ id):=h.ob _ _ bc;obtain⟨b,us,hb,hrow,hmem,bA,fi⟩:Wch G ν nx w p (φ p) (.box cs'):=h.ob _ _ gt;obtain⟨ns,t1,t2,t3,t4,_,_⟩:=Wab h hg e' cs' us d' m'' [] bA (λi hi=>by simp at hi) n4 mF;have cX:=WD _ _ _ _ t1;have mH:=Wjp hg (Same.refl _ w) (λ_ _ hh=>hh) hole;rw[←bA.1,cX]at fi;have hne:id≠p:=λe=>n1 (by simp_all);refine⟨[⟨ν id,FromL φ objs (id::p::m'')⟩],⟨_,rfl,rfl,Woi mH t1 hb hmem fi t2 t3 ?_ ?_ ?_ ?_ ?_ ?_⟩,Xbj _ _,?_,?_,by simp,kH⟩
      .exactλb o h1 h2=>hne (h.inj id p b o aJ eJ h1 h2)
      .exactλb o h1 ⟨j,hj,h2,h3⟩=>by
        have:=h.inj id j b o aJ h2 h1 h3;simp_all
      .exactλb o h1 ⟨j,hj,h2,h3⟩=>by
        have:=h.inj p j b o eJ h2 h1 h3;simp_all
      .simp_all [FromL.one]
      .simp_all [FromL.one]
      .grind [FromL.mono,Xf]
      .intro p hp;simp at hp;subst hp;exactλ_ _ hh=>hh
      simp_all
     grind
    grind
   grind
  .rename_i id lo hi;obtain⟨v,rfl,⟨_,g1,g2,g3,hv⟩,_⟩:=hc.single;subst hv;split at hf
   .rename_i e' xs bc;obtain⟨zs,br,hf⟩:=Xu.1 hf;have hf:=And.intro (Prod.mk.inj hf).1 (Prod.mk.inj (Prod.mk.inj hf).2);obtain⟨rfl,rfl,rfl⟩:=hf;obtain⟨he,hy⟩:=Wap br;subst he;simp only at hy;subst hy;have aJ:Live objs id:=⟨_,bc,by simp⟩;have az:OwnL w (TyRel G w e') e'.size (ν id) xs (φ id):=h.ob _ _ bc;refine⟨[⟨(ν id).part lo hi,φ id⟩],⟨_,rfl,by rw[Wky],Wll (WcL hg (Same.refl _ w) (λ_ _ hh=>hh) az) g1 g2⟩,Xbj _ _,?_,?_,by simp,Wuk (by simp_all)⟩
    .simp_all [FromL.one]
    simp_all
   grind
  .simp only[Option.some.injEq,Prod.mk.injEq]at hf;obtain⟨rfl,rfl,rfl⟩:=hf;obtain⟨v,rfl,hv,_⟩:=hc.single;simp only[CellRel]at hv;subst hv;exact⟨[⟨⟨none,0,0,0,e.size⟩,λ_ _=>False⟩],⟨_,rfl,rfl,rfl,rfl,rfl⟩,Xbj _ _,λp hp b o hh=>by simp_all,by simp,by simp,Wuk (by simp_all)⟩
  grind
 | .slice e,cs,vs,d,m,l,hc,hl,aS,hf=>by
  simp only[Waq]at hf;split at hf
  .rename_i id;obtain⟨v,rfl,⟨_,hv⟩,_⟩:=hc.single;subst hv;obtain⟨⟨ys,l'⟩,ho,hf⟩:=Xu.1 hf;simp only[Prod.mk.injEq]at hf;obtain⟨rfl,rfl,rfl⟩:=hf;unfold Wtj at ho;split at ho
   .rename_i e' xs bc;obtain⟨zs,br,ho⟩:=Xu.1 ho;have ho:=Prod.mk.inj ho;obtain⟨rfl,rfl⟩:=ho;obtain⟨he,hy⟩:=Wap br;subst he;simp only at hy;subst hy;have aJ:Live objs id:=⟨_,bc,by simp⟩;have az:OwnL w (TyRel G w e') e'.size (ν id) xs (φ id):=h.ob _ _ bc;refine⟨[],⟨rfl,_,rfl,WiL hg (hl id (by simp) aJ) az⟩,List.Pairwise.nil,by simp,by simp,?_,Leaf.none rfl⟩;simp_all
   .rename_i e' xs i p bc;split at ho
    .rename_i zs cs' br gt;split at ho
     .rename_i d' l'' mF;simp only[Option.some.injEq,Prod.mk.injEq]at ho;obtain⟨rfl,rfl⟩:=ho;obtain⟨he,hy⟩:=Wap br;subst he;simp only at hy;subst hy;have aJ:Live objs id:=⟨_,bc,by simp⟩;have eJ:Live objs p:=⟨_,gt,by simp⟩;obtain⟨j8,hole⟩:p<nx/\Whk w (TyRel G w e') e'.size (ν id) (ν p) xs i (φ id):=h.ob _ _ bc;obtain⟨b,us,hb,hrow,hmem,bA,fi⟩:Wch G ν nx w p (φ p) (.box cs'):=h.ob _ _ gt;obtain⟨ns,t1,t2,t3,t4,t5,_⟩:=Wab h hg e'.ro cs' us d' [] l'' bA (hl.mono (λi hi=>Xf _ (Xf _ hi))) Xdd mF;obtain⟨t6,_⟩:=(WaS e'.ro d' us ns (WnV e')).1 t1;have cX:=Enc_len _ _ _ t6;rw[Wbi]at cX;rw[←bA.1,cX]at fi;refine⟨[],⟨rfl,_,rfl,WpT hg hole t6 hb hmem fi (hl id (by simp) aJ) (hl p (by simp) eJ)⟩,List.Pairwise.nil,by simp,by simp,?_,Leaf.none rfl⟩;simp_all
     grind
    grind
   grind
  .rename_i id lo hi;obtain⟨v,rfl,⟨_,g1,g2,g3,hv⟩,_⟩:=hc.single;subst hv;split at hf
   .rename_i e' xs bc;obtain⟨zs,br,hf⟩:=Xu.1 hf;have hf:=And.intro (Prod.mk.inj hf).1 (Prod.mk.inj (Prod.mk.inj hf).2);obtain⟨rfl,rfl,rfl⟩:=hf;obtain⟨he,hy⟩:=Wap br;subst he;simp only at hy;subst hy;have aJ:Live objs id:=⟨_,bc,by simp⟩;have az:OwnL w (TyRel G w e') e'.size (ν id) xs (φ id):=h.ob _ _ bc;have hsl:=WiL hg (hl id (by simp) aJ) az;refine⟨[],⟨rfl,_,rfl,?_⟩,List.Pairwise.nil,by simp,by simp,?_,Leaf.none rfl⟩
    .refine Wo3 (n:=e'.size) (λx c hc=>by grind [Wbi,Enc_len]) hsl (by rw[WfW];exact az.1) az.2.1 g1 g2 g3 (λhb=>?_);cases li:(ν id).blk with
     |none=>simp_all
     |some b=>
      have:=az.2.2;simp only[li]at this;exact⟨by rw[←az.1];omega,this.2.1⟩
    simp_all
   grind
  .simp only[Option.some.injEq,Prod.mk.injEq]at hf;obtain⟨rfl,rfl,rfl⟩:=hf;obtain⟨v,rfl,hv,_⟩:=hc.single;simp only[CellRel]at hv;subst hv;exact⟨[],⟨rfl,_,rfl,.inl ⟨rfl,rfl⟩⟩,List.Pairwise.nil,by simp,by simp,by simp,Leaf.none rfl⟩
  .rename_i c _ _ _;cases eI:WiO (.slice e) c with
   |none=>simp_all
   |some x=>
    simp only[eI,Xby,Option.some.injEq,Prod.mk.injEq]at hf;obtain⟨rfl,rfl,rfl⟩:=hf;obtain⟨v,rfl,hv,_⟩:=hc.single;exact⟨[],⟨rfl,Wgk hg hv eI⟩,List.Pairwise.nil,by simp,by simp,by simp,Leaf.none rfl⟩
  grind
 | .int k,cs,vs,d,m,l,hc,hl,aS,hf=>by
  simp only[Waq]at hf;split at hf
  .rename_i c;cases eI:WiO (.int k) c with
   |none=>simp_all
   |some x=>
    simp only[eI,Xby,Option.some.injEq,Prod.mk.injEq]at hf;obtain⟨rfl,rfl,rfl⟩:=hf;obtain⟨v,rfl,hv,_⟩:=hc.single;exact⟨[],⟨rfl,Wgk hg hv eI⟩,List.Pairwise.nil,by simp,by simp,by simp,Leaf.none rfl⟩
  grind
 | .bool,cs,vs,d,m,l,hc,hl,aS,hf=>by
  simp only[Waq]at hf;split at hf
  .rename_i c;cases eI:WiO .bool c with
   |none=>simp_all
   |some x=>
    simp only[eI,Xby,Option.some.injEq,Prod.mk.injEq]at hf;obtain⟨rfl,rfl,rfl⟩:=hf;obtain⟨v,rfl,hv,_⟩:=hc.single;exact⟨[],⟨rfl,Wgk hg hv eI⟩,List.Pairwise.nil,by simp,by simp,by simp,Leaf.none rfl⟩
  grind
 | .str,cs,vs,d,m,l,hc,hl,aS,hf=>by
  simp only[Waq]at hf;split at hf
  .rename_i c;cases eI:WiO .str c with
   |none=>simp_all
   |some x=>
    simp only[eI,Xby,Option.some.injEq,Prod.mk.injEq]at hf;obtain⟨rfl,rfl,rfl⟩:=hf;obtain⟨v,rfl,hv,_⟩:=hc.single;exact⟨[],⟨rfl,Wgk hg hv eI⟩,List.Pairwise.nil,by simp,by simp,by simp,Leaf.none rfl⟩
  grind
theorem Wlk(h:HRel w0 F G ν objs nx w){t:Ty}{cs:List Cell}{vs:List Value}{d:t.den}(hc:CellsRel G ν nx cs vs)(ht:t.data=true)(hf:Waq t cs objs=some (d,[],[])):Enc G t d vs:=by
 obtain⟨φ,h⟩:=h;obtain⟨ns,h1,_⟩:=Wab (G':=G) h (λ_ _ _ hh=>hh) t cs vs d [] [] hc (λid bz=>by simp at bz) Xdd hf
 grind [WaS]
end
end Go.Sx
namespace Go.Sx
set_option linter.unusedVariables false
set_option linter.unusedSimpArgs false
section
variable{w0:World}{F:CS}{nt:Slots}{G0 G G':GH}{ν ν':Nat->Nu}{φ:Nat->CS}{objs objs':W9}{nx aj:Nat}{st af:St}{a:Act}{w w':World}{P:Program}{T:Tab}{Γ:Ctx}
theorem WgP(i:Nat):∀(l:List Nat),Wb4 i l=true↔i∈l
 | []=>by simp[Wb4]
 |j::l=>by
  simp only[Wb4,Bool.or_eq_true,WgP i l,Xr];simp_all
open Classical in
noncomputable def Wp6(G:GH)(w:World)(S:CS):GH:=λb o=>if S b o then w.cell? ⟨b,o,none⟩else G b o
theorem Wrz{S:CS}{b o:Nat}(h:S b o):Wp6 G w S b o=w.cell? ⟨b,o,none⟩:=by unfold Wp6;rw[Wf h]
theorem WcZ{S:CS}{b o:Nat}(h:¬S b o):Wp6 G w S b o=G b o:=by unfold Wp6;rw[Wb h]
theorem Wih(S:CS):Froz (Wp6 G w S) w S:=λb o v hs hv=>by grind [Wrz]
theorem HR.addG_le(h:HR w0 F G ν φ objs nx w)(l:List Nat):GLe G (Wp6 G w (FromL φ objs l)):=λb o v hv=>by
 by_cases hs:FromL φ objs l b o
 .obtain⟨i,_,h1,h2⟩:=hs;rw[h.gf i b o h1 h2]at hv;cases hv
 grind [WcZ]
theorem HR.addG_w(h:HR w0 F G ν φ objs nx w)(l:List Nat):∀b o v,Wp6 G w (FromL φ objs l) b o=some v->w.cell? ⟨b,o,none⟩=some v:=λb o v hv=>by
 by_cases hs:FromL φ objs l b o
 .grind [Wrz]
 .rw[WcZ hs]at hv;exact h.g b o v hv
theorem HRel.freezeL(h:HRel w0 F G ν objs nx w)(gx:GExt w0.heap.size F G0 G)(l:List Nat):∃G1,GLe G G1/\HRel w0 F G1 ν (Sx.kill objs l) nx w/\GExt w0.heap.size F G0 G1/\
  ∀id∈l,∀(e:Ty) (xs:List e.den),Wq objs id=some (.arr e xs)->Wjh G1 (Enc G1 e.ro) (Wcm e xs) (ν id).hdr:=by
 obtain⟨φ,h⟩:=h;have gd:=h.addG_le l;refine⟨Wp6 G w (FromL φ objs l),gd,⟨φ,?_⟩,⟨λb o v hv=>gd b o v (gx.le b o v hv),λb o v hv=>?_⟩,λid bz e xs ho=>?_⟩
 .exact{
   g:=h.addG_w l
   ob:=λj ob hj=>by
    by_cases hd:ob= .dead
    .subst hd;trivial
    .obtain⟨hj,hn⟩:=Wer l j ob hj hd;exact Wdr gd (Same.refl _ w) (λ_ _ hh=>hh) (λ_ _=>rfl) (Xl _) (h.lt j ⟨ob,hj,hd⟩) ob (h.ob j ob hj)
   gf:=λj b o hj hp=>by
    obtain⟨hj,hn⟩:=Wdn hj;rw[WcZ (λ⟨i,hi,h1,h2⟩=>hn (by rw[h.inj j i b o hj h1 hp h2];exact hi))];exact h.gf j b o hj hp
   inj:=λj j' b o hj hj'=>h.inj j j' b o (Wdn hj).1 (Wdn hj').1
   own:=λj b o hj=>h.own j b o (Wdn hj).1
   lt:=λj hj=>h.lt j (Wdn hj).1
   bl:=λj b o hj=>h.bl j b o (Wdn hj).1
   le:=h.le}
 .by_cases hs:FromL φ objs l b o
  .obtain⟨i,_,h1,h2⟩:=hs;exact .inr (h.own i b o h1 h2)
  .rw[WcZ hs]at hv;exact gx.new b o v hv
 .exact WiL gd ((Wih _).mono (FromL.one bz ⟨_,ho,by simp⟩)) (h.ob _ _ ho)
structure Frz(w0:World)(F:CS)(nt:Slots)(G0 G:GH)(ν:Nat->Nu)(st:St)(l:List Nat)(a:Act)(w:World)(G1:GH):Prop where
 le:GLe G G1
 rel:Rel w0 F nt G0 G1 ν {env:=st.env,objs:=kill st.objs l,nx:=st.nx} a w
 sl:∀id∈l,∀(e:Ty) (xs:List e.den),Wq st.objs id=some (.arr e xs)->Wjh G1 (Enc G1 e.ro) (Wcm e xs) (ν id).hdr
theorem Rel.frz(h:Rel w0 F nt G0 G ν st a w)(l:List Nat):∃G1,Frz w0 F nt G0 G ν st l a w G1:=by
 obtain⟨G1,h1,h2,h3,h4⟩:=h.h.freezeL h.gx l;exact⟨G1,h1,h.on h1 (λ_ _=>rfl) (Xl _) h2 h3,h4⟩
theorem Frz.cell{l:List Nat}{G1:GH}(h:Frz w0 F nt G0 G ν st l a w G1):∀(c:Cell) (v:Value),CellRel G ν st.nx c v->CellRel G1 ν st.nx (Wkx st.objs l c) v:=by
 have mono:=λc v (hc:CellRel G ν st.nx c v)=>CellRel.mono (G':=G1) (ν':=ν) (aj:=st.nx) h.le (λ_ _=>rfl) (Xl _) c v hc;intro c v hc;cases c with
 |own id=>
  simp only[Wkx];cases he:Wb4 id l with
  |false=>simp_all
  |true=>
   simp only[Wa];have hm:=(WgP id l).1 he;split
   .rename_i e xs ho;obtain⟨_,hv⟩:=hc;rw[hv];exact⟨_,rfl,h.sl id hm e xs ho⟩
   .trivial
 |vw id lo hi=>exact mono _ v hc
 |val t d=>exact mono _ v hc
 |nils=>exact mono _ v hc
 |aptr id=>exact mono _ v hc
 |ptr id off=>exact mono _ v hc
 |eptr id i off=>exact mono _ v hc
 |rptr t d off=>exact mono _ v hc
 |clos f caps=>exact mono _ v hc
 |junk=>trivial
theorem Frz.val{l:List Nat}{G1:GH}(h:Frz w0 F nt G0 G ν st l a w G1):∀(x:AVal) (v:Value),AValRel G ν st.nx x v->AValRel G1 ν st.nx (WgS st.objs l x) v
 | .s (.one c),v,hx=>⟨h.cell c v hx.1,hx.2⟩
 | .s (.agg cs),v,⟨vs,he,h1,h2⟩=>by
  refine⟨vs,he,by simp[h1],λj c u hc hu=>?_⟩;rw[Xan]at hc;obtain⟨d,hd,rfl⟩:=Xu.1 hc;exact⟨h.cell d u (h2 j d u hd hu).1,(h2 j d u hd hu).2⟩
 | .tup xs,v,hx=>AValRel.mono h.le (λ_ _=>rfl) (Xl _) (.tup xs) v hx
end
end Go.Sx
