/- The abstract machine, part 1: a reflective interpreter of the program's code over data, with its soundness over the model. -/
import Derived.WalkKit
import Derived.LoopN
import Derived.KernelRfl
import Derived.ProofKit
import Derived.OpenShut
import Derived.JoinedCond
open Nat renaming beq→Xaw,blt→Xgh,succ_mul→Xbs,add_comm→Xcw,add_assoc→Xba,lt_of_lt_of_le→Xbg,mul_le_mul_right→Xaz,min_eq_left→Xce,add_zero→Xbb,eq_of_beq_eq_true→Xcl,add_mul→Xcs,le_refl→Xm,zero_le→Xch,le_trans→Xal,le_succ→Xdc,lt_succ_self→Xbu
open List renaming length→Xb,getD→Xc,append→Xh,replicate→Xp,length_append→Xaa,length_cons→Xr,drop_drop→Xdq,take_length_add_append→Xez,drop_left→Xgk,getElem?_append→Xas,getElem?_take→Xbp,getElem?_drop→Xbo,mem_append_left→Xn,mem_append_right→Xg,set_eq_take_append_cons_drop→Xeh,getElem?_eq_some_iff→Xab,mem_cons_of_mem→Xf,mem_map_of_mem→Xan,mem_cons_self→Xj,mem_singleton→Xag,length_take→Xbi,length_drop→Xdv,pairwise_cons→Xy,getElem?_eq_getElem→Xq,mapM_cons→Xey,map_cons→Xaf,getElem?_map→Xak,eq_nil_of_length_eq_zero→Xx,length_map→Xu,map_nil→Xcg,map_toArray→Xds,mem_map→Xw,mem_cons→Xs,pairwise_append→Xah,mem_append→Xo,map_append→Xz,pairwise_singleton→Xbn,nodup_cons→Xac,nodup_nil→Xdd
open Bool renaming and_eq_true→Xi
open Option renaming map_some→Xca,map_eq_some_iff→Xt
open Array renaming getElem?_setIfInBounds_ne→Xen,length_toList→Xaq
namespace Go.Sx
abbrev Wc:=@if_neg
abbrev Wf:=@if_pos
abbrev We:=@decide_eq_true
abbrev Wj:=@decide_eq_false
abbrev Wi:=@decide_eq_true_eq
abbrev Wt:=@decide_eq_false_iff_not
abbrev WaU:=@of_decide_eq_true
abbrev WE:=@absurd
abbrev Wn:=@congrArg
abbrev W4:=@if_true
abbrev W7:=@if_false
theorem Wb{A:Type}(a b:A):cond true a b=a:=rfl
theorem Wa{A:Type}(a b:A):cond false a b=b:=rfl
inductive Ty where
 |int (k:IntKind)|bool|str|slice (e:Ty)|own (e:Ty)|prod (a b:Ty)
 deriving DecidableEq
def Ty.den:Ty->Type
 | .int _=>Int
 | .bool=>Bool
 | .str=>List UInt8
 | .slice e=>List e.den
 | .own e=>List e.den
 | .prod a b=>a.den×b.den
def Ty.size:Ty->Nat
 | .prod a b=>a.size+b.size
 |_=>1
def Ty.dflt:(t:Ty)->t.den
 | .int _=>(0:Int)
 | .bool=>false
 | .str=>([]:List UInt8)
 | .slice e=>([]:List e.den)
 | .own e=>([]:List e.den)
 | .prod a b=>(a.dflt,b.dflt)
def Ty.noRo:Ty->Bool
 | .slice _=>false
 | .own e=>e.noRo
 | .prod a b=>a.noRo&&b.noRo
 |_=>true
def Ty.ro:Ty->Ty
 | .own e=>.slice e.ro
 | .slice e=>.slice e
 | .prod a b=>.prod a.ro b.ro
 | .int k=>.int k
 | .bool=>.bool
 | .str=>.str
theorem Wev:∀t:Ty,t.ro.den=t.den
 | .own e=>Wn List (Wev e)
 | .slice _=>rfl
 | .prod a b=>by show(a.ro.den×b.ro.den)=(a.den×b.den);rw[Wev a,Wev b]
 | .int _| .bool| .str=>rfl
def Wvh(t:Ty)(d:t.den):t.ro.den:=cast (Wev t).symm d
def WcN(t:Ty)(l:List t.den):List t.ro.den:=cast (Wn List (Wev t).symm) l
def Wnl(t t':Ty)(d:t.den):Option t'.den:=
 if h:t=t' then some (h▸d)else none
def WgW(e e':Ty)(l:List e.den):Option (List e'.den):=
 if h:e=e' then some (h▸l)else none
inductive Cell where
 |val (t:Ty) (d:t.den)
 |nils
 |own (id:Nat)
 |vw (id lo hi:Nat)
 |aptr (id:Nat)
 |ptr (id off:Nat)
 |eptr (id i off:Nat)
 |rptr (t:Ty) (d:t.den) (off:Nat)
 |clos (f:FuncId) (caps:List Nat)
 |junk
inductive AV where
 |one (c:Cell)
 |agg (cs:List Cell)
inductive AVal where
 |s (x:AV)
 |tup (xs:List AV)
inductive Ob where
 |box (cs:List Cell)
 |arr (e:Ty) (xs:List e.den)
 |hole (e:Ty) (xs:List e.den) (i p:Nat)
 |dead
abbrev Waa:=List (Nat×Ob)
structure St where
 env:List (Nat×AVal)
 objs:Waa
 nx:Nat
universe u
def Wp{α:Type u}:List (Nat×α)->Nat->Option α
 | [],_=>none
 |(k,v)::l,i=>match Xaw k i with|true=>some v|false=>Wp l i
abbrev GH:=Nat->Nat->Option Value
abbrev CS:=Nat->Nat->Prop
def CS.disj(A B:CS):Prop:=∀b o,A b o->B b o->False
def CS.le(A B:CS):Prop:=∀b o,A b o->B b o
def rng(b lo n:Nat):CS:=λb' o=>b'=b/\lo<=o/\o<lo+n
def Sep(l:List CS):Prop:=l.Pairwise CS.disj
structure Nu where
 blk:Option Nat
 off:Nat
 len:Nat
 cap:Nat
 esz:Nat
def Nu.hdr(n:Nu):Value:=match n.blk with
 |none=>.slice none 0 0
 |some b=>.slice (some ⟨b,n.off,none⟩) n.len n.cap
def Nu.vhdr(n:Nu)(lo hi:Nat):Value:=match n.blk with
 |none=>.slice none 0 0
 |some b=>.slice (some ⟨b,if n.cap=lo then n.off else n.off+lo*n.esz,none⟩) (hi-lo) (n.cap-lo)
structure Pc where
 nu:Nu
 fp:CS
def WfD(G:GH)(b off:Nat)(cs:List Value):Prop:=∀(j:Nat) (v:Value),cs[j]?=some v->G b (off+j)=some v
def Wd2{α:Type}(R:α->List Value->Prop):List α->List Value->Prop
 | [],cs=>cs= []
 |x::l,cs=>∃c1 c2,cs=c1++c2/\R x c1/\Wd2 R l c2
def Wkc{α:Type}(G:GH)(R:α->List Value->Prop)(l:List α)(v:Value):Prop:=
 (v= .slice none 0 0/\l= [])\/
 (∃b off cap cs,v= .slice (some ⟨b,off,none⟩) l.length cap/\l.length<=cap/\cap<=maxLen/\Wd2 R l cs/\WfD G b off cs)\/
 ∃a cap,v= .slice (some a) 0 cap/\l= []
def Enc(G:GH):(t:Ty)->t.den->List Value->Prop
 | .int k,n,cs=>cs= [.int k n]
 | .bool,b,cs=>cs= [.bool b]
 | .str,s,cs=>cs= [.string ⟨List.toArray s⟩]
 | .slice e,l,cs=>∃v,cs= [v]/\Wkc G (Enc G e) l v
 | .own _,_,_=>False
 | .prod a b,d,cs=>∃c1 c2,cs=c1++c2/\Enc G a d.1 c1/\Enc G b d.2 c2
def CellRel(G:GH)(ν:Nat->Nu)(nx:Nat):Cell->Value->Prop
 | .val t d,v=>Enc G t d [v]
 | .nils,v=>v= .slice none 0 0
 | .own id,v=>id<nx/\v=(ν id).hdr
 | .vw id lo hi,v=>id<nx/\lo<=hi/\hi<=(ν id).len/\((ν id).blk=none->hi=0)/\v=(ν id).vhdr lo hi
 | .aptr id,v=>id<nx/\∃b,(ν id).blk=some b/\v= .pointer (some ⟨b,(ν id).off,none⟩)
 | .ptr id off,v=>id<nx/\∃b,(ν id).blk=some b/\v= .pointer (some ⟨b,(ν id).off+off,none⟩)
 | .eptr id i off,v=>id<nx/\i<(ν id).len/\∃b,(ν id).blk=some b/\v= .pointer (some ⟨b,(ν id).off+(i*(ν id).esz+off),none⟩)
 | .rptr t d off,v=>∃b o cs,v= .pointer (some ⟨b,o+off,none⟩)/\Enc G t d cs/\WfD G b o cs
 | .clos f caps,v=>∃vs:List Value,v= .func (.func f) #[] vs.toArray/\vs.length=caps.length/\
   ∀(j id:Nat) (u:Value),caps[j]?=some id->vs[j]?=some u->id<nx/\u.oneCell'=true/\∃b,(ν id).blk=some b/\u= .pointer (some ⟨b,(ν id).off+0,none⟩)
 | .junk,_=>True
def CellsRel(G:GH)(ν:Nat->Nu)(nx:Nat)(cs:List Cell)(vs:List Value):Prop:=
 vs.length=cs.length/\∀(j:Nat) (c:Cell) (v:Value),cs[j]?=some c->vs[j]?=some v->CellRel G ν nx c v/\v.oneCell'=true
def AvRel(G:GH)(ν:Nat->Nu)(nx:Nat):AV->Value->Prop
 | .one c,v=>CellRel G ν nx c v/\v.oneCell'=true
 | .agg cs,v=>∃vs:List Value,v= .agg vs.toArray/\CellsRel G ν nx cs vs
def Wtx(G:GH)(ν:Nat->Nu)(nx:Nat)(xs:List AV)(vs:List Value):Prop:=
 vs.length=xs.length/\∀(j:Nat) (x:AV) (v:Value),xs[j]?=some x->vs[j]?=some v->AvRel G ν nx x v
def AValRel(G:GH)(ν:Nat->Nu)(nx:Nat):AVal->Value->Prop
 | .s x,v=>AvRel G ν nx x v
 | .tup xs,v=>∃vs:List Value,v= .tuple vs.toArray/\Wtx G ν nx xs vs
def Row(w:World)(b n:Nat):Prop:=∃vs T,w.heap[b]?=some (.cells vs T (0,0))/\n<=vs.size
def Mem(w:World)(b o:Nat)(vs:List Value):Prop:=∀(j:Nat) (v:Value),vs[j]?=some v->w.cell? ⟨b,o+j,none⟩=some v
def Wfa{α:Type}(R:α->List Value->List Pc->Prop):List α->List Value->List Pc->Prop
 | [],cs,ps=>cs= []/\ps= []
 |x::l,cs,ps=>∃c1 c2 p1 p2,cs=c1++c2/\ps=p1++p2/\R x c1 p1/\Wfa R l c2 p2
def WbP{α:Type}(w:World)(R:α->List Value->List Pc->Prop)(n:Nat)(nu:Nu)(xs:List α)(S:CS):Prop:=
 xs.length=nu.len/\nu.esz=n/\match nu.blk with
  |none=>xs= []
  |some b=>xs.length<=nu.cap/\nu.cap<=maxLen/\Row w b (nu.off+nu.cap*n)/\∃cs ps,Wfa R xs cs ps/\Mem w b nu.off cs/\
    Sep (rng b nu.off (nu.cap*n)::ps.map Pc.fp)/\∀s∈rng b nu.off (nu.cap*n)::ps.map Pc.fp,CS.le s S
def Wy(G:GH)(w:World):(t:Ty)->t.den->List Value->List Pc->Prop
 | .own e,xs,vs,ns=>∃p:Pc,ns= [p]/\vs= [p.nu.hdr]/\WbP w (Wy G w e) e.size p.nu xs p.fp
 | .prod a b,d,vs,ns=>∃v1 v2 n1 n2,vs=v1++v2/\ns=n1++n2/\Wy G w a d.1 v1 n1/\Wy G w b d.2 v2 n2
 | .int k,d,vs,ns=>ns= []/\Enc G (.int k) d vs
 | .bool,d,vs,ns=>ns= []/\Enc G .bool d vs
 | .str,d,vs,ns=>ns= []/\Enc G .str d vs
 | .slice e,d,vs,ns=>ns= []/\Enc G (.slice e) d vs
def Wic{α:Type}(w:World)(R:α->List Value->List Pc->Prop)(n:Nat)(nu np:Nu)(xs:List α)(i:Nat)(S:CS):Prop:=
 xs.length=nu.len/\nu.esz=n/\i<xs.length/\∃b,nu.blk=some b/\np.blk=some b/\np.off=nu.off+i*n/\xs.length<=nu.cap/\nu.cap<=maxLen/\Row w b (nu.off+nu.cap*n)/\
  ∃c1 c2 p1 p2,Wfa R (xs.take i) c1 p1/\Wfa R (xs.drop (i+1)) c2 p2/\Mem w b nu.off c1/\Mem w b (nu.off+(i+1)*n) c2/\
   Sep (rng b nu.off (i*n)::rng b (nu.off+(i+1)*n) ((nu.cap-(i+1))*n)::(p1++p2).map Pc.fp)/\
   ∀s∈rng b nu.off (i*n)::rng b (nu.off+(i+1)*n) ((nu.cap-(i+1))*n)::(p1++p2).map Pc.fp,CS.le s S
def WcP(G:GH)(ν:Nat->Nu)(nx:Nat)(w:World)(id:Nat)(S:CS):Ob->Prop
 | .box cs=>∃b vs,(ν id).blk=some b/\Row w b ((ν id).off+cs.length)/\Mem w b (ν id).off vs/\CellsRel G ν nx cs vs/\CS.le (rng b (ν id).off cs.length) S
 | .arr e xs=>WbP w (Wy G w e) e.size (ν id) xs S
 | .hole e xs i p=>p<nx/\Wic w (Wy G w e) e.size (ν id) (ν p) xs i S
 | .dead=>True
def Live(objs:Waa)(id:Nat):Prop:=∃ob,Wp objs id=some ob/\ob≠ .dead
structure WLe(F:CS)(w w':World):Prop where
 size:w.heap.size<=w'.heap.size
 row:∀(b:Nat) (vs:Array Value) (T:TypeId),w.heap[b]?=some (Obj.cells vs T (0,0))->∃au:Array Value,w'.heap[b]?=some (Obj.cells au T (0,0))/\au.size=vs.size
 cell:∀(b o:Nat),b<w.heap.size->¬F b o->w'.cell? ⟨b,o,none⟩=w.cell? ⟨b,o,none⟩
 whole:∀(b:Nat),b<w.heap.size->(∀o,¬F b o)->w'.heap[b]?=w.heap[b]?
 os:w'.os=w.os
 output:w'.output=w.output
 tape:w'.tape=w.tape
structure HR(w0:World)(F:CS)(G:GH)(ν:Nat->Nu)(φ:Nat->CS)(objs:Waa)(nx:Nat)(w:World):Prop where
 g:∀b o v,G b o=some v->w.cell? ⟨b,o,none⟩=some v
 ob:∀id ob,Wp objs id=some ob->WcP G ν nx w id (φ id) ob
 gf:∀id b o,Live objs id->φ id b o->G b o=none
 inj:∀id cl b o,Live objs id->Live objs cl->φ id b o->φ cl b o->id=cl
 own:∀id b o,Live objs id->φ id b o->w0.heap.size<=b\/F b o
 lt:∀id,Live objs id->id<nx
 bl:∀id b o,Live objs id->φ id b o->b<w.heap.size
 le:WLe F w0 w
def HRel(w0:World)(F:CS)(G:GH)(ν:Nat->Nu)(objs:Waa)(nx:Nat)(w:World):Prop:=∃φ,HR w0 F G ν φ objs nx w
structure GExt(B:Nat)(F:CS)(G G':GH):Prop where
 le:∀b o v,G b o=some v->G' b o=some v
 new:∀b o v,G' b o=some v->G b o=some v\/B<=b\/F b o
structure Slots where
 n:Nat
 kept:List (Nat×Value)
 ex:AVal->Value->Prop
def Slots.Ok(s:Slots)(d:Nat):Prop:=d<s.n/\∀p∈s.kept,p.1≠d
structure Rel(w0:World)(F:CS)(nt:Slots)(G0:GH)(G:GH)(ν:Nat->Nu)(st:St)(a:Act)(w:World):Prop where
 defers:a.defers= []
 ntm:a.tmps.size=nt.n
 par:∀p∈nt.kept,a.tmps[p.1]?=some p.2
 env:∀i x,Wp st.env i=some x->∃v,a.tmps[i]?=some v/\AValRel G ν st.nx x v
 h:HRel w0 F G ν st.objs st.nx w
 gx:GExt w0.heap.size F G0 G
 ex:∀x v,nt.ex x v->AValRel G ν st.nx x v
end Go.Sx
namespace Go.Sx
set_option linter.unusedVariables false
inductive Shape where
 |basic|slice (e:TypeId)|struct (fs:List (Nat×TypeId))|ptr (e:TypeId)|arr (n:Nat) (e:TypeId)
structure TE where
 ty:Ty
 agg:Bool
 shape:Shape
abbrev Tab:=List (TypeId×TE)
def TE.plain(te:TE):Bool:=match te.shape with
 | .arr _ _=>false
 |_=>true
def Wh(k:IntKind)(a b:Int):Int:=k.wrap (a+b)
def WU(k:IntKind)(a b:Int):Int:=k.wrap (a-b)
def WrP(k:IntKind)(a b:Int):Int:=k.wrap (a*b)
def WpT(k:IntKind)(a b:Int):Int:=k.wrap (a.tdiv b)
def WdD(a b:Int):Int:=a.tmod b
def Wx4(k:IntKind)(a b:Int):Int:=k.wrap (BitVec.ofInt k.bits a&&&BitVec.ofInt k.bits b).toNat
def ior(k:IntKind)(a b:Int):Int:=k.wrap (BitVec.ofInt k.bits a|||BitVec.ofInt k.bits b).toNat
def Wx1(k:IntKind)(a b:Int):Int:=k.wrap (BitVec.ofInt k.bits a^^^BitVec.ofInt k.bits b).toNat
def WxG(k:IntKind)(a b:Int):Int:=k.wrap (BitVec.ofInt k.bits a&&& ~~~BitVec.ofInt k.bits b).toNat
def Wxw(k:IntKind)(a b:Int):Int:=k.wrap (a*2^(min b.toNat k.bits))
def WxW(k:IntKind)(a b:Int):Int:=a.fdiv (2^(min b.toNat k.bits))
def WxZ(a b:List UInt8):Bool:=!decide (((a.length+b.length:Nat):Int)>IntKind.i64.max)
def Wg{α:Type}(l:List α):Int:=(l.length:Int)
def inb(i:Int)(n:Nat):Bool:=decide (0<=i)&&decide (i<(n:Int))
def Wz(n:Nat):Bool:=decide (n<=1073741824)
def Wt3(l:List Int):List UInt8:=l.map λn=>UInt8.ofNat n.toNat
def ieq(a b:Int):Bool:=a==b
def beq(a b:Bool):Bool:=a==b
def seq(a b:List UInt8):Bool:=a==b
def inz(b:Int):Bool:=!decide (b=0)
def inn(b:Int):Bool:=!decide (b<0)
def one(t:Ty)(d:t.den):AVal:=.s (.one (.val t d))
def WxE(op:BinOp)(k:IntKind)(a b:Int):Option (Bool×AVal):=
 match op with
 | .add=>some (true,one (.int k) (Wh k a b))
 | .sub=>some (true,one (.int k) (WU k a b))
 | .mul=>some (true,one (.int k) (WrP k a b))
 | .quo=>some (inz b,one (.int k) (WpT k a b))
 | .rem=>some (inz b,one (.int k) (WdD a b))
 | .and=>some (true,one (.int k) (Wx4 k a b))
 | .or=>some (true,one (.int k) (ior k a b))
 | .xor=>some (true,one (.int k) (Wx1 k a b))
 | .andNot=>some (true,one (.int k) (WxG k a b))
 | .eql=>some (true,one .bool (a==b))
 | .neq=>some (true,one .bool (a !=b))
 | .lss=>some (true,one .bool (decide (a<b)))
 | .leq=>some (true,one .bool (decide (a<=b)))
 | .gtr=>some (true,one .bool (decide (a>b)))
 | .geq=>some (true,one .bool (decide (a>=b)))
 |_=>none
def WxS(op:BinOp)(a b:List UInt8):Option (Bool×AVal):=
 match op with
 | .add=>some (WxZ a b,one .str (a++b))
 | .eql=>some (true,one .bool (seq a b))
 | .neq=>some (true,one .bool (!seq a b))
 |_=>none
def Wlu(te:TE)(c d:Cell):Option Bool:=
 match te,c,d with
 |⟨.int _,false,.basic⟩,.val (.int k) a,.val (.int k') b=>if k=k' then some (ieq a b)else none
 |⟨.bool,false,.basic⟩,.val .bool a,.val .bool b=>some (beq a b)
 |⟨.str,false,.basic⟩,.val .str a,.val .str b=>some (seq a b)
 |_,_,_=>none
def Wdg(T:Tab):List TypeId->List Cell->List Cell->Option Bool
 | [],[],[]=>some true
 |t::ts,c::cs,d::ds=>match Wp T t with
  |some te=>match Wlu te c d,Wdg T ts cs ds with
   |some x,some y=>some (x&&y)
   |_,_=>none
  |none=>none
 |_,_,_=>none
def binOp(T:Tab)(op:BinOp)(t:TypeId)(x y:AVal):Option (Bool×AVal):=
 match x,y with
 | .s (.one (.val (.int k) a)),.s (.one (.val (.int k') b))=>
  match op with
  | .shl=>some (inn b,one (.int k) (Wxw k a b))
  | .shr=>some (inn b,one (.int k) (WxW k a b))
  |_=>if k=k' then WxE op k a b else none
 | .s (.one (.val .str a)),.s (.one (.val .str b))=>WxS op a b
 | .s (.one (.val .bool a)),.s (.one (.val .bool b))=>
  match Wp T t with
  |some ⟨.bool,false,.basic⟩=>
   match op with
   | .eql=>some (true,one .bool (beq a b))
   | .neq=>some (true,one .bool (!beq a b))
   |_=>none
  |_=>none
 | .s (.agg cs),.s (.agg ds)=>
  match Wp T t with
  |some ⟨_,true,.struct fs⟩=>
   if decide (fs.map (·.1)=List.range fs.length)then
    match op,Wdg T (fs.map (·.2)) cs ds with
    | .eql,some b=>some (true,one .bool b)
    | .neq,some b=>some (true,one .bool (!b))
    |_,_=>none
   else none
  |_=>none
 |_,_=>none
def unOp(op:UnOp)(x:AVal):Option (Bool×AVal):=
 match op,x with
 | .not,.s (.one (.val .bool b))=>some (true,one .bool (!b))
 | .neg,.s (.one (.val (.int k) n))=>some (true,one (.int k) (WU k 0 n))
 |_,_=>none
def split:(t:Ty)->t.den->List Cell
 | .prod a b,d=>split a d.1++split b d.2
 | .int k,d=>[.val (.int k) d]
 | .bool,d=>[.val .bool d]
 | .str,d=>[.val .str d]
 | .slice e,d=>[.val (.slice e) d]
 | .own e,d=>[.junk]
def Wao:Value->Option Cell
 | .int k n=>some (.val (.int k) n)
 | .bool b=>some (.val .bool b)
 | .string s=>some (.val .str s.data.toList)
 | .slice none 0 0=>some .nils
 | .pointer none=>some .junk
 | .nilFunc=>some .junk
 |_=>none
def Wss:Value->Option AVal
 | .agg cs=>(cs.toList.mapM Wao).map λl=>.s (.agg l)
 |v=>(Wao v).map λc=>.s (.one c)
def ev(st:St):Operand->Option AVal
 | .tmp t=>Wp st.env t
 | .const v=>Wss v
 | .func f=>some (.s (.one (.clos f [])))
 | .global _=>none
def St.put(st:St)(dst:Option Tmp)(x:AVal):St:=
 match dst with
 |some d=>{st with env:=(d,x)::st.env}
 |none=>st
def sub(agg:Bool)(cs:List Cell)(off n:Nat):Option AVal:=
 if agg then(if off+n<=cs.length then some (.s (.agg ((cs.drop off).take n)))else none)
 else(cs[off]?).map λc=>.s (.one c)
def Wh4(T:Tab)(st:St)(t:TypeId)(x:AVal):Option AVal:=
 match Wp T t with
 |some te=>
  if te.plain then
   match x with
   | .s (.one (.ptr id off))=>match Wp st.objs id with
    |some (.box cs)=>sub te.agg cs off te.ty.size
    |_=>none
   | .s (.one (.eptr id i off))=>match Wp st.objs id with
    |some (.arr e xs)=>sub te.agg (split e (xs.getD i e.dflt)) off te.ty.size
    |_=>none
   | .s (.one (.rptr t' d off))=>sub te.agg (split t' d) off te.ty.size
   |_=>none
  else none
 |none=>none
def Wu5(k:IntKind)(xs:List Int):Nat->Nat->List Cell
 |_,0=>[]
 |i,n+1=>.val (.int k) (xs.getD i (0:Int))::Wu5 k xs (i+1) n
def WfX(T:Tab)(st:St)(t:TypeId)(x:AVal):Option (Bool×AVal):=
 match Wp T t with
 |some ⟨.int k,true,.arr n _⟩=>match x with
  | .s (.one (.aptr id))=>match Wp st.objs id with
   |some (.arr (.int k') xs)=>if k'=k then some (decide (Xb xs=n),.s (.agg (Wu5 k xs 0 n)))else none
   |_=>none
  |_=>none
 |_=>none
def WbN(k:IntKind):List Cell->Option (List Int)
 | []=>some []
 | .val (.int k') d::cs=>if k'=k then(WbN k cs).map λl=>(d:Int)::l else none
 |_=>none
def asI:AVal->Option Int
 | .s (.one (.val (.int _) n))=>some n
 |_=>none
def asB:AVal->Option Bool
 | .s (.one (.val .bool b))=>some b
 |_=>none
def obL(o:Option Ob):Option (Bool×AVal):=match o with
 |some (.arr _ xs)=>some (true,one (.int .i64) (Wg xs))
 |some (.hole _ xs _ _)=>some (true,one (.int .i64) (Wg xs))
 |_=>none
def Wj0(T:Tab)(st:St)(t:TypeId)(x:AVal):Option (Bool×AVal):=
 match Wp T t,x with
 |some ⟨_,false,.slice _⟩,.s (.one (.val (.slice _) l))=>some (true,one (.int .i64) (Wg l))
 |some ⟨_,false,.slice _⟩,.s (.one .nils)=>some (true,one (.int .i64) (0:Int))
 |some ⟨_,false,.slice _⟩,.s (.one (.own id))=>obL (Wp st.objs id)
 |some ⟨_,false,.slice _⟩,.s (.one (.vw _ lo hi))=>some (true,one (.int .i64) ((hi-lo:Nat):Int))
 |some ⟨.str,false,.basic⟩,.s (.one (.val .str s))=>some (true,one (.int .i64) (Wg (α:=UInt8) s))
 |_,_=>none
def WgR(T:Tab)(t:TypeId)(f:Nat):Option (Nat×TE):=
 match Wp T t with
 |some ⟨_,_,.struct fs⟩=>match fs[f]? with
  |some (off,ft)=>match Wp T ft with
   |some te=>if te.plain then some (off,te)else none
   |none=>none
  |none=>none
 |_=>none
def Wch(T:Tab)(st:St)(t:TypeId)(x:AVal)(f:Nat):Option (Bool×AVal):=
 match WgR T t f,x with
 |some (off,_),.s (.one (.ptr id o))=>match Wp st.objs id with
  |some (.box _)=>some (true,.s (.one (.ptr id (o+off))))
  |_=>none
 |some (off,_),.s (.one (.eptr id i o))=>match Wp st.objs id with
  |some (.arr _ _)=>some (true,.s (.one (.eptr id i (o+off))))
  |_=>none
 |some (off,_),.s (.one (.rptr t' d o))=>some (true,.s (.one (.rptr t' d (o+off))))
 |_,_=>none
def WoB(T:Tab)(t:TypeId)(x:AVal)(f:Nat):Option (Bool×AVal):=
 match WgR T t f,x with
 |some (off,te),.s (.agg cs)=>(sub te.agg cs off te.ty.size).map λv=>(true,v)
 |_,_=>none
def obI(te:TE)(n:Int)(id:Nat)(o:Option Ob):Option (Bool×AVal):=match o with
 |some (.arr e xs)=>if te.ty=e.ro then some (inb n xs.length,.s (.one (.eptr id n.toNat 0)))else none
 |some (.hole e xs i p)=>if te.ty=e.ro then some (inb n xs.length&&Xaw n.toNat i,.s (.one (.ptr p 0)))else none
 |_=>none
def WwY(te:TE)(n:Int)(id lo hi:Nat)(o:Option Ob):Option (Bool×AVal):=match o with
 |some (.arr e xs)=>if te.ty=e.ro then some (inb n (hi-lo),.s (.one (.eptr id (lo+n.toNat) 0)))else none
 |_=>none
def WwM(te:TE)(n:Int)(k:Nat)(id:Nat)(o:Option Ob):Option (Bool×AVal):=match o with
 |some (.arr e xs)=>if te.ty=e then some (inb n k&&decide (xs.length=k),.s (.one (.eptr id n.toNat 0)))else none
 |_=>none
def Wci(T:Tab)(st:St)(t:TypeId)(x i:AVal):Option (Bool×AVal):=
 match Wp T t,asI i with
 |some ⟨_,_,.slice et⟩,some n=>match Wp T et with
  |some te=>
   if te.plain then match x with
    | .s (.one (.val (.slice e) l))=>if te.ty=e then some (inb n (Xb l),.s (.one (.rptr e (Xc l n.toNat e.dflt) 0)))else none
    | .s (.one .nils)=>some (false,.s (.one .junk))
    | .s (.one (.own id))=>obI te n id (Wp st.objs id)
    | .s (.one (.vw id lo hi))=>WwY te n id lo hi (Wp st.objs id)
    |_=>none
   else none
  |none=>none
 |some ⟨_,_,.arr k et⟩,some n=>match Wp T et with
  |some te=>
   if te.plain then match x with
    | .s (.one (.aptr id))=>WwM te n k id (Wp st.objs id)
    |_=>none
   else none
  |none=>none
 |_,_=>none
def Wph(T:Tab)(t:TypeId)(x i:AVal):Option (Bool×AVal):=
 match Wp T t,x,asI i with
 |some ⟨.str,_,.basic⟩,.s (.one (.val .str s)),some n=>some (inb n (Xb s),one (.int .u8) ((Xc s n.toNat 0).toNat:Int))
 |some ⟨.int k,_,.arr m et⟩,.s (.agg cs),some n=>match Wp T et with
  |some ⟨.int k',false,.basic⟩=>match WbN k cs with
   |some l=>if k'=k/\cs.length=m then some (inb n m,one (.int k) (Xc l n.toNat (0:Int)))else none
   |none=>none
  |_=>none
 |_,_,_=>none
def Wc5(n:Nat)(lo hi:Option Int):Bool×Nat×Nat:=
 match lo,hi with
 |none,none=>(true,0,n)
 |some l,none=>(decide (0<=l)&&decide (l<=(n:Int)),l.toNat,n)
 |none,some h=>(decide (0<=h)&&decide (h<=(n:Int)),0,h.toNat)
 |some l,some h=>(decide (0<=h)&&decide (h<=(n:Int))&&decide (0<=l)&&decide (l<=h),l.toNat,h.toNat)
def Wu3{α:Type}(l:List α)(lo hi:Option Int):List α:=
 match lo,hi with
 |none,none=>l
 |some a,none=>l.drop a.toNat
 |none,some b=>l.take b.toNat
 |some a,some b=>(l.take b.toNat).drop a.toNat
def WmI(st:St):Option Operand->Option (Option Int)
 |none=>some none
 |some x=>((ev st x).bind asI).map some
def Wlt(T:Tab)(st:St)(t:TypeId)(x:AVal)(lo hi:Option Operand):Option (Bool×AVal):=
 match Wp T t,x,WmI st lo,WmI st hi with
 |some ⟨.str,_,.basic⟩,.s (.one (.val .str s)),some l,some h=>some ((Wc5 (Xb s) l h).1,one .str (Wu3 s l h))
 |some ⟨_,_,.slice et⟩,.s (.one (.val (.slice e) xs)),some l,some h=>match Wp T et with
  |some te=>if te.ty=e/\te.plain then some ((Wc5 (Xb xs) l h).1,one (.slice e) (Wu3 xs l h))else none
  |none=>none
 |_,_,_,_=>none
def Wuq(st:St):AVal->Option Ob
 | .s (.one (.own id))=>Wp st.objs id
 |_=>none
def Wxd(T:Tab)(o:Option Ob)(src dst:TypeId)(x:AVal):Option (Bool×AVal):=
 match Wp T src,Wp T dst,x with
 |some ⟨.int _,false,.basic⟩,some ⟨.int k,false,.basic⟩,.s (.one (.val (.int _) n))=>some (true,one (.int k) (k.wrap n))
 |some ⟨.str,false,.basic⟩,some ⟨.str,false,.basic⟩,.s (.one (.val .str s))=>some (true,one .str s)
 |some ⟨_,_,.slice et⟩,some ⟨.str,false,.basic⟩,.s (.one c)=>
  match Wp T et with
  |some ⟨.int .u8,false,.basic⟩=>match c with
   | .val (.slice (.int .u8)) l=>some (true,one .str (Wt3 l))
   | .nils=>some (true,one .str ([]:List UInt8))
   | .own _=>match o with
    |some (.arr (.int .u8) xs)=>some (true,one .str (Wt3 xs))
    |_=>none
   |_=>none
  |_=>none
 |_,_,_=>none
def Wkt(T:Tab)(st:St)(src dst:TypeId)(x:AVal):Option (Bool×AVal):=Wxd T (Wuq st x) src dst x
def WqV(st:St)(x:AVal):Option (Bool×AVal):=
 match x with
 | .s (.one (.rptr _ _ _))=>some (true,x)
 | .s (.one (.ptr id _))=>match Wp st.objs id with
  |some (.box _)=>some (true,x)
  |_=>none
 | .s (.one (.eptr id _ _))| .s (.one (.aptr id))=>match Wp st.objs id with
  |some (.arr _ _)=>some (true,x)
  |_=>none
 |_=>none
def Wgp(st:St):List Operand->Option (List Nat)
 | []=>some []
 |o::l=>match ev st o,Wgp st l with
  |some (.s (.one (.ptr id 0))),some r=>some (id::r)
  |_,_=>none
def Wx0(a b:Int):Int:=if b<a then b else a
def Ws8(a b:Int):Int:=if a<b then b else a
def WqE(T:Tab)(st:St)(op:BinOp)(t:TypeId)(a b:AVal):Option (Bool×AVal):=
 match a,b with
 | .s (.one (.own id)),.s (.one .nils)=>match Wp T t with
  |some ⟨_,false,.slice _⟩=>match Wp st.objs id with
   |some (.arr _ xs)=>match op with
    | .eql=>some (Xgh 0 xs.length,one .bool false)
    | .neq=>some (Xgh 0 xs.length,one .bool true)
    |_=>none
   |_=>none
  |_=>none
 |_,_=>none
def Wae(T:Tab)(st:St):Op->Option (Bool×AVal)
 | .move x| .assign x=>(ev st x).map λv=>(true,v)
 | .pick c a b=>match(ev st c).bind asB with
  |some p=>match ev st a,ev st b with
   |some (.s (.one (.val .bool x))),some (.s (.one (.val .bool y)))=>some (true,one .bool (bif p then x else y))
   |va,vb=>(bif p then va else vb).map λv=>(true,v)
  |none=>none
 | .load t a=>(ev st a).bind λv=>match WfX T st t v with
  |some r=>some r
  |none=>(Wh4 T st t v).map λr=>(true,r)
 | .nilCheck x=>(ev st x).bind (WqV st)
 | .binOp op t x y _=>match ev st x,ev st y with
  |some a,some b=>match WqE T st op t a b with
   |some r=>some r
   |none=>binOp T op t a b
  |_,_=>none
 | .unOp op _ x=>(ev st x).bind (unOp op)
 | .convert src dst x=>(ev st x).bind (Wkt T st src dst)
 | .slice t x lo hi none=>(ev st x).bind λv=>Wlt T st t v lo hi
 | .fieldAddr s x f=>(ev st x).bind λv=>Wch T st s v f
 | .field t x f=>(ev st x).bind λv=>WoB T t v f
 | .indexAddr t x i=>match ev st x,ev st i with
  |some a,some b=>Wci T st t a b
  |_,_=>none
 | .index t x i=>match ev st x,ev st i with
  |some a,some b=>Wph T t a b
  |_,_=>none
 | .extract t ix=>match ev st t with
  |some (.tup xs)=>(xs[ix]?).map λx=>(true,.s x)
  |_=>none
 | .makeFunc (.func f) first captured=>if first.isEmpty then(Wgp st captured.toList).map λids=>(true,.s (.one (.clos f ids)))else none
 | .call c=>match c.callee,c.args.toList,c.argTypes.toList with
  | .builtin .len,[x],[t]=>(ev st x).bind (Wj0 T st t)
  | .builtin .min,[x,y],[_,_]=>match ev st x,ev st y with
   |some (.s (.one (.val (.int k) a))),some (.s (.one (.val (.int k') b)))=>if k=k' then some (true,one (.int k) (Wx0 a b))else none
   |_,_=>none
  | .builtin .max,[x,y],[_,_]=>match ev st x,ev st y with
   |some (.s (.one (.val (.int k) a))),some (.s (.one (.val (.int k') b)))=>if k=k' then some (true,one (.int k) (Ws8 a b))else none
   |_,_=>none
  |_,_,_=>none
 |_=>none
def WeZ:Ty->List Cell
 | .prod a b=>WeZ a++WeZ b
 | .int k=>[.val (.int k) (0:Int)]
 | .bool=>[.val .bool false]
 | .str=>[.val .str ([]:List UInt8)]
 | .slice _=>[.nils]
 | .own _=>[.junk]
def Ty.data:Ty->Bool
 | .own _=>false
 | .prod a b=>a.data&&b.data
 |_=>true
def unfold:(t:Ty)->t.den->Nat->List Cell×Waa×Nat
 | .prod a b,d,nx=>
  let x:=unfold a d.1 nx
  let y:=unfold b d.2 x.2.2
  (x.1++y.1,x.2.1++y.2.1,y.2.2)
 | .own e,d,nx=>([.own nx],[(nx,.arr e d)],nx+1)
 | .int k,d,nx=>([.val (.int k) d],[],nx)
 | .bool,d,nx=>([.val .bool d],[],nx)
 | .str,d,nx=>([.val .str d],[],nx)
 | .slice e,d,nx=>([.val (.slice e) d],[],nx)
def Wj6(t:Ty)(c:Cell):Option t.den:=
 match c with
 | .val t' d=>Wnl t' t d
 |_=>none
def WuO(e:Ty)(objs:Waa)(fc:List Cell->Option (e.den×List Nat×List Nat))(id:Nat):Option (List e.den×List Nat):=
 match Wp objs id with
 |some (.arr e' xs)=>(WgW e' e xs).map λys=>(ys,[id])
 |some (.hole e' xs i p)=>match WgW e' e xs,Wp objs p with
  |some ys,some (.box cs)=>match fc cs with
   |some (d,m,[])=>some (ys.set i d,id::p::m)
   |_=>none
  |_,_=>none
 |_=>none
def Wu7(e:Ty)(objs:Waa)(fc:List Cell->Option (e.den×List Nat×List Nat))(id:Nat):Option (List e.den×List Nat):=
 match Wp objs id with
 |some (.arr e' xs)=>(WgW e'.ro e (WcN e' xs)).map λys=>(ys,[id])
 |some (.hole e' xs i p)=>match WgW e'.ro e (WcN e' xs),Wp objs p with
  |some ys,some (.box cs)=>match fc cs with
   |some (d,[],l)=>some (ys.set i d,id::p::l)
   |_=>none
  |_,_=>none
 |_=>none
def Waw:(t:Ty)->List Cell->Waa->Option (t.den×List Nat×List Nat)
 | .prod a b,cs,objs=>match Waw a (cs.take a.size) objs,Waw b (cs.drop a.size) objs with
  |some (x,m,r),some (y,m',r')=>some ((x,y),m++m',r++r')
  |_,_=>none
 | .own e,cs,objs=>match cs with
  | [.own id]=>(WuO e objs (λcs=>Waw e cs objs) id).map λp=>(p.1,p.2,[])
  | [.vw id lo hi]=>match Wp objs id with
   |some (.arr e' xs)=>(WgW e' e xs).map λys=>((ys.take hi).drop lo,[id],[])
   |_=>none
  | [.nils]=>some (([]:List e.den),[],[])
  |_=>none
 | .slice e,cs,objs=>match cs with
  | [.own id]=>(Wu7 e objs (λcs=>Waw e cs objs) id).map λp=>(p.1,[],p.2)
  | [.vw id lo hi]=>match Wp objs id with
   |some (.arr e' xs)=>(WgW e'.ro e (WcN e' xs)).map λys=>((ys.take hi).drop lo,[],[id])
   |_=>none
  | [.nils]=>some (([]:List e.den),[],[])
  | [c]=>(Wj6 (.slice e) c).map λd=>(d,[],[])
  |_=>none
 | .int k,cs,_=>match cs with
  | [c]=>(Wj6 (.int k) c).map λd=>(d,[],[])
  |_=>none
 | .bool,cs,_=>match cs with
  | [c]=>(Wj6 .bool c).map λd=>(d,[],[])
  |_=>none
 | .str,cs,_=>match cs with
  | [c]=>(Wj6 .str c).map λd=>(d,[],[])
  |_=>none
def Wcv(i:Nat):List Nat->Bool
 | []=>false
 |j::l=>Xaw i j||Wcv i l
def Wby:List Nat->Bool
 | []=>true
 |i::l=>!Wcv i l&&Wby l
def eqN:List Nat->List Nat->Bool
 | [],[]=>true
 |i::l,j::m=>Xaw i j&&eqN l m
 |_,_=>false
def Wgg(l m:List Nat):Bool:=l.all λi=>!Wcv i m
def kill(objs:Waa):List Nat->Waa
 | []=>objs
 |i::l=>(i,.dead)::kill objs l
def cellsOf(agg:Bool):AVal->Option (List Cell)
 | .s (.one c)=>if agg then none else some [c]
 | .s (.agg cs)=>if agg then some cs else none
 | .tup _=>none
inductive PTy where
 |v (t:Ty) (agg:Bool)
 |box (t:Ty)
 |mut (e:Ty)
 |clos (g:FuncId) (n:Nat)
 |kv (t:Ty) (agg:Bool)
 |rp (t:Ty)
 |boxal (t:Ty) (lf:Nat)
 |vj (t:Ty)
def Ty.owns:Ty->Nat
 | .own _=>1
 | .prod a b=>a.owns+b.owns
 |_=>0
def WfJ:List PTy->Type
 | []=>Unit
 | .v t _::ps=>t.den×WfJ ps
 | .box t::ps=>t.den×WfJ ps
 | .mut e::ps=>List e.den×WfJ ps
 | .clos _ _::ps=>WfJ ps
 | .kv t _::ps=>t.den×WfJ ps
 | .rp t::ps=>t.den×WfJ ps
 | .vj _::ps=>WfJ ps
 | .boxal t _::ps=>t.den×Nat×WfJ ps
def Wgh:List PTy->Type
 | []=>Unit
 | .v _ _::ps=>Wgh ps
 | .box t::ps=>t.den×Wgh ps
 | .mut e::ps=>List e.den×Wgh ps
 | .clos _ _::ps=>Wgh ps
 | .kv t _::ps=>t.den×Wgh ps
 | .rp _::ps=>Wgh ps
 | .vj _::ps=>Wgh ps
 | .boxal t _::ps=>t.den×Wgh ps
def Whr:List PTy->Type
 | []=>Unit
 | .v t _::rs=>t.den×Whr rs
 | .box t::rs=>t.den×Whr rs
 | .mut _::rs=>Whr rs
 | .clos _ _::rs=>Whr rs
 | .kv _ _::rs=>Whr rs
 | .rp _::rs=>Whr rs
 | .vj t::rs=>t.den×Whr rs
 | .boxal _ _::rs=>Whr rs
structure Kp where
 id:Nat
 off:Nat
def kp0(l:List Nat):List Kp:=l.map λi=>⟨i,0⟩
structure Args(ps:List PTy) where
 d:WfJ ps
 moved:List Nat
 lent:List Nat
 kept:List Kp
 all:List Nat
def WbA:Ty->Nat->Option Nat
 | .own _,n=>match n with
  |0=>some 0
  |_+1=>none
 | .prod a b,n=>if n<a.owns then WbA a n else(WbA b (n-a.owns)).map (a.size+ ·)
 | .int _,_=>none
 | .bool,_=>none
 | .str,_=>none
 | .slice _,_=>none
def WsZ(objs:Waa):Cell->AVal->Option Nat
 | .own r,.s (.one (.ptr p off))=>match off,Wp objs r with
  |0,some (.hole _ _ i p')=>if Xaw p p' then some i else none
  |_,_=>none
 | .own r,.s (.one (.eptr r' i off))=>match off,Wp objs r with
  |0,some (.arr _ _)=>if Xaw r r' then some i else none
  |_,_=>none
 |_,_=>none
def Wtf:Cell->Bool
 | .vw _ _ _=>false
 |_=>true
def Wvm:AVal->Bool
 | .s (.one c)=>Wtf c
 | .s (.agg cs)=>cs.all Wtf
 | .tup _=>true
def WnW(objs:Waa)(t:Ty)(m:List Nat)(x:AVal):Bool:=decide (m.length=t.owns)&&Wvm x&&m.all λid=>match Wp objs id with
 |some (.arr _ _)=>true
 |_=>false
def Whd(l:List Nat):List AVal:=l.map λid=>.s (.one (.ptr id 0))
def Wad:(ps:List PTy)->List AVal->Waa->Option (Args ps)
 | [],xs,_=>match xs with
  | []=>some ⟨(),[],[],[],[]⟩
  |_=>none
 | .v t agg::ps,xs,objs=>match xs with
  |x::xs=>match(cellsOf agg x).bind λcs=>Waw t cs objs,Wad ps xs objs with
   |some (d,m,r),some A=>some ⟨(d,A.d),m++A.moved,r++A.lent,A.kept,m++A.all⟩
   |_,_=>none
  |_=>none
 | .box t::ps,xs,objs=>match xs with
  | .s (.one (.ptr id off))::xs=>match Wp objs id with
   |some (.box cs)=>match Waw t ((cs.drop off).take t.size) objs,Wad ps xs objs with
    |some (d,m,[]),some A=>some ⟨(d,A.d),m++A.moved,A.lent,⟨id,off⟩::A.kept,id::(m++A.all)⟩
    |_,_=>none
   |_=>none
  |_=>none
 | .mut e::ps,xs,objs=>match xs with
  | .s (.one (.own id))::xs=>match Wp objs id with
   |some (.arr e' ys)=>match WgW e' e ys,Wad ps xs objs with
    |some d,some A=>some ⟨(d,A.d),A.moved,A.lent,⟨id,0⟩::A.kept,id::A.all⟩
    |_,_=>none
   |_=>none
  |_=>none
 | .clos g n::ps,xs,objs=>match xs with
  | .s (.one (.clos g' caps))::xs=>if g'=g/\caps.length=n then(Wad ps (Whd caps++xs) objs).map λA=>⟨A.d,A.moved,A.lent,A.kept,A.all⟩else none
  |_=>none
 | .kv t agg::ps,xs,objs=>match xs with
  |x::xs=>match(cellsOf agg x).bind λcs=>Waw t cs objs,Wad ps xs objs with
   |some (d,m,r),some A=>if WnW objs t m x then some ⟨(d,A.d),A.moved,r++A.lent,kp0 m++A.kept,m++A.all⟩else none
   |_,_=>none
  |_=>none
 | .rp t::ps,xs,objs=>match xs with
  | .s (.one (.ptr id off))::xs=>match Wp objs id with
   |some (.box cs)=>match Waw t ((cs.drop off).take t.size) objs,Wad ps xs objs with
    |some (d,[],r),some A=>if t.data then some ⟨(d,A.d),A.moved,id::(r++A.lent),A.kept,A.all⟩else none
    |_,_=>none
   |_=>none
  | .s (.one (.rptr t' d off))::xs=>match Waw t (((split t' d).drop off).take t.size) objs,Wad ps xs objs with
   |some (d,[],[]),some A=>if t.data then some ⟨(d,A.d),A.moved,A.lent,A.kept,A.all⟩else none
   |_,_=>none
  |_=>none
 | .vj _::_,_,_=>none
 | .boxal t lf::ps,xs,objs=>match xs with
  | .s (.one (.ptr id off))::y::xs=>match Wp objs id with
   |some (.box cs)=>match Waw t ((cs.drop off).take t.size) objs,Wad ps xs objs,((WbA t lf).bind λk=>((cs.drop off).take t.size)[k]?).bind λc=>WsZ objs c y with
    |some (d,m,[]),some A,some i=>some ⟨(d,i,A.d),m++A.moved,A.lent,⟨id,off⟩::A.kept,id::(m++A.all)⟩
    |_,_,_=>none
   |_=>none
  |_=>none
def WcM:(t:Ty)->t.den->List Nat->Waa
 | .own e,d,ids=>match ids with
  |id::_=>[(id,.arr e d)]
  | []=>[]
 | .prod a b,d,ids=>WcM a d.1 (ids.take a.owns)++WcM b d.2 (ids.drop a.owns)
 | .int _,_,_=>[]
 | .bool,_,_=>[]
 | .str,_,_=>[]
 | .slice _,_,_=>[]
def Weu(cs:List Cell)(off:Nat)(ds:List Cell):List Cell:=cs.take off++ds++cs.drop (off+ds.length)
def WhU(o:Option Ob)(off:Nat)(ds:List Cell):Ob:=match o with
 |some (.box cs)=>.box (Weu cs off ds)
 |_=>.dead
def Wah:(ps:List PTy)->Wgh ps->List Kp->Waa->Nat->Waa×Nat
 | [],_,_,objs,nx=>(objs,nx)
 | .v _ _::ps,o,ids,objs,nx=>Wah ps o ids objs nx
 | .box t::ps,o,ids,objs,nx=>match ids with
  |k::ids=>
   let x:=unfold t o.1 nx
   Wah ps o.2 ids ((k.id,WhU (Wp objs k.id) k.off x.1)::(x.2.1++objs)) x.2.2
  | []=>(objs,nx)
 | .mut e::ps,o,ids,objs,nx=>match ids with
  |k::ids=>Wah ps o.2 ids ((k.id,.arr e o.1)::objs) nx
  | []=>(objs,nx)
 | .clos _ _::ps,o,ids,objs,nx=>Wah ps o ids objs nx
 | .kv t _::ps,o,ids,objs,nx=>Wah ps o.2 (ids.drop t.owns) (WcM t o.1 ((ids.take t.owns).map Kp.id)++objs) nx
 | .rp _::ps,o,ids,objs,nx=>Wah ps o ids objs nx
 | .vj _::ps,o,ids,objs,nx=>Wah ps o ids objs nx
 | .boxal t _::ps,o,ids,objs,nx=>match ids with
  |k::ids=>
   let x:=unfold t o.1 nx
   Wah ps o.2 ids ((k.id,WhU (Wp objs k.id) k.off x.1)::(x.2.1++objs)) x.2.2
  | []=>(objs,nx)
def Wxj(agg:Bool)(cs:List Cell):AV:=if agg then .agg cs else match cs with
 | [c]=>.one c
 |_=>.agg cs
def Wbr:(rs:List PTy)->Whr rs->Waa->Nat->List AV×Waa×Nat
 | [],_,objs,nx=>([],objs,nx)
 | .v t agg::rs,d,objs,nx=>
  let x:=unfold t d.1 nx
  let y:=Wbr rs d.2 (x.2.1++objs) x.2.2
  (Wxj agg x.1::y.1,y.2)
 | .box t::rs,d,objs,nx=>
  let x:=unfold t d.1 (nx+1)
  let y:=Wbr rs d.2 ((nx,.box x.1)::(x.2.1++objs)) x.2.2
  (.one (.ptr nx 0)::y.1,y.2)
 | .mut _::rs,d,objs,nx=>Wbr rs d objs nx
 | .clos _ _::rs,d,objs,nx=>Wbr rs d objs nx
 | .kv _ _::rs,d,objs,nx=>Wbr rs d objs nx
 | .rp _::rs,d,objs,nx=>Wbr rs d objs nx
 | .vj t::rs,d,objs,nx=>
  let x:=unfold t d.1 nx
  let y:=Wbr rs d.2 (x.2.1++objs) x.2.2
  (.agg (x.1++ [.junk])::y.1,y.2)
 | .boxal _ _::rs,d,objs,nx=>Wbr rs d objs nx
def WwG:List AV->AVal
 | [x]=>.s x
 |xs=>.tup xs
abbrev KV(R:Type):=AVal->Waa->Nat->Option R
abbrev Out:=AVal×Waa×Nat
def WbF(x:AVal)(objs:Waa)(nx:Nat):Option Out:=some (x,objs,nx)
structure Inl where
 fn:(R:Type)->St->KV R->Option R
 law:∀(R:Type) (st:St) (k:KV R),fn R st k=(fn Out st WbF).bind λp=>k p.1 p.2.1 p.2.2
 suf:∀(st:St) (x:AVal) (objs:Waa) (nx:Nat),fn Out st WbF=some (x,objs,nx)->∃pre,objs=pre++st.objs
structure Sig where
 ps:List PTy
 rs:List PTy
 fn:(R:Type)->WfJ ps->(Wgh ps×Whr rs->Option R)->Option R
 run:WfJ ps->Option (Wgh ps×Whr rs)
 law:∀(R:Type) (d:WfJ ps) (k:Wgh ps×Whr rs->Option R),fn R d k=(run d).bind k
 inl:Option Inl
noncomputable def Sig.of(ps:List PTy)(rs:List PTy)(run:WfJ ps->Option (Wgh ps×Whr rs)):Sig:=⟨ps,rs,λ_ d k=>(run d).bind k,run,λ_ _ _=>rfl,none⟩
theorem Sig.law'(s:Sig){R:Type}(d:WfJ s.ps)(k:Wgh s.ps×Whr s.rs->Option R)(r:R)(h:s.fn R d k=some r):∃o,s.run d=some o/\k o=some r:=by
 rw[s.law]at h;cases hr:s.run d with
 |none=>simp_all
 |some o=>simp_all
def PTy.fresh:PTy->Bool
 | .v _ _=>true
 | .box t=>t.noRo
 | .mut e=>e.noRo
 | .clos _ _=>true
 | .kv t _=>t.noRo
 | .rp _=>true
 | .vj _=>true
 | .boxal t _=>t.noRo
def PTy.freshR:PTy->Bool
 | .v t _=>t.noRo
 | .box t=>t.noRo
 | .mut _=>true
 | .clos _ _=>true
 | .kv _ _=>true
 | .rp _=>true
 | .vj t=>t.noRo
 | .boxal _ _=>true
def Sig.fresh(s:Sig):Bool:=s.rs.all PTy.freshR&&s.ps.all PTy.fresh
abbrev Ctx:=List (FuncId×Sig)
def evs(st:St):List Operand->Option (List AVal)
 | []=>some []
 |o::l=>match ev st o,evs st l with
  |some x,some xs=>some (x::xs)
  |_,_=>none
def WfM{R:Type}(sg:Sig)(st:St)(xs:List AVal)(k:KV R):Option R:=
 match Wad sg.ps xs st.objs with
 |some A=>
  if Wby A.all&&Wgg A.lent A.all&&(sg.fresh||A.lent.isEmpty)then
   sg.fn R A.d λo=>
    let p:=Wah sg.ps o.1 A.kept (kill st.objs A.moved) st.nx
    let q:=Wbr sg.rs o.2 p.1 p.2
    k (WwG q.1) q.2.1 q.2.2
  else none
 |none=>none
def WmA(objs:Waa)(ids:List Nat):Cell->Cell
 | .own id=>bif Wcv id ids then(match Wp objs id with
  |some (.arr e xs)=>.val (.slice e.ro) (WcN e xs)
  |_=>.junk)else .own id
 | .vw id lo hi=>.vw id lo hi
 | .val t d=>.val t d
 | .nils=>.nils
 | .aptr id=>.aptr id
 | .ptr id off=>.ptr id off
 | .eptr id i off=>.eptr id i off
 | .rptr t d off=>.rptr t d off
 | .clos f caps=>.clos f caps
 | .junk=>.junk
def WhQ(objs:Waa)(ids:List Nat):AVal->AVal
 | .s (.one c)=>.s (.one (WmA objs ids c))
 | .s (.agg cs)=>.s (.agg (cs.map (WmA objs ids)))
 | .tup xs=>.tup xs
def Wr6:Cell->List Nat
 | .own id=>[id]
 | .vw _ _ _=>[]
 | .val _ _=>[]
 | .nils=>[]
 | .aptr _=>[]
 | .ptr _ _=>[]
 | .eptr _ _ _=>[]
 | .rptr _ _ _=>[]
 | .clos _ _=>[]
 | .junk=>[]
def WsN:AVal->List Nat
 | .s (.one c)=>Wr6 c
 | .s (.agg cs)=>cs.flatMap Wr6
 | .tup _=>[]
def WuB:Ty->List Cell->List Nat
 | .prod a b,cs=>WuB a (cs.take a.size)++WuB b (cs.drop a.size)
 | .slice _,cs=>match cs with
  |c::_=>Wr6 c
  | []=>[]
 | .own _,_=>[]
 | .int _,_=>[]
 | .bool,_=>[]
 | .str,_=>[]
def WhZ(e:Ty):AVal->List Nat
 | .s (.one c)=>WuB e [c]
 | .s (.agg cs)=>WuB e cs
 | .tup _=>[]
def Wf6(objs:Waa)(p v:AVal):List Nat:=match p with
 | .s (.one (.eptr id _ _))=>match Wp objs id with
  |some (.arr e _)=>bif e.data then WsN v else WhZ e v
  |_=>[]
 |_=>[]
def Wll(ps:List (Nat×AVal)):List Nat:=ps.flatMap λp=>WsN p.2
def Wei(objs:Waa)(l:List Nat):Waa:=kill objs l
def Wmy(objs:Waa)(ps:List (Nat×AVal)):List (Nat×AVal):=ps.map λp=>(p.1,WhQ objs (Wll ps) p.2)
def Wns{R:Type}(sg:Sig)(st:St)(xs:List AVal)(k:KV R):Option R:=
 bif sg.fresh then WfM sg st xs k else match Wad sg.ps xs st.objs with
  |some A=>match A.lent with
   | []=>WfM sg st xs k
   |_=>WfM sg {env:=st.env,objs:=kill st.objs A.lent,nx:=st.nx} (xs.map (WhQ st.objs A.lent)) k
  |none=>none
def St.new(st:St)(dst:Option Tmp)(ob:Ob)(x:AVal):St:=
 {env:=st.env,objs:=(st.nx,ob)::st.objs,nx:=st.nx+1:St}.put dst x
def St.turn(st:St)(id:Nat)(ob:Ob):St:={st with objs:=(id,ob)::st.objs}
def Whe:AVal->Option (List Cell)
 | .s (.one c)=>some [c]
 | .s (.agg cs)=>some cs
 | .tup _=>none
def Wda(T:Tab)(st:St)(t:TypeId)(x v:AVal):Option St:=
 match Wp T t,x,Whe v with
 |some te,.s (.one (.ptr id off)),some ds=>match Wp st.objs id with
  |some (.box cs)=>if decide (te.ty.size=ds.length)&&te.plain&&decide (off+ds.length<=cs.length)then some (st.turn id (.box (Weu cs off ds)))else none
  |_=>none
 |some te,.s (.one (.eptr id i off)),some ds=>match Wp st.objs id with
  |some (.arr e xs)=>
   if decide (te.ty.size=ds.length)&&te.plain&&decide (off+ds.length<=e.size)&&e.data then
    match Waw e (Weu (split e (xs.getD i e.dflt)) off ds) st.objs with
    |some (d,[],[])=>some (st.turn id (.arr e (xs.set i d)))
    |_=>none
   else if decide (te.ty.size=ds.length)&&te.plain&&decide (off=0)&&decide (ds.length=e.size)then
    match Waw e ds st.objs with
    |some (d,m,[])=>if Wby (id::m)then some {env:=st.env,objs:=(id,.arr e (xs.set i d))::kill st.objs m,nx:=st.nx}else none
    |_=>none
   else none
  |_=>none
 |_,_,_=>none
def Wv2(st:St)(e:Ty):AVal->Option (List e.den)
 | .s (.one (.val (.slice e') d))=>WgW e' e d
 | .s (.one .nils)=>some []
 | .s (.one (.own id))=>match Wp st.objs id with
  |some (.arr e' xs)=>WgW e' e xs
  |_=>none
 | .s (.one (.vw id lo hi))=>match Wp st.objs id with
  |some (.arr e' xs)=>(WgW e' e xs).map λys=>(ys.take hi).drop lo
  |_=>none
 |_=>none
def Wuy(st:St)(e:Ty):AVal->Option (List e.den×List Nat)
 | .s (.one .nils)=>some ([],[])
 | .s (.one (.own id))=>match Wp st.objs id with
  |some (.arr e' xs)=>(WgW e' e xs).map λys=>(ys,[id])
  |_=>none
 |_=>none
def Wx6(st:St):AVal->Option Ty
 | .s (.one (.own id))=>match Wp st.objs id with
  |some (.arr e _)=>some e
  |_=>none
 |_=>none
def WeT{R:Type}(st:St)(te:Ty)(s x:AVal)(k:KV R):Option R:=
 match s with
 | .s (.one .nils)=>match Wx6 st x with
  |some e=>if e.ro=te then match Wuy st e x with
    |some (l,m)=>bif Wz l.length then k (.s (.one (.own st.nx))) ((st.nx,.arr e l)::kill st.objs m) (st.nx+1)else none
    |none=>none
   else none
  |none=>none
 | .s (.one (.own id))=>match Wp st.objs id with
  |some (.arr e xs)=>if e.ro=te then match Wuy st e x with
    |some (l,m)=>if Wby (id::m)then(bif Wz (xs.length+l.length)then k (.s (.one (.own st.nx))) ((st.nx,.arr e (Xh xs l))::kill st.objs (id::m)) (st.nx+1)else none)else none
    |none=>none
   else none
  |_=>none
 |_=>none
def Wt9(st:St):AVal->AVal->Bool
 | .s (.one (.own id)),_=>match Wp st.objs id with
  |some (.arr e _)=>e.data
  |_=>true
 | .s (.one .nils),.s (.one (.own id))=>match Wp st.objs id with
  |some (.arr e _)=>e.data
  |_=>true
 |_,_=>true
def Wem{R:Type}(T:Tab)(st:St)(t t2:TypeId)(s x:AVal)(k:KV R):Option R:=
 match Wp T t,Wp T t2 with
 |some ⟨_,false,.slice et⟩,some _=>match Wp T et with
  |some te=>
   if t=t2/\te.plain/\te.ty.data then
    bif !Wt9 st s x then WeT st te.ty s x k else
    match s,Wv2 st te.ty x with
    | .s (.one .nils),some l=>bif Wz l.length then k (.s (.one (.own st.nx))) ((st.nx,.arr te.ty l)::st.objs) (st.nx+1)else none
    | .s (.one (.own id)),some l=>match Wp st.objs id with
     |some (.arr e xs)=>match Wnl (.own e) (.own te.ty) xs with
      |some ys=>bif Wz (Xb ys+l.length)then k (.s (.one (.own st.nx))) ((st.nx,.arr te.ty (Xh ys l))::(id,.dead)::st.objs) (st.nx+1)else none
      |none=>none
     |_=>none
    | .s (.one (.vw id 0 hi)),some l=>match Wp st.objs id with
     |some (.arr e xs)=>match Wnl (.own e) (.own te.ty) xs with
      |some ys=>bif Wz (hi+l.length)then k (.s (.one (.own st.nx))) ((st.nx,.arr te.ty (Xh (ys.take hi) l))::(id,.dead)::st.objs) (st.nx+1)else none
      |none=>none
     |_=>none
    |_,_=>none
   else none
  |none=>none
 |_,_=>none
def Wnd(T:Tab)(fs:List (Nat×TypeId)):List (Nat×AVal)->List Cell->Option (List Cell)
 | [],cs=>some cs
 |(i,x)::ps,cs=>match fs[i]? with
  |some (off,ft)=>match Wp T ft,Whe x with
   |some te,some ds=>if decide (te.ty.size=ds.length)&&decide (off+ds.length<=cs.length)then Wnd T fs ps (Weu cs off ds)else none
   |_,_=>none
  |none=>none
def Wrs(e:Ty)(objs:Waa):List (Nat×AVal)->List e.den->Option (List e.den)
 | [],xs=>some xs
 |(i,x)::ps,xs=>match Whe x with
  |some ds=>match Waw e ds objs with
   |some (d,[],[])=>if i<xs.length then Wrs e objs ps (xs.set i d)else none
   |_=>none
  |none=>none
def WcO(st:St):List (Nat×Operand)->Option (List (Nat×AVal))
 | []=>some []
 |(i,o)::l=>match ev st o,WcO st l with
  |some x,some xs=>some ((i,x)::xs)
  |_,_=>none
inductive An where
 |nest (e:Ty)
 |view
 |opn
 |shut (off:Nat)
def WwZ(A:List (Nat×An))(o:Oper):Option An:=match o.dst with
 |some d=>Wp A d
 |none=>none
def WdI{R:Type}(st:St)(e:Ty)(ps:List (Nat×AVal))(k:KV R):Option R:=
 match ps with
 | [p]=>if p.1=0 then match Whe (WhQ st.objs (WhZ e p.2) p.2)with
  |some ds=>match Waw e ds (Wei st.objs (WhZ e p.2))with
   |some (d,m,[])=>if Wby m then k (.s (.one (.own st.nx))) ((st.nx,.arr e [d])::kill (Wei st.objs (WhZ e p.2)) m) (st.nx+1)else none
   |_=>none
  |none=>none
  else none
 |_=>none
def WfT{R:Type}(st:St)(te:Ty)(id:Nat)(l h:Option Int)(k:KV R):Option R:=
 match Wp st.objs id with
 |some (.arr e xs)=>if te=e.ro then bif (Wc5 (Xb xs) l h).1 then k (.s (.one (.vw id (Wc5 (Xb xs) l h).2.1 (Wc5 (Xb xs) l h).2.2))) st.objs st.nx else none else none
 |_=>none
def WtF(o:Option Ob)(n:Nat):Bool:=match o with
 |some (.box cs)=>Xaw cs.length n
 |_=>false
def Wcb:Nat->List AVal->List (Nat×AVal)
 |_,[]=>[]
 |i,x::xs=>(i,x)::Wcb (i+1) xs
def rxe{R:Type}(T:Tab)(Γ:Ctx)(A:List (Nat×An))(o:Oper)(st:St)(k:KV R):Option R:=
 match o.op with
 | .alloc t=>match Wp T t with
  |some ⟨e,true,.arr n _⟩=>if e.data&&Wz n then k (.s (.one (.aptr st.nx))) ((st.nx,.arr e (Xp n e.dflt))::st.objs) (st.nx+1)else none
  |some te=>if te.plain then k (.s (.one (.ptr st.nx 0))) ((st.nx,.box (WeZ te.ty))::st.objs) (st.nx+1)else none
  |none=>none
 | .box t x=>match Wp T t,(ev st x).bind Whe with
  |some _,some cs=>k (.s (.one (.ptr st.nx 0))) ((st.nx,.box cs)::st.objs) (st.nx+1)
  |_,_=>none
 | .build t parts=>match Wp T t,WcO st parts.toList with
  |some ⟨ty,true,.struct fs⟩,some ps=>
   if fs.all (λf=>match Wp T f.2 with|some te=>te.plain|none=>false)then
    match Wnd T fs ps (WeZ ty)with
    |some cs=>k (.s (.agg cs)) st.objs st.nx
    |none=>none
   else none
  |_,_=>none
 | .buildSlice t n parts=>match Wp T t,WcO st parts.toList with
  |some ⟨_,false,.slice et⟩,some ps=>match Wp T et with
   |some te=>match WwZ A o with
    |some (.nest e)=>if decide (n=1)&&decide (e.ro=te.ty)&&te.plain&&decide (te.ty.size<=16777216)then WdI st e ps k else none
    |_=>match Wrs te.ty (Wei st.objs (Wll ps)) (Wmy st.objs ps) (Xp n te.ty.dflt)with
    |some xs=>if decide (n*te.ty.size<=16777216)&&te.ty.data&&te.plain then k (.s (.one (.own st.nx))) ((st.nx,.arr te.ty xs)::Wei st.objs (Wll ps)) (st.nx+1)else none
    |none=>none
   |none=>none
  |_,_=>none
 | .makeSlice t n c=>match Wp T t,(ev st n).bind asI,(ev st c).bind asI with
  |some ⟨_,false,.slice et⟩,some n',some c'=>match Wp T et with
   |some te=>match WwZ A o with
    |some (.nest e)=>if decide (e.ro=te.ty)&&te.plain then(bif decide (0<=n')&&decide (n'<=c')&&Wz c'.toNat then k (.s (.one (.own st.nx))) ((st.nx,.arr e (Xp n'.toNat e.dflt))::st.objs) (st.nx+1)else none)else none
    |_=>if te.ty.data&&te.plain then(bif decide (0<=n')&&decide (n'<=c')&&Wz c'.toNat then k (.s (.one (.own st.nx))) ((st.nx,.arr te.ty (Xp n'.toNat te.ty.dflt))::st.objs) (st.nx+1)else none)else none
   |none=>none
  |_,_,_=>none
 | .store t a x=>match ev st a,ev st x with
  |some p,some v=>match Wda T {env:=st.env,objs:=Wei st.objs (Wf6 st.objs p v),nx:=st.nx} t p (WhQ st.objs (Wf6 st.objs p v) v)with
   |some af=>match o.dst with
    |none=>k (.tup []) af.objs af.nx
    |some _=>none
   |none=>none
  |_,_=>none
 | .slice t x lo hi none=>match ev st x with
  |some (.s (.one (.own id)))=>match Wp T t,WmI st lo,WmI st hi with
   |some ⟨_,false,.slice et⟩,some l,some h=>match Wp T et with
    |some te=>match WwZ A o with
     |some .view=>if te.plain then WfT st te.ty id l h k else none
     |_=>match l,h,Wp st.objs id with
      |none,some h,some (.arr e xs)=>if te.ty=e.ro/\te.plain then(bif decide (0<=h)&&decide (h<=(xs.length:Int))then k (.s (.one (.own st.nx))) ((st.nx,.arr e (xs.take h.toNat))::(id,.dead)::st.objs) (st.nx+1)else none)else none
      |none,some h,some (.hole e xs i p)=>if te.ty=e.ro/\te.plain/\WtF (Wp st.objs p) e.size then(bif decide (0<=h)&&decide (h<=(xs.length:Int))&&decide (h<=(i:Int))then k (.s (.one (.own st.nx))) ((st.nx,.arr e (xs.take h.toNat))::(id,.dead)::(p,.dead)::st.objs) (st.nx+1)else none)else none
      |_,_,_=>none
    |none=>none
   |_,_,_=>none
  |_=>match Wae T st o.op with
   |some (c,v)=>bif c then k v st.objs st.nx else none
   |none=>none
 | .call c=>match c.callee,c.args.toList,c.argTypes.toList with
  | .builtin .append,[s,x],[t,t2]=>match ev st s,ev st x with
   |some sv,some xv=>Wem T st t t2 sv xv k
   |_,_=>none
  | .builtin .clear,[x],[t]=>match ev st x with
   |some (.s (.one (.vw id lo hi)))=>match Wp T t,Wp st.objs id with
    |some ⟨_,false,.slice et⟩,some (.arr e xs)=>match Wp T et with
     |some te=>if te.ty=e/\te.plain/\e.data then k (.tup []) ((id,.arr e (xs.take lo++Xp (hi-lo) e.dflt++xs.drop hi))::st.objs) st.nx else none
     |none=>none
    |_,_=>none
   |_=>none
  | .builtin _,_,_=>match Wae T st o.op with
   |some (c,v)=>bif c then k v st.objs st.nx else none
   |none=>none
  | .value f,args,_=>match ev st f,evs st args with
   |some (.s (.one (.clos g caps))),some xs=>match Wp Γ g with
    |some sg=>match sg.inl with
     |none=>Wns sg st (xs++Whd caps) k
     |some i=>i.fn R {env:=Wcb 0 (xs++Whd caps),objs:=st.objs,nx:=st.nx} k
    |none=>none
   |_,_=>none
  |_,_,_=>none
 |op=>match Wae T st op with
  |some (c,v)=>bif c then k v st.objs st.nx else none
  |none=>none
def rx1{R:Type}(T:Tab)(Γ:Ctx)(A:List (Nat×An))(o:Oper)(st:St)(k:St->Option R):Option R:=
 rxe T Γ A o st λx objs nx=>k (({env:=st.env,objs:=objs,nx:=nx}:St).put o.dst x)
def rxg{R:Type}(T:Tab)(Γ:Ctx)(A:List (Nat×An))(ops:Array Oper)(o:Oper)(st:St)(k:St->Option R):Option R:=
 match o.guard with
 |none=>rx1 T Γ A o st k
 |some (j,want)=>match(ops[j]?).bind (·.dst)with
  |some t=>match Wp st.env t with
   |some (.tup [])=>k (st.put o.dst (.tup []))
   |some x=>match asB x with
    |some b=>bif b
     then(if want then rx1 T Γ A o (st.put (some t) (one .bool true)) k else k ((st.put (some t) (one .bool true)).put o.dst (.tup [])))
     else(if want then k ((st.put (some t) (one .bool false)).put o.dst (.tup []))else rx1 T Γ A o (st.put (some t) (one .bool false)) k)
    |none=>none
   |none=>none
  |none=>none
inductive Ex where
 |normal|exit (id:Nat)|ret
def Wpy{R:Type}(f:St->(Ex->St->Option R)->Option R):Nat->St->(Ex->St->Option R)->Option R
 |0,_,_=>none
 |n+1,st,k=>f st λe af=>match e with
  | .normal=>Wpy f n af k
  | .exit id=>k (.exit id) af
  | .ret=>k .ret af
inductive Ghost where
 |canon (slots:List Nat)
 |adopt (slot:Nat) (e:Ty)
 |freeze (slot:Nat)
 |adoptC (slot off:Nat) (e:Ty)
 |freezeC (slot off:Nat)
 |nest (dst:Nat) (e:Ty)
 |view (dst:Nat)
 |opn (dst:Nat)
 |unfE (slot:Nat)
 |unfS (slot:Nat) (ix:Option Nat)
 |unfC (slot off:Nat) (ix:Option Nat)
 |empt (slot:Nat) (e:Ty)
 |refold (slot:Nat)
 |shut (slot off:Nat)
 |shutD (dst off:Nat)
 |solo (slot:Nat)
 |soloC (slot off:Nat)
def WjR:List Ghost->List (Nat×An)
 | []=>[]
 | .nest d e::l=>(d,.nest e)::WjR l
 | .view d::l=>(d,.view)::WjR l
 | .opn d::l=>(d,.opn)::WjR l
 | .canon _::l=>WjR l
 | .adopt _ _::l=>WjR l
 | .freeze _::l=>WjR l
 | .adoptC _ _ _::l=>WjR l
 | .freezeC _ _::l=>WjR l
 | .unfE _::l=>WjR l
 | .unfS _ _::l=>WjR l
 | .unfC _ _ _::l=>WjR l
 | .refold _::l=>WjR l
 | .shut _ _::l=>WjR l
 | .shutD d off::l=>(d,.shut off)::WjR l
 | .empt _ _::l=>WjR l
 | .solo _::l=>WjR l
 | .soloC _ _::l=>WjR l
def Wbd:Cell->List Nat
 | .own id| .aptr id| .ptr id _| .eptr id _ _| .vw id _ _=>[id]
 | .clos _ caps=>caps
 |_=>[]
def Wfx:AV->List Nat
 | .one c=>Wbd c
 | .agg cs=>cs.flatMap Wbd
def Wa6:AVal->List Nat
 | .s x=>Wfx x
 | .tup xs=>xs.flatMap Wfx
def WlF:Nat->List Nat->List Nat->Waa->List Nat
 |0,_,acc,_=>acc
 |n+1,todo,acc,objs=>match todo with
  | []=>acc
  |i::l=>if Wcv i acc then WlF n l acc objs else
   match Wp objs i with
   |some (.box cs)=>WlF n (l++cs.flatMap Wbd) (acc++ [i]) objs
   |some (.arr _ _)=>WlF n l (acc++ [i]) objs
   |some (.hole _ _ _ p)=>WlF n (l++ [p]) (acc++ [i]) objs
   |_=>WlF n l acc objs
def Wsm(i:Nat):List Nat->Option Nat
 | []=>none
 |j::l=>if Xaw i j then some 0 else(Wsm i l).map (· +1)
def WmX(m:List Nat):List Nat->Option (List Nat)
 | []=>some []
 |i::l=>match Wsm i m,WmX m l with
  |some j,some r=>some (j::r)
  |_,_=>none
def Wdf(m:List Nat):Cell->Cell
 | .own id=>match Wsm id m with|some j=>.own j|none=>.junk
 | .vw id lo hi=>match Wsm id m with|some j=>.vw j lo hi|none=>.junk
 | .aptr id=>match Wsm id m with|some j=>.aptr j|none=>.junk
 | .ptr id off=>match Wsm id m with|some j=>.ptr j off|none=>.junk
 | .eptr id i off=>match Wsm id m with|some j=>.eptr j i off|none=>.junk
 | .clos f caps=>match WmX m caps with|some js=>.clos f js|none=>.junk
 | .val t d=>.val t d
 | .nils=>.nils
 | .rptr t d off=>.rptr t d off
 | .junk=>.junk
def Wwn(m:List Nat):AV->AV
 | .one c=>.one (Wdf m c)
 | .agg cs=>.agg (cs.map (Wdf m))
def Wow(m:List Nat):AVal->AVal
 | .s x=>.s (Wwn m x)
 | .tup xs=>.tup (xs.map (Wwn m))
def WtE(m:List Nat):Ob->Ob
 | .box cs=>.box (cs.map (Wdf m))
 | .arr e xs=>.arr e xs
 | .hole e xs i p=>match Wsm p m with|some j=>.hole e xs i j|none=>.dead
 | .dead=>.dead
def Wf0(env:List (Nat×AVal)):List Nat->List (Nat×AVal)
 | []=>[]
 |i::l=>match Wp env i with
  |some x=>(i,x)::Wf0 env l
  |none=>Wf0 env l
def Wej(m:List Nat)(objs:Waa):Nat->List Nat->Waa
 |_,[]=>[]
 |j,i::l=>match Wp objs i with
  |some ob=>(j,WtE m ob)::Wej m objs (j+1) l
  |none=>Wej m objs (j+1) l
def canon(slots:List Nat)(st:St):St:=
 let env:=Wf0 st.env slots
 let m:=WlF 400 (env.flatMap λp=>Wa6 p.2) [] st.objs
 {env:=env.map λp=>(p.1,Wow m p.2),objs:=Wej m st.objs 0 m,nx:=m.length}
def WkU(st:St)(r i:Nat):Option St:=
 match Wp st.objs r with
 |some (.arr e xs)=>
  let x:=unfold e (xs.getD i e.dflt) (st.nx+1)
  some {env:=st.env,objs:=(r,.hole e xs i st.nx)::(st.nx,.box x.1)::(x.2.1++st.objs),nx:=x.2.2}
 |_=>none
def Wvi(st:St)(r:Nat):Option Nat->Option (Bool×Nat)
 |none=>match Wp st.objs r with
  |some (.arr _ xs)=>some (inb (WU .i64 (Wg xs) 1) (Xb xs),(WU .i64 (Wg xs) 1).toNat)
  |_=>none
 |some s=>match Wp st.objs r,(Wp st.env s).bind asI with
  |some (.arr _ xs),some n=>some (inb n (Xb xs),n.toNat)
  |_,_=>none
def WkN(st:St)(r:Nat)(ix:Option Nat):Option (Bool×St):=
 match Wvi st r ix with
 |some (c,i)=>(WkU st r i).map λaf=>(c,af)
 |none=>none
def Wnr(p:Nat):Waa->Option Nat
 | []=>none
 |(r,.hole _ _ _ p')::l=>if Xaw p p' then some r else Wnr p l
 |(_,.box _)::l=>Wnr p l
 |(_,.arr _ _)::l=>Wnr p l
 |(_,.dead)::l=>Wnr p l
def WlU(st:St)(p:Nat):Option St:=
 match Wnr p st.objs with
 |some r=>match Wp st.objs r,Wp st.objs p with
  |some (.hole e xs i p'),some (.box cs)=>match Waw e cs st.objs with
   |some (d,m,[])=>if Xaw p p'&&Wby (r::p::m)then some {env:=st.env,objs:=(r,.arr e (xs.set i d))::kill st.objs (p::m),nx:=st.nx}else none
   |_=>none
  |_,_=>none
 |none=>none
def Wel(g:Ghost)(st:St):Option (Bool×St):=
 match g with
 | .canon slots=>some (true,canon slots st)
 | .adopt slot e=>match Wp st.env slot with
  |some (.s (.one .nils))=>some (true,st.new (some slot) (.arr e []) (.s (.one (.own st.nx))))
  |some (.s (.one (.own _)))=>some (true,st)
  |_=>none
 | .freeze slot=>match Wp st.env slot with
  |some (.s (.one (.own id)))=>match Wp st.objs id with
   |some (.arr e xs)=>some (true,(st.turn id .dead).put (some slot) (one (.slice e.ro) (WcN e xs)))
   |_=>none
  |_=>none
 | .adoptC slot off e=>match Wp st.env slot with
  |some (.s (.one (.ptr id 0)))=>match Wp st.objs id with
   |some (.box cs)=>match cs[off]? with
    |some .nils=>some (true,{env:=st.env,objs:=(id,.box (cs.set off (.own st.nx)))::(st.nx,.arr e [])::st.objs,nx:=st.nx+1})
    |some (.own _)=>some (true,st)
    |_=>none
   |_=>none
  |_=>none
 | .freezeC slot off=>match Wp st.env slot with
  |some (.s (.one (.ptr id 0)))=>match Wp st.objs id with
   |some (.box cs)=>match cs[off]? with
    |some (.own j)=>match Wp st.objs j with
     |some (.arr e xs)=>some (true,{st with objs:=(id,.box (cs.set off (.val (.slice e.ro) (WcN e xs))))::(j,.dead)::st.objs})
     |_=>none
    |some (.val _ _)=>some (true,st)
    |some .nils=>some (true,st)
    |_=>none
   |_=>none
  |_=>none
 | .nest _ _=>some (true,st)
 | .view _=>some (true,st)
 | .opn _=>some (true,st)
 | .shutD _ _=>some (true,st)
 | .unfE slot=>match Wp st.env slot with
  |some (.s (.one (.eptr r i 0)))=>(WkU st r i).map λaf=>(true,af.put (some slot) (.s (.one (.ptr st.nx 0))))
  |_=>none
 | .unfS slot ix=>match Wp st.env slot with
  |some (.s (.one (.own r)))=>WkN st r ix
  |_=>none
 | .unfC slot off ix=>match Wp st.env slot with
  |some (.s (.one (.ptr id o)))=>match Wp st.objs id with
   |some (.box cs)=>match cs[o+off]? with
    |some (.own r)=>WkN st r ix
    |_=>none
   |_=>none
  |_=>none
 | .refold slot=>match Wp st.env slot with
  |some (.s (.one (.ptr p _)))=>(WlU st p).map λaf=>(true,af)
  |_=>none
 | .shut slot off=>match Wp st.env slot with
  |some (.s (.one (.ptr id o)))=>match Wp st.objs id with
   |some (.box cs)=>match cs[o+off]? with
    |some (.own r)=>match Wp st.objs r with
     |some (.hole _ _ _ p)=>(WlU st p).map λaf=>(true,af)
     |some (.arr _ _)=>some (true,st)
     |_=>none
    |_=>none
   |_=>none
  |_=>none
 | .empt slot e=>match Wp st.env slot with
  |some (.s (.one (.own id)))=>match Wp st.objs id with
   |some (.arr e' [])=>if e.size=e'.size/\e.ro=e'.ro then some (true,st.turn id (.arr e []))else none
   |_=>none
  |_=>none
 | .solo slot=>match Wp st.env slot with
  |some (.s (.one (.vw id lo hi)))=>match Wp st.objs id with
   |some (.arr e xs)=>some (true,(st.turn id .dead).new (some slot) (.arr e ((xs.take hi).drop lo)) (.s (.one (.own st.nx))))
   |_=>none
  |some (.s (.one (.own _)))=>some (true,st)
  |_=>none
 | .soloC slot off=>match Wp st.env slot with
  |some (.s (.one (.ptr id o)))=>match Wp st.objs id with
   |some (.box cs)=>match cs[o+off]? with
    |some (.vw j lo hi)=>match Wp st.objs j with
     |some (.arr e xs)=>some (true,{env:=st.env,objs:=(id,.box (cs.set (o+off) (.own st.nx)))::(st.nx,.arr e ((xs.take hi).drop lo))::(j,.dead)::st.objs,nx:=st.nx+1})
     |_=>none
    |some (.own _)=>some (true,st)
    |_=>none
   |_=>none
  |_=>none
def Ghost.quiet:Ghost->Bool
 | .canon _=>false
 |_=>true
def Wb9:List Ghost->St->Option (Bool×St)
 | [],st=>some (true,st)
 |g::l,st=>match Wel g st with
  |some (c,af)=>match Wb9 l af with
   |some (c',bY)=>some (c&&c',bY)
   |none=>none
  |none=>none
def opG(A:List (Nat×An))(o:Oper)(st:St):Option (Bool×St):=match WwZ A o,o.dst with
 |some .opn,some d=>match Wp st.env d with
  |some (.tup [])=>some (true,st)
  |_=>Wel (.unfE d) st
 |some .view,_=>some (true,st)
 |some (.nest _),_=>some (true,st)
 |none,_=>some (true,st)
 |some .opn,none=>some (true,st)
 |some (.shut off),some d=>Wel (.shut d off) st
 |some (.shut _),none=>some (true,st)
def rxs{R:Type}(T:Tab)(Γ:Ctx)(A:List (Nat×An))(ops:Array Oper):List Oper->St->(St->Option R)->Option R
 | [],st,k=>k st
 |o::l,st,k=>rxg T Γ A ops o st λaf=>match opG A o af with
  |some (c,bY)=>bif c then rxs T Γ A ops l bY k else none
  |none=>none
def WfZ:Code->Option Nat
 | .region id _ _=>some id
 | .seq a b=>match WfZ a with
  |some i=>some i
  |none=>WfZ b
 | .cond _ a b=>match WfZ a with
  |some i=>some i
  |none=>WfZ b
 | .block _ c=>WfZ c
 | .loop c=>(WfZ c).map (· +100000)
 |_=>none
def Wga(c:Code):Nat:=match WfZ c with
 |some i=>i+100000
 |none=>99999
def Wkw{R:Type}(gs:List Ghost)(f:St->(Ex->St->Option R)->Option R)(st:St)(k:Ex->St->Option R):Option R:=
 f st λe af=>match e with
  | .normal=>match Wb9 gs af with
   |some (c,bY)=>bif c then k .normal bY else none
   |none=>none
  | .exit id=>k (.exit id) af
  | .ret=>k .ret af
def Wab:Op->List Operand
 | .move x| .assign x| .box _ x| .load _ x| .nilCheck x| .unOp _ _ x| .convert _ _ x| .fieldAddr _ x _| .field _ x _| .extract x _=>[x]
 | .pick c a b=>[c,a,b]
 | .build _ ps| .buildSlice _ _ ps=>ps.toList.map (·.2)
 | .store _ a v| .binOp _ _ a v _| .makeSlice _ a v| .indexAddr _ a v| .index _ a v=>[a,v]
 | .makeFunc _ first captured=>first.toList++captured.toList
 | .slice _ x l h m=>x::(l.toList++(h.toList++m.toList))
 | .call c=>(match c.callee with| .value f=>[f]|_=>[])++c.args.toList
 |_=>[]
def WaP(o:Oper):Bool:=match o.op with
 | .alloc _| .box _ _| .buildSlice _ _ _| .makeSlice _ _ _| .store _ _ _| .slice _ _ _ _ _=>true
 | .call c=>match c.callee with
  | .builtin .append=>true
  | .builtin .clear=>true
  | .builtin _=>false
  |_=>true
 |_=>false
def Www:Op->Bool
 | .load _ _| .nilCheck _| .binOp _ _ _ _ _| .convert _ _ _| .fieldAddr _ _ _| .indexAddr _ _ _| .call _=>true
 |_=>false
def WeS(st:St):List Operand->List Nat
 | []=>[]
 |x::l=>match ev st x with
  |some v=>Wa6 v++WeS st l
  |none=>WeS st l
def WcL(o:Oper)(st:St):List Nat:=bif Www o.op then WeS st (Wab o.op)else []
def WhL(l:Waa):List Nat:=l.map (·.1)
def Wqb(a b:Waa):List Nat:=WhL (b.take (b.length-a.length))
def Wxp(x:Nat)(l:List Nat):List Nat:=bif Wcv x l then l else x::l
def WnR:List Nat->List Nat->List Nat
 | [],l=>l
 |x::m,l=>WnR m (Wxp x l)
def WmU(o:Oper):List Nat:=(o.after.toList.filter (Region.binds .any)).map (·.on)
def WlE(acc:List (List Nat)):List Nat->List Nat->List Nat
 | [],l=>l
 |j::ds,l=>WlE acc ds (WnR (acc.getD j []) (Wxp j l))
def WcZ:List Oper->List (List Nat)->List (List Nat)
 | [],acc=>acc
 |o::l,acc=>WcZ l (acc++ [WlE acc (WmU o) []])
def WcW(B:List (List Nat))(j i:Nat):Bool:=Wcv j (B.getD i [])
def Wu0:List Oper->Nat->Bool
 | [],_=>true
 |o::l,n=>(WmU o).all (λd=>Xgh d n)&&Wu0 l (n+1)
def WsB:Operand->List Nat
 | .tmp t=>[t]
 |_=>[]
def WdG(ops:Array Oper)(o:Oper):List Nat:=(Wab o.op).flatMap WsB++(match o.guard with
 |some (j,_)=>((ops[j]?).bind (·.dst)).toList
 |none=>[])
def WhJ:List Oper->Nat->List (Nat×Nat)
 | [],_=>[]
 |o::l,i=>match o.dst with
  |some d=>(d,i)::WhJ l (i+1)
  |none=>WhJ l (i+1)
def Wl2(ops:Array Oper)(B:List (List Nat))(D:List (Nat×Nat)):List Oper->Nat->Bool
 | [],_=>true
 |o::l,i=>(WdG ops o).all (λt=>D.all λp=>!Xaw p.1 t||Xaw p.2 i||WcW B p.2 i||WcW B i p.2)&&Wl2 ops B D l (i+1)
def WuL(ops:Array Oper)(B:List (List Nat)):Bool:=
 Wu0 ops.toList 0&&Wby ((WhJ ops.toList 0).map (·.1))&&Wl2 ops B (WhJ ops.toList 0) ops.toList 0
def WdS:List Oper->Nat->List Nat
 | [],_=>[]
 |o::l,i=>bif WaP o then i::WdS l (i+1)else WdS l (i+1)
def WrR(B:List (List Nat)):Nat->List Nat->List (List Nat)
 |0,_=>[[]]
 |n+1,rem=>match rem with
  | []=>[[]]
  |_=>(rem.filter λm=>rem.all λm'=>!WcW B m' m).flatMap λm=>(WrR B n (rem.filter λx=>!Xaw x m)).map (m:: ·)
def Wu8(ops:List Oper)(B:List (List Nat))(done:List Nat)(σ:List Nat):Nat->Option Nat:=λi=>match ops with
 | []=>none
 |o::l=>bif !Wcv i done&&(B.getD i []).all (λj=>Wcv j done)&&(!WaP o||(match σ with|m::_=>Xaw m i| []=>false))then some i else Wu8 l B done σ (i+1)
def WiY(ops:List Oper)(B:List (List Nat)):Nat->List Nat->List Nat->List Nat
 |0,_,_=>[]
 |n+1,done,σ=>match Wu8 ops B done σ 0 with
  |some i=>i::WiY ops B n (i::done) (match σ with|m::σ'=>bif Xaw m i then σ' else σ| []=>[])
  |none=>[]
def WjH(ops:Array Oper):List Nat->List Nat->Bool
 | [],done=>Xaw done.length ops.size
 |i::l,done=>!Wcv i done&&(match ops[i]? with|some o=>(WmU o).all (λd=>Wcv d done)|none=>false)&&WjH ops l (i::done)
def Wgr{α:Type}:List Nat->(List Nat->α)->α
 | [],k=>k []
 |x::l,k=>Wgr l λl'=>k (x::l')
def WpZ{α:Type}:List (List Nat)->(List (List Nat)->α)->α
 | [],k=>k []
 |x::l,k=>Wgr x λx'=>WpZ l λl'=>k (x'::l')
def rdx{R:Type}(T:Tab)(Γ:Ctx)(A:List (Nat×An))(ops:Array Oper)(B:List (List Nat)):List Nat->List (Nat×List Nat)->List (Nat×List Nat)->St->(St->Option R)->Option R
 | [],_,_,st,k=>k st
 |i::l,fl,mu,st,k=>match ops[i]? with
  |some o=>bif WaP o
   then rxg T Γ A ops o st λaf=>Wgr (Wqb st.objs af.objs) λids=>
    bif fl.all (λp=>WcW B p.1 i||Wgg p.2 ids)then rdx T Γ A ops B l fl ((i,ids)::mu) af k else none
   else Wgr (WcL o st) λids=>
    bif mu.all (λp=>WcW B p.1 i||Wgg ids p.2)then rxg T Γ A ops o st λaf=>rdx T Γ A ops B l ((i,ids)::fl) mu af k else none
  |none=>none
def Wk{α β:Type}(x:α)(f:α->β):β:=f x
open Classical in
noncomputable def Wb8{α:Type}(a b:Option α):Option α:=if a=b then a else none
noncomputable def Wv4{R:Type}(T:Tab)(Γ:Ctx)(A:List (Nat×An))(ops:Array Oper)(B:List (List Nat))(st:St)(k:St->Option R):List (List Nat)->Option R
 | []=>none
 |σ::l=>
  let a:=Wgr (WiY ops.toList B ops.size [] σ) λL=>bif WjH ops L []&&eqN (L.filter λi=>Wcv i σ) σ then rdx T Γ A ops B L [] [] st k else none
  match l with
  | []=>a
  |_=>Wb8 a (Wv4 T Γ A ops B st k l)
noncomputable def Wl6{R:Type}(T:Tab)(Γ:Ctx)(A:List (Nat×An))(ops:Array Oper)(st:St)(k:St->Option R):Option R:=
 WpZ (WcZ ops.toList []) λB=>bif WuL ops B then Wv4 T Γ A ops B st k (WrR B ops.size (WdS ops.toList 0))else none
noncomputable def sx{R:Type}(T:Tab)(Γ:Ctx)(ann:Nat->List Ghost)(N:Nat):Code->St->(Ex->St->Option R)->Option R
 | .skip,st,k=>k .normal st
 | .region id ops draw,st,k=>
  bif draw then Wl6 T Γ (WjR (ann id)) ops st λaf=>match Wb9 (ann id) af with
   |some (c,bY)=>bif c then k .normal bY else none
   |none=>none
  else rxs T Γ (WjR (ann id)) ops ops.toList st λaf=>match Wb9 (ann id) af with
   |some (c,bY)=>bif c then k .normal bY else none
   |none=>none
 | .seq a b,st,k=>sx T Γ ann N a st λe af=>match e with
  | .normal=>sx T Γ ann N b af k
  | .exit id=>k (.exit id) af
  | .ret=>k .ret af
 | .cond c x y,st,k=>match(ev st c).bind asB with
  |some b=>bif b then sx T Γ ann N x st k else sx T Γ ann N y st k
  |none=>none
 | .block id c,st,k=>sx T Γ ann N c st λe af=>match e with
  | .exit cl=>if cl=id then k .normal af else k (.exit cl) af
  | .normal=>k .normal af
  | .ret=>k .ret af
 | .loop c,st,k=>match Wb9 (ann (Wga c)) st with
  |some (b,af)=>bif b then Wpy (Wkw (ann (Wga c)) λst k=>sx T Γ ann N c st k) N af k else none
  |none=>none
 | .exit id,st,k=>k (.exit id) st
 | .ret,st,k=>k .ret st
 |_,_,_=>none
def Wsa:List AVal->List Nat
 | []=>[]
 | .s (.one (.ptr id 0))::l=>id::Wsa l
 |_::l=>Wsa l
def WP:(ps:List PTy)->WfJ ps->Waa->Nat->List AVal×Waa×Nat
 | [],_,objs,nx=>([],objs,nx)
 | .v t agg::ps,d,objs,nx=>
  let x:=unfold t d.1 nx
  let y:=WP ps d.2 (x.2.1++objs) x.2.2
  (.s (Wxj agg x.1)::y.1,y.2)
 | .box t::ps,d,objs,nx=>
  let x:=unfold t d.1 (nx+1)
  let y:=WP ps d.2 ((nx,.box x.1)::(x.2.1++objs)) x.2.2
  (.s (.one (.ptr nx 0))::y.1,y.2)
 | .mut e::ps,d,objs,nx=>
  let y:=WP ps d.2 ((nx,.arr e d.1)::objs) (nx+1)
  (.s (.one (.own nx))::y.1,y.2)
 | .clos g n::ps,d,objs,nx=>
  let y:=WP ps d objs nx
  (.s (.one (.clos g (Wsa (y.1.take n))))::y.1.drop n,y.2)
 | .kv t agg::ps,d,objs,nx=>
  let x:=unfold t d.1 nx
  let y:=WP ps d.2 (x.2.1++objs) x.2.2
  (.s (Wxj agg x.1)::y.1,y.2)
 | .rp t::ps,d,objs,nx=>
  let y:=WP ps d.2 objs nx
  (.s (.one (.rptr t d.1 0))::y.1,y.2)
 | .vj _::ps,d,objs,nx=>
  let y:=WP ps d objs nx
  (.tup []::y.1,y.2)
 | .boxal t lf::ps,d,objs,nx=>
  let x:=unfold t d.1 (nx+1)
  let y:=WP ps d.2.2 ((nx,.box x.1)::(x.2.1++objs)) x.2.2
  (.s (.one (.ptr nx 0)):: .s (.one (.eptr (nx+1+lf) d.2.1 0))::y.1,y.2)
def Wds(T:Tab)(st:St):List ResultVar->Option (List AVal)
 | []=>some []
 | .tmp t::rs=>match Wp st.env t,Wds T st rs with
  |some x,some xs=>some (x::xs)
  |_,_=>none
 | .cell a t::rs=>match(Wp st.env a).bind (Wh4 T st t),Wds T st rs with
  |some x,some xs=>some (x::xs)
  |_,_=>none
structure Outs(α:Type) where
 d:α
 moved:List Nat
 lent:List Nat
def Wa9:(rs:List PTy)->List AVal->Waa->Option (Outs (Whr rs))
 | [],xs,_=>match xs with
  | []=>some ⟨(),[],[]⟩
  |_=>none
 | .v t agg::rs,xs,objs=>match xs with
  |x::xs=>match(cellsOf agg x).bind λcs=>Waw t cs objs,Wa9 rs xs objs with
   |some (d,m,l),some A=>some ⟨(d,A.d),m++A.moved,l++A.lent⟩
   |_,_=>none
  |_=>none
 | .box t::rs,xs,objs=>match xs with
  | .s (.one (.ptr id 0))::xs=>match Wp objs id with
   |some (.box cs)=>match Waw t cs objs,Wa9 rs xs objs with
    |some (d,m,l),some A=>some ⟨(d,A.d),id::(m++A.moved),l++A.lent⟩
    |_,_=>none
   |_=>none
  |_=>none
 | .mut _::_,_,_=>none
 | .clos _ _::_,_,_=>none
 | .kv _ _::_,_,_=>none
 | .rp _::_,_,_=>none
 | .vj t::rs,xs,objs=>match xs with
  | .s (.agg cs)::xs=>if cs.length=t.size+1 then(match Waw t (cs.take t.size) objs,Wa9 rs xs objs with
   |some (d,m,l),some A=>some ⟨(d,A.d),m++A.moved,l++A.lent⟩
   |_,_=>none)else none
  |_=>none
 | .boxal _ _::_,_,_=>none
structure OutK(α:Type) where
 d:α
 kept:List Nat
 moved:List Nat
 lent:List Nat
def WB:List PTy->Nat->Nat->St->List AVal
 | [],_,_,_=>[]
 |_::ps,i,k+1,st=>WB ps i k st
 | .v _ _::ps,i,0,st=>.tup []::WB ps (i+1) 0 st
 | .box _::ps,i,0,st=>(Wp st.env i).getD (.tup [])::WB ps (i+1) 0 st
 | .mut _::ps,i,0,st=>(Wp st.env i).getD (.tup [])::WB ps (i+1) 0 st
 | .clos _ n::ps,i,0,st=>(Wp st.env i).getD (.tup [])::WB ps (i+1) n st
 | .kv _ _::ps,i,0,st=>(Wp st.env i).getD (.tup [])::WB ps (i+1) 0 st
 | .rp _::ps,i,0,st=>.tup []::WB ps (i+1) 0 st
 | .vj _::ps,i,0,st=>.tup []::WB ps (i+1) 0 st
 | .boxal _ _::ps,i,0,st=>(Wp st.env i).getD (.tup []):: .tup []::WB ps (i+2) 0 st
def W2:(ps:List PTy)->List AVal->Waa->Option (OutK (Wgh ps))
 | [],_,_=>some ⟨(),[],[],[]⟩
 | .v _ _::ps,xs,objs=>(W2 ps xs.tail objs).map λA=>⟨A.d,A.kept,A.moved,A.lent⟩
 | .box t::ps,xs,objs=>match xs with
  | .s (.one (.ptr id 0))::xs=>match Wp objs id with
   |some (.box cs)=>match Waw t cs objs,W2 ps xs objs with
    |some (d,m,l),some A=>some ⟨(d,A.d),id::A.kept,m++A.moved,l++A.lent⟩
    |_,_=>none
   |_=>none
  |_=>none
 | .mut e::ps,xs,objs=>match xs with
  | .s (.one (.own id))::xs=>match Wp objs id with
   |some (.arr e' ys)=>match WgW e' e ys,W2 ps xs objs with
    |some d,some A=>some ⟨(d,A.d),id::A.kept,A.moved,A.lent⟩
    |_,_=>none
   |_=>none
  |_=>none
 | .clos g n::ps,xs,objs=>match xs with
  | .s (.one (.clos g' caps))::xs=>if g'=g/\caps.length=n then(W2 ps (Whd caps++xs) objs).map λA=>⟨A.d,A.kept,A.moved,A.lent⟩else none
  |_=>none
 | .kv t agg::ps,xs,objs=>match xs with
  |x::xs=>match(cellsOf agg x).bind λcs=>Waw t cs objs,W2 ps xs objs with
   |some (d,m,l),some A=>if WnW objs t m x then some ⟨(d,A.d),m++A.kept,A.moved,l++A.lent⟩else none
   |_,_=>none
  |_=>none
 | .rp _::ps,xs,objs=>(W2 ps xs.tail objs).map λA=>⟨A.d,A.kept,A.moved,A.lent⟩
 | .vj _::_,_,_=>none
 | .boxal t _::ps,xs,objs=>match xs with
  | .s (.one (.ptr id 0))::_::xs=>match Wp objs id with
   |some (.box cs)=>match Waw t cs objs,W2 ps xs objs with
    |some (d,m,l),some A=>some ⟨(d,A.d),id::A.kept,m++A.moved,l++A.lent⟩
    |_,_=>none
   |_=>none
  |_=>none
def WxT{R:Type}(T:Tab)(sg:Sig)(rv:List ResultVar)(k:Wgh sg.ps×Whr sg.rs->Option R)(e:Ex)(st:St):Option R:=
 match e with
 | .exit _=>none
 |_=>match Wds T st rv with
  |some xs=>match Wa9 sg.rs xs st.objs,W2 sg.ps (WB sg.ps 0 0 st) st.objs with
   |some A,some B=>if Wby (B.kept++(B.moved++A.moved))&&Wgg (A.lent++B.lent) (B.kept++(B.moved++A.moved))then k (B.d,A.d)else none
   |_,_=>none
  |none=>none
noncomputable def den{R:Type}(T:Tab)(Γ:Ctx)(ann:Nat->List Ghost)(N:Nat)(sg:Sig)(f:Func)(d:WfJ sg.ps)(k:Wgh sg.ps×Whr sg.rs->Option R):Option R:=
 let x:=WP sg.ps d [] 0
 match f.body,Wb9 (ann 1000000) {env:=Wcb 0 x.1,objs:=x.2.1,nx:=x.2.2}with
 |some c,some (b,st)=>bif b then sx T Γ ann N c st (WxT T sg f.results.toList k)else none
 |_,_=>none
def Wey:List PTy->Nat->Nat->List Nat
 | [],_,_=>[]
 |_::ps,i,k+1=>Wey ps i k
 | .v _ _::ps,i,0=>Wey ps (i+1) 0
 | .box _::ps,i,0=>i::Wey ps (i+1) 0
 | .mut _::ps,i,0=>i::Wey ps (i+1) 0
 | .clos _ n::ps,i,0=>i::Wey ps (i+1) n
 | .kv _ _::ps,i,0=>i::Wey ps (i+1) 0
 | .rp _::ps,i,0=>Wey ps (i+1) 0
 | .vj _::ps,i,0=>Wey ps (i+1) 0
 | .boxal _ _::ps,i,0=>i::Wey ps (i+2) 0
def WbR:List PTy->Nat
 | []=>0
 | .v _ _::ps=>WbR ps+1
 | .box _::ps=>WbR ps+1
 | .mut _::ps=>WbR ps+1
 | .clos _ _::ps=>WbR ps+1
 | .kv _ _::ps=>WbR ps+1
 | .rp _::ps=>WbR ps+1
 | .vj _::ps=>WbR ps+1
 | .boxal _ _::ps=>WbR ps+2
def WkP:List PTy->Nat->Bool
 |_,0=>true
 | .box _::ps,n+1=>WkP ps n
 |_,_+1=>false
def Wct:List PTy->Bool
 | []=>true
 | .clos _ n::ps=>WkP ps n&&Wct ps
 | .v _ _::ps=>Wct ps
 | .box _::ps=>Wct ps
 | .mut _::ps=>Wct ps
 | .kv _ _::ps=>Wct ps
 | .rp _::ps=>Wct ps
 | .vj _::ps=>Wct ps
 | .boxal _ _::ps=>Wct ps
end Go.Sx
namespace Go.Sx
set_option linter.unusedVariables false
theorem Wd5{α:Type}{R:α->List Value->Prop}{n:Nat}(h:∀x c,R x c->c.length=n):
  ∀(l:List α) (cs:List Value),Wd2 R l cs->cs.length=l.length*n
 | [],cs,e=>by grind [Wd2]
 |x::l,cs,e=>by
  obtain⟨c1,c2,rfl,h1,h2⟩:=e;have:=Wd5 h l c2 h2;rw[Xaa,h _ _ h1,this,Xr,Xbs,Xcw]
theorem WnQ{α:Type}{R R':α->List Value->Prop}(h:∀x c,R x c->R' x c):
  ∀(l:List α) (cs:List Value),Wd2 R l cs->Wd2 R' l cs
 | [],_,e=>e
 |_::l,_,⟨c1,c2,he,h1,h2⟩=>⟨c1,c2,he,h _ _ h1,WnQ h l c2 h2⟩
theorem Wd3{α:Type}{R:α->List Value->Prop}:∀(l l':List α) (cs cR:List Value),Wd2 R l cs->Wd2 R l' cR->Wd2 R (l++l') (cs++cR)
 | [],_,cs,cR,e,e'=>by grind [Wd2]
 |x::l,l',_,cR,⟨c1,c2,he,h1,h2⟩,e'=>⟨c1,c2++cR,by simp[he],h1,Wd3 l l' c2 cR h2 e'⟩
theorem WlW{α:Type}{R:α->List Value->Prop}{n:Nat}(h:∀x c,R x c->c.length=n):
  ∀(l:List α) (cs:List Value) (i:Nat) (x:α),Wd2 R l cs->l[i]?=some x->R x ((cs.drop (i*n)).take n)
 | [],_,_,_,_,hi=>by simp at hi
 |y::l,cs,0,x,⟨c1,c2,he,h1,_⟩,hi=>by
  grind
 |y::l,cs,i+1,x,⟨c1,c2,he,h1,h2⟩,hi=>by
  have hl:=h _ _ h1;have:=WlW h l c2 i x h2 (by simp_all);rw[he,Xbs,Xcw,←Xdq,List.drop_left' hl];exact this
theorem We4{α:Type}{R:α->List Value->Prop}{n:Nat}(h:∀x c,R x c->c.length=n):
  ∀(l:List α) (cs:List Value) (m:Nat),Wd2 R l cs->Wd2 R (l.take m) (cs.take (m*n))
 | [],cs,m,e=>by grind [Wd2]
 |x::l,cs,0,_=>by simp[Wd2]
 |x::l,cs,m+1,⟨c1,c2,he,h1,h2⟩=>by
  have hl:=h _ _ h1;refine⟨c1,c2.take (m*n),?_,h1,We4 h l c2 m h2⟩;rw[he,Xbs,Xcw,←hl,Xez]
theorem We7{α:Type}{R:α->List Value->Prop}{n:Nat}(h:∀x c,R x c->c.length=n):
  ∀(l:List α) (cs:List Value) (m:Nat),Wd2 R l cs->Wd2 R (l.drop m) (cs.drop (m*n))
 | [],cs,m,e=>by grind [Wd2]
 |x::l,cs,0,e=>by grind
 |x::l,cs,m+1,⟨c1,c2,he,h1,h2⟩=>by
  have hl:=h _ _ h1;have:=We7 h l c2 m h2
  grind [Wd2,Xbs,Xcw,Xdq,Xgk]
theorem Wmq{α:Type}{R:α->List Value->Prop}{n:Nat}(h:∀x c,R x c->c.length=n):
  ∀(l:List α) (cs:List Value) (i:Nat) (x:α) (ds:List Value),Wd2 R l cs->i<l.length->R x ds->
   Wd2 R (l.set i x) (cs.take (i*n)++ds++cs.drop (i*n+n))
 | [],_,_,_,_,_,hi,_=>by simp at hi
 |y::l,cs,0,x,ds,⟨c1,c2,he,h1,h2⟩,_,hx=>by
  have hl:=h _ _ h1;refine⟨ds,c2,?_,hx,h2⟩;simp_all
 |y::l,cs,i+1,x,ds,⟨c1,c2,he,h1,h2⟩,hi,hx=>by
  have hl:=h _ _ h1;refine⟨c1,_,?_,h1,Wmq h l c2 i x ds h2 (by simp_all) hx⟩;have e1:(i+1)*n=c1.length+i*n:=by rw[Xbs,hl,Xcw]
  rw[he,e1,Xez,Xba,←Xdq,Xgk];simp
theorem W6{G:GH}:∀(t:Ty) (d:t.den) (cs:List Value),Enc G t d cs->cs.length=t.size
 | .int _,_,_,h=>by grind [Enc,Ty.size]
 | .bool,_,_,h=>by grind [Enc,Ty.size]
 | .str,_,_,h=>by grind [Enc,Ty.size]
 | .slice _,_,_,h=>by obtain⟨v,rfl,_⟩:=h;simp[Ty.size]
 | .own _,_,_,h=>h.elim
 | .prod a b,d,_,h=>by
  obtain⟨c1,c2,rfl,h1,h2⟩:=h;rw[Xaa,W6 a _ _ h1,W6 b _ _ h2,Ty.size]
def GLe(G G':GH):Prop:=∀b o v,G b o=some v->G' b o=some v
theorem WjO{G G':GH}(h:GLe G G'){b o:Nat}{cs:List Value}(hs:WfD G b o cs):WfD G' b o cs:=λj v hj=>h _ _ _ (hs j v hj)
theorem Wba{G G':GH}(h:GLe G G'):∀(t:Ty) (d:t.den) (cs:List Value),Enc G t d cs->Enc G' t d cs
 | .int _,_,_,e=>e
 | .bool,_,_,e=>e
 | .str,_,_,e=>e
 | .slice e,d,cs,hh=>by
  obtain⟨v,hv,hr⟩:=hh;refine⟨v,hv,?_⟩;rcases hr with hr|⟨b,off,cap,cR,h1,h2,h3,h4,h5⟩|hr
  .exact .inl hr
  rotate_left
  .exact .inr (.inr hr)
  .exact .inr<| .inl ⟨b,off,cap,cR,h1,h2,h3,WnQ (λx c hx=>Wba h e x c hx) _ _ h4,WjO h h5⟩
 | .own _,_,_,e=>e
 | .prod a b,d,_,⟨c1,c2,he,h1,h2⟩=>⟨c1,c2,he,Wba h a _ _ h1,Wba h b _ _ h2⟩
section
variable{G:GH}{ν:Nat->Nu}{nx:Nat}
theorem CellsRel.nil:CellsRel G ν nx [] []:=⟨rfl,λj c v h=>by simp at h⟩
theorem CellsRel.append{cs cR:List Cell}{vs au:List Value}(h:CellsRel G ν nx cs vs)(h':CellsRel G ν nx cR au):
  CellsRel G ν nx (cs++cR) (vs++au):=by
 refine⟨by simp[h.1,h'.1],λj c v hc hv=>?_⟩;rw[Xas]at hc hv;rw[h.1]at hv;split at hc
 .rename_i ac;rw[Wf ac]at hv;exact h.2 j c v hc hv
 .rename_i ac;rw[Wc ac]at hv;exact h'.2 _ c v hc hv
theorem CellsRel.take{cs:List Cell}{vs:List Value}(h:CellsRel G ν nx cs vs)(n:Nat):CellsRel G ν nx (cs.take n) (vs.take n):=by
 refine⟨by simp[h.1],λj c v hc hv=>?_⟩;rw[Xbp]at hc hv;split at hc
 .rename_i ac;rw[Wf ac]at hv;exact h.2 j c v hc hv
 grind
theorem CellsRel.drop{cs:List Cell}{vs:List Value}(h:CellsRel G ν nx cs vs)(n:Nat):CellsRel G ν nx (cs.drop n) (vs.drop n):=by
 refine⟨by simp[h.1],λj c v hc hv=>?_⟩;rw[Xbo]at hc hv;exact h.2 _ c v hc hv
theorem CellsRel.one{c:Cell}{v:Value}(h:CellRel G ν nx c v)(hv1:v.oneCell'=true):CellsRel G ν nx [c] [v]:=by
 refine⟨rfl,λj c' v' hc hv=>?_⟩
 grind
theorem WaO:∀(t:Ty) (d:t.den) (vs:List Value),Enc G t d vs->CellsRel G ν nx (split t d) vs
 | .int k,d,vs,h=>by have h':=h;simp only[Enc]at h';subst h';exact CellsRel.one h rfl
 | .bool,d,vs,h=>by have h':=h;simp only[Enc]at h';subst h';exact CellsRel.one h rfl
 | .str,d,vs,h=>by have h':=h;simp only[Enc]at h';subst h';exact CellsRel.one h rfl
 | .slice e,d,vs,h=>by
  obtain⟨v,rfl,hr⟩:=h;refine CellsRel.one ⟨v,rfl,hr⟩ ?_;rcases hr with⟨rfl,_⟩|⟨_,_,_,_,rfl,_⟩|⟨_,_,rfl,_⟩<;>rfl
 | .own _,_,_,h=>h.elim
 | .prod a b,d,vs,⟨c1,c2,he,h1,h2⟩=>by
  subst he;exact(WaO a _ _ h1).append (WaO b _ _ h2)
end
def Wsl(nx:Nat)(ν ν':Nat->Nu):Prop:=∀id,id<nx->ν' id=ν id
section
variable{G G':GH}{ν ν':Nat->Nu}{nx am:Nat}
theorem CellRel.mono(hg:GLe G G')(hn:Wsl nx ν ν')(hx:nx<=am):
  ∀(c:Cell) (v:Value),CellRel G ν nx c v->CellRel G' ν' am c v
 | .val t d,v,h=>Wba hg t d _ h
 | .nils,_,h=>h
 | .own id,v,⟨h1,h2⟩=>⟨Xbg h1 hx,by rw[hn id h1];exact h2⟩
 | .vw id lo hi,v,⟨h1,h2⟩=>⟨Xbg h1 hx,by rw[hn id h1];exact h2⟩
 | .aptr id,v,⟨h1,h2⟩=>⟨Xbg h1 hx,by rw[hn id h1];exact h2⟩
 | .ptr id off,v,⟨h1,h2⟩=>⟨Xbg h1 hx,by rw[hn id h1];exact h2⟩
 | .eptr id i off,v,⟨h1,h2⟩=>⟨Xbg h1 hx,by rw[hn id h1];exact h2⟩
 | .rptr t d off,v,⟨b,o,cs,h1,h2,h3⟩=>⟨b,o,cs,h1,Wba hg t d _ h2,WjO hg h3⟩
 | .clos f caps,v,⟨vs,h1,h2,h3⟩=>⟨vs,h1,h2,λj id u hc hv=>by
   obtain⟨h4,h6,h5⟩:=h3 j id u hc hv;exact⟨Xbg h4 hx,h6,by rw[hn id h4];exact h5⟩⟩
 | .junk,_,_=>trivial
theorem CellsRel.mono(hg:GLe G G')(hn:Wsl nx ν ν')(hx:nx<=am){cs:List Cell}{vs:List Value}(h:CellsRel G ν nx cs vs):CellsRel G' ν' am cs vs:=
 ⟨h.1,λj c v hc hv=>⟨CellRel.mono hg hn hx c v (h.2 j c v hc hv).1,(h.2 j c v hc hv).2⟩⟩
theorem AvRel.mono(hg:GLe G G')(hn:Wsl nx ν ν')(hx:nx<=am):∀(x:AV) (v:Value),AvRel G ν nx x v->AvRel G' ν' am x v
 | .one c,v,h=>⟨CellRel.mono hg hn hx c v h.1,h.2⟩
 | .agg cs,v,⟨vs,he,h⟩=>⟨vs,he,h.mono hg hn hx⟩
theorem AValRel.mono(hg:GLe G G')(hn:Wsl nx ν ν')(hx:nx<=am):∀(x:AVal) (v:Value),AValRel G ν nx x v->AValRel G' ν' am x v
 | .s x,v,h=>AvRel.mono hg hn hx x v h
 | .tup xs,v,⟨vs,he,hl,h⟩=>⟨vs,he,hl,λj x u kI hu=>AvRel.mono hg hn hx x u (h j x u kI hu)⟩
end
theorem WiW(nu:Nu):nu.hdr.oneCell'=true:=by unfold Nu.hdr;split<;>rfl
theorem WpF(nu:Nu)(lo hi:Nat):(nu.vhdr lo hi).oneCell'=true:=by unfold Nu.vhdr;split<;>rfl
section
variable{α:Type}{R R':α->List Value->List Pc->Prop}
theorem Wa5{n:Nat}(h:∀x c p,R x c p->c.length=n):∀(l:List α) (cs:List Value) (ps:List Pc),Wfa R l cs ps->cs.length=l.length*n
 | [],cs,ps,e=>by simp[e.1]
 |x::l,cs,ps,⟨c1,c2,p1,p2,he,hp,h1,h2⟩=>by
  rw[he,Xaa,h _ _ _ h1,Wa5 h l c2 p2 h2,Xr,Xbs,Xcw]
theorem WbZ{Q:Pc->Prop}(h:∀x c p,(∀q∈p,Q q)->R x c p->R' x c p):∀(l:List α) (cs:List Value) (ps:List Pc),(∀q∈ps,Q q)->Wfa R l cs ps->Wfa R' l cs ps
 | [],_,_,_,e=>e
 |_::l,_,_,hq,⟨c1,c2,p1,p2,he,hp,h1,h2⟩=>by
  subst hp;exact⟨c1,c2,p1,p2,he,rfl,h _ _ _ (λq hm=>hq q (Xn _ hm)) h1,WbZ h l c2 p2 (λq hm=>hq q (Xg _ hm)) h2⟩
theorem Weg:∀(l l':List α) (cs cR:List Value) (ps pJ:List Pc),Wfa R l cs ps->Wfa R l' cR pJ->Wfa R (l++l') (cs++cR) (ps++pJ)
 | [],_,cs,cR,ps,pJ,e,e'=>by obtain⟨rfl,rfl⟩:=e;exact e'
 |x::l,l',_,cR,_,pJ,⟨c1,c2,p1,p2,he,hp,h1,h2⟩,e'=>⟨c1,c2++cR,p1,p2++pJ,by simp[he],by simp[hp],h1,Weg l l' c2 cR p2 pJ h2 e'⟩
theorem Wku:∀(l l':List α) (cs:List Value) (ps:List Pc),Wfa R (l++l') cs ps->∃c1 c2 p1 p2,cs=c1++c2/\ps=p1++p2/\Wfa R l c1 p1/\Wfa R l' c2 p2
 | [],l',cs,ps,e=>⟨[],cs,[],ps,rfl,rfl,⟨rfl,rfl⟩,e⟩
 |x::l,l',cs,ps,⟨c1,c2,p1,p2,he,hp,h1,h2⟩=>by
  obtain⟨d1,d2,q1,q2,g1,g2,g3,g4⟩:=Wku l l' c2 p2 h2;exact⟨c1++d1,d2,p1++q1,q2,by grind,by grind,⟨c1,d1,p1,q1,rfl,rfl,h1,g3⟩,g4⟩
theorem Wqj{x:α}{cs:List Value}{ps:List Pc}:Wfa R [x] cs ps↔R x cs ps:=by
 constructor
 .rintro⟨c1,c2,p1,p2,he,hp,h1,h2,h3⟩;simp_all
 .intro h;exact⟨cs,[],ps,[],by simp,by simp,h,rfl,rfl⟩
theorem WeG(l:List α)(cs:List Value)(ps:List Pc)(n:Nat)(h:Wfa R l cs ps):∃c1 c2 p1 p2,cs=c1++c2/\ps=p1++p2/\Wfa R (l.take n) c1 p1/\Wfa R (l.drop n) c2 p2:=
 Wku _ _ _ _ (by simp_all)
theorem Wpj{l:List α}{cs:List Value}{ps:List Pc}{i:Nat}(h:Wfa R l cs ps)(d:α)(hi:i<l.length):
  ∃c1 c c2 p1 p p2,cs=c1++(c++c2)/\ps=p1++(p++p2)/\Wfa R (l.take i) c1 p1/\R (l.getD i d) c p/\Wfa R (l.drop (i+1)) c2 p2:=by
 obtain⟨c1,c',p1,p',h1,h2,h3,h4⟩:=WeG l cs ps i h;have e:l.drop i=l.getD i d::l.drop (i+1):=by
  simp_all
 rw[e]at h4;obtain⟨c,c2,p,p2,h5,h6,h7,h8⟩:=h4
 grind
theorem Wp9{l:List α}{c1 c c2:List Value}{p1 p p2:List Pc}{i:Nat}{x:α}(hi:i<l.length)(h1:Wfa R (l.take i) c1 p1)(h:R x c p)(h2:Wfa R (l.drop (i+1)) c2 p2):
  Wfa R (l.set i x) (c1++(c++c2)) (p1++(p++p2)):=by
 have e:l.set i x=l.take i++(x::l.drop (i+1)):=by
  rw[Xeh,Wf hi]
 rw[e];exact Weg _ _ _ _ _ _ h1 ⟨c,c2,p,p2,rfl,rfl,h,h2⟩
end
section
variable{G G':GH}{w w':World}
theorem WH:∀(t:Ty) (d:t.den) (vs:List Value) (ns:List Pc),Wy G w t d vs ns->vs.length=t.size
 | .own e,xs,vs,ns,⟨p,_,h,_⟩=>by rw[h];rfl
 | .prod a b,d,vs,ns,⟨v1,v2,n1,n2,h1,h2,h3,h4⟩=>by
  rw[h1,Xaa,WH a _ _ _ h3,WH b _ _ _ h4];rfl
 | .int k,d,vs,ns,h=>W6 _ _ _ h.2
 | .bool,d,vs,ns,h=>W6 _ _ _ h.2
 | .str,d,vs,ns,h=>W6 _ _ _ h.2
 | .slice e,d,vs,ns,h=>W6 _ _ _ h.2
theorem W5:∀(t:Ty) (d:t.den) (vs:List Value) (ns:List Pc),Wy G w t d vs ns->ns.length=t.owns
 | .own e,xs,vs,ns,⟨nu,h,_⟩=>by rw[h];rfl
 | .prod a b,d,vs,ns,⟨v1,v2,n1,n2,h1,h2,h3,h4⟩=>by rw[h2,Xaa,W5 a _ _ _ h3,W5 b _ _ _ h4];rfl
 | .int k,d,vs,ns,h=>by rw[h.1];rfl
 | .bool,d,vs,ns,h=>by rw[h.1];rfl
 | .str,d,vs,ns,h=>by rw[h.1];rfl
 | .slice e,d,vs,ns,h=>by rw[h.1];rfl
theorem Wa8:∀(t:Ty) (d:t.den) (vs:List Value) (ns:List Pc),t.data=true->(Wy G w t d vs ns↔Enc G t d vs/\ns= [])
 | .own e,xs,vs,ns,h=>by simp[Ty.data]at h
 | .prod a b,d,vs,ns,h=>by
  simp only[Ty.data,Xi]at h;constructor
  .rintro⟨v1,v2,n1,n2,h1,h2,h3,h4⟩;obtain⟨e1,e2⟩:=(Wa8 a _ _ _ h.1).1 h3;obtain⟨e3,e4⟩:=(Wa8 b _ _ _ h.2).1 h4;exact⟨⟨v1,v2,h1,e1,e3⟩,by simp_all⟩
  .rintro⟨⟨v1,v2,h1,h2,h3⟩,h4⟩;exact⟨v1,v2,[],[],h1,h4,(Wa8 a _ _ _ h.1).2 ⟨h2,rfl⟩,(Wa8 b _ _ _ h.2).2 ⟨h3,rfl⟩⟩
 | .int k,d,vs,ns,_=>⟨λh=>⟨h.2,h.1⟩,λh=>⟨h.2,h.1⟩⟩
 | .bool,d,vs,ns,_=>⟨λh=>⟨h.2,h.1⟩,λh=>⟨h.2,h.1⟩⟩
 | .str,d,vs,ns,_=>⟨λh=>⟨h.2,h.1⟩,λh=>⟨h.2,h.1⟩⟩
 | .slice e,d,vs,ns,_=>⟨λh=>⟨h.2,h.1⟩,λh=>⟨h.2,h.1⟩⟩
theorem Wcr{e:Ty}(he:e.data=true):∀(xs:List e.den) (cs:List Value) (ps:List Pc),Wfa (Wy G w e) xs cs ps↔Wd2 (Enc G e) xs cs/\ps= []
 | [],cs,ps=>Iff.rfl
 |x::xs,cs,ps=>by
  constructor
  .rintro⟨c1,c2,p1,p2,h1,h2,h3,h4⟩;obtain⟨e1,e2⟩:=(Wa8 e _ _ _ he).1 h3;obtain⟨e3,e4⟩:=(Wcr he xs _ _).1 h4;exact⟨⟨c1,c2,h1,e1,e3⟩,by simp_all⟩
  .rintro⟨⟨c1,c2,h1,h2,h3⟩,h4⟩;exact⟨c1,c2,[],[],h1,h4,(Wa8 e _ _ _ he).2 ⟨h2,rfl⟩,(Wcr he xs _ _).2 ⟨h3,rfl⟩⟩
structure Same(S:CS)(w w':World):Prop where
 row:∀b n,Row w b n->Row w' b n
 cell:∀b o,S b o->w'.cell? ⟨b,o,none⟩=w.cell? ⟨b,o,none⟩
theorem Same.mono{S S':CS}(h:Same S w w')(hl:CS.le S' S):Same S' w w':=⟨h.row,λb o hs=>h.cell b o (hl b o hs)⟩
theorem Mem.same{S:CS}(h:Same S w w'){b o n:Nat}{cs:List Value}(hm:Mem w b o cs)(hn:cs.length<=n)(hs:CS.le (rng b o n) S):Mem w' b o cs:=λj v hj=>by
 have ac:j<cs.length:=(Xab.1 hj).1;rw[h.cell b (o+j) (hs _ _ ⟨rfl,by omega,by omega⟩)];exact hm j v hj
theorem Wik{α:Type}{R R':α->List Value->List Pc->Prop}{n:Nat}{nu:Nu}{xs:List α}{S S':CS}(hR:∀x c p,R x c p->c.length=n)(h:Same S w w')(bg:CS.le S S')
  (hm:∀x c p,(∀q∈p,CS.le q.fp S)->R x c p->R' x c p) (ho:WbP w R n nu xs S):WbP w' R' n nu xs S':=by
 obtain⟨h1,h2,h3⟩:=ho;refine⟨h1,h2,?_⟩;cases hb:nu.blk with
 |none=>simp_all
 |some b=>
  simp only[hb]at h3;obtain⟨h4,h5,h6,cs,ps,h7,h8,h9,cS⟩:=h3;have hl:=Wa5 hR _ _ _ h7;have kJ:xs.length*n<=nu.cap*n:=Xaz _ h4;exact⟨h4,h5,h.row _ _ h6,cs,ps,WbZ (Q:=λq=>CS.le q.fp S) hm _ _ _ (λq hq=>cS _ (Xf _ (Xan hq))) h7,h8.same h (n:=nu.cap*n) (by omega) (cS _ (Xj ..)),h9,λs hs b o hh=>bg b o (cS s hs b o hh)⟩
theorem WaE(hg:GLe G G'):∀(t:Ty) (d:t.den) (vs:List Value) (ns:List Pc),(∀p∈ns,Same p.fp w w')->Wy G w t d vs ns->Wy G' w' t d vs ns
 | .own e,xs,vs,ns,hs,⟨p,h1,h2,h3⟩=>by
  subst h1;have gy:=hs p (Xag.2 rfl);exact⟨p,rfl,h2,Wik (λx c q hx=>WH e x c q hx) gy (λ_ _ hh=>hh) (λx c q hq hx=>WaE hg e x c q (λq' mm=>gy.mono (hq q' mm)) hx) h3⟩
 | .prod a b,d,vs,ns,hs,⟨v1,v2,n1,n2,h1,h2,h3,h4⟩=>by
  subst h2;exact⟨v1,v2,n1,n2,h1,rfl,WaE hg a _ _ _ (λp hp=>hs p (Xn _ hp)) h3,WaE hg b _ _ _ (λp hp=>hs p (Xg _ hp)) h4⟩
 | .int k,d,vs,ns,_,h=>⟨h.1,Wba hg _ _ _ h.2⟩
 | .bool,d,vs,ns,_,h=>⟨h.1,Wba hg _ _ _ h.2⟩
 | .str,d,vs,ns,_,h=>⟨h.1,Wba hg _ _ _ h.2⟩
 | .slice e,d,vs,ns,_,h=>⟨h.1,Wba hg _ _ _ h.2⟩
theorem Same.refl(S:CS)(w:World):Same S w w:=⟨λ_ _ h=>h,λ_ _ _=>rfl⟩
theorem Wc9(hg:GLe G G'){e:Ty}{nu:Nu}{xs:List e.den}{S S':CS}(h:Same S w w')(bg:CS.le S S')(ho:WbP w (Wy G w e) e.size nu xs S):WbP w' (Wy G' w' e) e.size nu xs S':=
 Wik (λx c q hx=>WH e x c q hx) h bg (λx c q hq hx=>WaE hg e x c q (λq' mm=>h.mono (hq q' mm)) hx) ho
theorem Wk3(hg:GLe G G'){e:Ty}{nu np:Nu}{xs:List e.den}{i:Nat}{S S':CS}(h:Same S w w')(bg:CS.le S S')(ho:Wic w (Wy G w e) e.size nu np xs i S):Wic w' (Wy G' w' e) e.size nu np xs i S':=by
 obtain⟨h1,h2,h3,b,h4,h5,h6,h7,h8,h9,c1,c2,p1,p2,g1,g2,g3,g4,g5,g6⟩:=ho;have l1:=Wa5 (λx c q hx=>WH e x c q hx) _ _ _ g1;have l2:=Wa5 (λx c q hx=>WH e x c q hx) _ _ _ g2;rw[Xbi,Xce (by omega)]at l1;rw[Xdv]at l2;have kJ:(xs.length-(i+1))*e.size<=(nu.cap-(i+1))*e.size:=Xaz _ (by omega);refine⟨h1,h2,h3,b,h4,h5,h6,h7,h8,h.row _ _ h9,c1,c2,p1,p2,?_,?_,?_,?_,g5,λs hs b o hh=>bg b o (g6 s hs b o hh)⟩
 .exact WbZ (Q:=λq=>CS.le q.fp S) (λx c q hq hx=>WaE hg e x c q (λq' mm=>h.mono (hq q' mm)) hx) _ _ _ (λq hq=>g6 _ (by grind)) g1
 .exact WbZ (Q:=λq=>CS.le q.fp S) (λx c q hq hx=>WaE hg e x c q (λq' mm=>h.mono (hq q' mm)) hx) _ _ _ (λq hq=>g6 _ (by grind)) g2
 .exact g3.same h (n:=i*e.size) (by omega) (g6 _ (Xj ..))
 .exact g4.same h (n:=(nu.cap-(i+1))*e.size) (by omega) (g6 _ (Xf _ (Xj ..)))
theorem WdX(hg:GLe G G'){ν ν':Nat->Nu}{nx am id:Nat}{S S':CS}(h:Same S w w')(bg:CS.le S S')(hn:Wsl nx ν ν')(hx:nx<=am)(bU:id<nx):
  ∀(ob:Ob),WcP G ν nx w id S ob->WcP G' ν' am w' id S' ob
 | .dead,_=>trivial
 | .box cs,⟨b,vs,h1,h2,h3,h4,h5⟩=>by
  refine⟨b,vs,by rw[hn id bU];exact h1,by rw[hn id bU];exact h.row _ _ h2,by rw[hn id bU];exact h3.same h (n:=cs.length) (by rw[h4.1];omega) h5,h4.mono hg hn hx,by rw[hn id bU];exactλb o hh=>bg b o (h5 b o hh)⟩
 | .arr e xs,ho=>by
  show WbP w' (Wy G' w' e) e.size (ν' id) xs S';rw[hn id bU];exact Wc9 hg h bg ho
 | .hole e xs i p,⟨hp,ho⟩=>by
  show p<am/\Wic w' (Wy G' w' e) e.size (ν' id) (ν' p) xs i S';rw[hn id bU,hn p hp];grind [Xbg,Wk3]
theorem Wim{ν:Nat->Nu}{nx:Nat}:∀(t:Ty) (d:t.den) (vs:List Value) (ns:List Pc),Wy G w t d vs ns->CellsRel G ν nx (split t d) vs
 | .own e,d,vs,ns,⟨p,_,h,_⟩=>by rw[h];exact CellsRel.one trivial (WiW _)
 | .prod a b,d,vs,ns,⟨v1,v2,n1,n2,h1,h2,h3,h4⟩=>by
  rw[h1];exact(Wim a _ _ _ h3).append (Wim b _ _ _ h4)
 | .int k,d,vs,ns,h=>WaO _ _ _ h.2
 | .bool,d,vs,ns,h=>WaO _ _ _ h.2
 | .str,d,vs,ns,h=>WaO _ _ _ h.2
 | .slice e,d,vs,ns,h=>WaO _ _ _ h.2
theorem Wr5{A A' B B':Type}(hA:A=A')(hB:B=B')(h:(A×B)=(A'×B'))(d:A×B):cast h d=(cast hA d.1,cast hB d.2):=by
 grind
theorem Wr3{A A':Type}(hA:A=A')(h:List A=List A')(x:A)(l:List A):cast h (x::l)=cast hA x::cast h l:=by
 grind
theorem WtQ{A A':Type}(hA:A=A')(h:List A=List A'):cast h ([]:List A)= []:=by
 grind
theorem Wo8{A A':Type}(hA:A=A')(h:List A=List A')(l:List A):(cast h l).length=l.length:=by
 grind
theorem Ws6(a b:Ty)(d:(Ty.prod a b).den):Wvh (.prod a b) d=(Wvh a d.1,Wvh b d.2):=Wr5 (Wev a).symm (Wev b).symm _ d
theorem Wrn(e:Ty)(x:e.den)(l:List e.den):WcN e (x::l)=Wvh e x::WcN e l:=Wr3 (Wev e).symm _ x l
theorem WnH(e:Ty):WcN e []= []:=WtQ (Wev e).symm _
theorem WgK(e:Ty)(l:List e.den):(WcN e l).length=l.length:=Wo8 (Wev e).symm _ l
theorem WbI:∀t:Ty,t.ro.size=t.size
 | .prod a b=>by simp only[Ty.ro,Ty.size,WbI a,WbI b]
 | .own _| .slice _| .int _| .bool| .str=>rfl
theorem Wos:∀t:Ty,t.ro.data=true
 | .prod a b=>by simp only[Ty.ro,Ty.data,Wos a,Wos b];rfl
 | .own _| .slice _| .int _| .bool| .str=>rfl
def Froz(G:GH)(w:World)(S:CS):Prop:=∀b o v,S b o->w.cell? ⟨b,o,none⟩=some v->G b o=some v
theorem Froz.mono{G:GH}{S S':CS}(h:Froz G w S)(hl:CS.le S' S):Froz G w S':=λb o v hs=>h b o v (hl b o hs)
theorem Mem.stored{b o n:Nat}{cs:List Value}(hm:Mem w b o cs)(hn:cs.length<=n)(hf:Froz G w (rng b o n)):WfD G b o cs:=λj v hj=>by
 have ac:j<cs.length:=(Xab.1 hj).1;exact hf b (o+j) v ⟨rfl,by omega,by omega⟩ (hm j v hj)
theorem Wln{e:Ty}(hE:∀(x:e.den) (c:List Value) (p:List Pc),(∀q∈p,Froz G' w q.fp)->Wy G w e x c p->Enc G' e.ro (Wvh e x) c):
  ∀(xs:List e.den) (cs:List Value) (ps:List Pc),(∀q∈ps,Froz G' w q.fp)->Wfa (Wy G w e) xs cs ps->Wd2 (Enc G' e.ro) (WcN e xs) cs
 | [],cs,ps,_,h=>by rw[WnH];exact h.1
 |x::xs,cs,ps,hf,⟨c1,c2,p1,p2,h1,h2,h3,h4⟩=>by
  subst h2;rw[Wrn];exact⟨c1,c2,h1,hE x c1 p1 (λq hq=>hf q (Xn _ hq)) h3,Wln hE xs c2 p2 (λq hq=>hf q (Xg _ hq)) h4⟩
theorem Wtr{e:Ty}(hE:∀(x:e.den) (c:List Value) (p:List Pc),(∀q∈p,Froz G' w q.fp)->Wy G w e x c p->Enc G' e.ro (Wvh e x) c){nu:Nu}{xs:List e.den}{S:CS}
  (hf:Froz G' w S) (h:WbP w (Wy G w e) e.size nu xs S):Wkc G' (Enc G' e.ro) (WcN e xs) nu.hdr:=by
 obtain⟨h1,h2,h3⟩:=h;unfold Nu.hdr;cases hb:nu.blk with
 |none=>simp only[hb]at h3;exact .inl ⟨rfl,by rw[h3,WnH]⟩
 |some b=>
  simp only[hb]at h3;obtain⟨h4,h5,h6,cs,ps,h7,h8,h9,cS⟩:=h3;have hl:=Wa5 (λx c q hx=>WH e x c q hx) _ _ _ h7;have kJ:xs.length*e.size<=nu.cap*e.size:=Xaz _ h4;refine .inr (.inl ⟨b,nu.off,nu.cap,cs,by rw[WgK,h1],by grind [WgK],h5,Wln hE xs cs ps (λq hq=>hf.mono (cS _ (Xf _ (Xan hq)))) h7,?_⟩);exact h8.stored (n:=nu.cap*e.size) (by omega) (hf.mono (cS _ (Xj ..)))
theorem Wd1(hg:GLe G G'):∀(t:Ty) (d:t.den) (vs:List Value) (ns:List Pc),(∀p∈ns,Froz G' w p.fp)->Wy G w t d vs ns->Enc G' t.ro (Wvh t d) vs
 | .own e,xs,vs,ns,hf,⟨p,h1,h2,h3⟩=>by
  subst h1;exact⟨_,h2,Wtr (λx c q hq hx=>Wd1 hg e x c q hq hx) (hf p (Xag.2 rfl)) h3⟩
 | .prod a b,d,vs,ns,hf,⟨v1,v2,n1,n2,h1,h2,h3,h4⟩=>by
  subst h2;rw[Ws6];exact⟨v1,v2,h1,Wd1 hg a _ _ _ (λp hp=>hf p (Xn _ hp)) h3,Wd1 hg b _ _ _ (λp hp=>hf p (Xg _ hp)) h4⟩
 | .int k,d,vs,ns,_,h=>Wba hg (.int k) _ _ h.2
 | .bool,d,vs,ns,_,h=>Wba hg .bool _ _ h.2
 | .str,d,vs,ns,_,h=>Wba hg .str _ _ h.2
 | .slice e,d,vs,ns,_,h=>Wba hg (.slice e) _ _ h.2
theorem Wje(hg:GLe G G'){e:Ty}{nu:Nu}{xs:List e.den}{S:CS}(hf:Froz G' w S)(h:WbP w (Wy G w e) e.size nu xs S):Wkc G' (Enc G' e.ro) (WcN e xs) nu.hdr:=
 Wtr (λx c q hq hx=>Wd1 hg e x c q hq hx) hf h
theorem Wsf{b:Nat}{vs:Array Value}{T:TypeId}(h:w.heap[b]?=some (Obj.cells vs T (0,0))){o:Nat}{cs:List Value}(hc:∀j v,cs[j]?=some v->vs.toList[o+j]?=some v):Mem w b o cs:=λj v hj=>by
 grind [cell_of_row]
theorem Mem.left{b o:Nat}{c1 c2:List Value}(h:Mem w b o (c1++c2)):Mem w b o c1:=λj v hj=>h j v (by grind)
theorem Mem.right{b o n:Nat}{c1 c2:List Value}(h:Mem w b o (c1++c2))(hn:c1.length=n):Mem w b (o+n) c2:=λj v hj=>by
 have:=h (n+j) v (by grind)
 grind
theorem Mem.app{b o n:Nat}{c1 c2:List Value}(h1:Mem w b o c1)(h2:Mem w b (o+n) c2)(hn:c1.length=n):Mem w b o (c1++c2):=λj v hj=>by
 rw[Xas]at hj;split at hj
 .exact h1 j v hj
 .rename_i ac;have:=h2 (j-c1.length) v hj
  grind
theorem WsO{e:Ty}{nu:Nu}{xs:List e.den}{S:CS}{b i:Nat}(h:WbP w (Wy G w e) e.size nu xs S)(hb:nu.blk=some b)(hi:i<xs.length):
  ∃c p,Wy G w e (xs.getD i e.dflt) c p/\Mem w b (nu.off+i*e.size) c:=by
 obtain⟨h1,h2,h3⟩:=h;simp only[hb]at h3;obtain⟨h4,h5,h6,cs,ps,h7,h8,h9,cS⟩:=h3;obtain⟨c1,c,c2,p1,p,p2,g1,g2,g3,g4,g5⟩:=Wpj h7 e.dflt hi;refine⟨c,p,g4,?_⟩;rw[g1]at h8;have hl:=Wa5 (λx c q hx=>WH e x c q hx) _ _ _ g3;rw[Xbi,Xce (by omega)]at hl;exact(h8.right hl).left
theorem WdV{e:Ty}(he:e.data=true){nu:Nu}{xs:List e.den}{S:CS}{b:Nat}(h:WbP w (Wy G w e) e.size nu xs S)(hb:nu.blk=some b):
  xs.length=nu.len/\xs.length<=nu.cap/\nu.cap<=maxLen/\Row w b (nu.off+nu.cap*e.size)/\∃cs,Wd2 (Enc G e) xs cs/\Mem w b nu.off cs/\CS.le (rng b nu.off (nu.cap*e.size)) S:=by
 obtain⟨h1,h2,h3⟩:=h
 grind [Wcr,Xj]
theorem Wof{e:Ty}(he:e.data=true){nu:Nu}{xs:List e.den}{S:CS}{b:Nat}{cs:List Value}(hb:nu.blk=some b)(h1:xs.length=nu.len)(h2:nu.esz=e.size)(h4:xs.length<=nu.cap)(h5:nu.cap<=maxLen)
  (h6:Row w b (nu.off+nu.cap*e.size)) (h7:Wd2 (Enc G e) xs cs) (h8:Mem w b nu.off cs) (h9:CS.le (rng b nu.off (nu.cap*e.size)) S):WbP w (Wy G w e) e.size nu xs S:=by
 refine⟨h1,h2,?_⟩;simp only[hb];exact⟨h4,h5,h6,cs,[],(Wcr he xs cs []).2 ⟨h7,rfl⟩,h8,Xy.2 ⟨by simp,List.Pairwise.nil⟩,λs hs=>by simp_all⟩
theorem Wcx{e:Ty}{nu:Nu}{xs:List e.den}{S:CS}(h:WbP w (Wy G w e) e.size nu xs S)(hb:nu.blk=none):xs= []:=by
 obtain⟨h1,h2,h3⟩:=h;simp_all
end
end Go.Sx
namespace Go.Sx
set_option linter.unusedVariables false
set_option linter.unusedSimpArgs false
def WbG:Ty->List Value
 | .prod a b=>WbG a++WbG b
 | .int k=>[.int k 0]
 | .bool=>[.bool false]
 | .str=>[.string ⟨#[]⟩]
 | .slice _=>[.slice none 0 0]
 | .own _=>[.pointer none]
def rep{α:Type}(l:List α):Nat->List α
 |0=>[]
 |n+1=>l++rep l n
def TE.cells(te:TE):List Value:=match te.shape with
 | .arr n _=>rep (WbG te.ty) n
 |_=>WbG te.ty
def TE.size(te:TE):Nat:=match te.shape with
 | .arr n _=>n*te.ty.size
 |_=>te.ty.size
structure TEok(P:Program)(T:Tab)(t:TypeId)(te:TE):Prop where
 und:match te.shape with
  | .basic=>te.agg=false/\(match te.ty with
   | .int k=>P.underlying t=some (.int k)
   | .bool=>P.underlying t=some .bool
   | .str=>P.underlying t=some .string
   |_=>False)
  | .slice e=>te.agg=false/\P.underlying t=some (.slice e)/\∃eG,Wp T e=some eG/\te.ty= .slice eG.ty
  | .struct fs=>te.agg=true/\∃fields:Array Field,P.underlying t=some (.struct fields)/\fields.toList.map (λf=>(f.offset,f.type))=fs/\
    (∀f∈fields,f.name≠ "_")∧P.stoodInHeld t=false∧P.eqGuardType P.depth t=false
  | .ptr e=>te.agg=false/\P.underlying t=some (.pointer e)
  | .arr n e=>te.agg=true/\P.underlying t=some (.array n e)/\∃eG,Wp T e=some eG/\eG.ty=te.ty/\∀m f,eG.shape≠ .arr m f
 info:∃i z,P.info? t=some i/\i.size=te.size/\i.zero=some z/\z.cells.toList=te.cells/\i.bytes<=4096
def Waj(P:Program)(T:Tab):Prop:=∀t te,Wp T t=some te->TEok P T t te
theorem WbV:∀t:Ty,0<t.size
 | .prod a b=>by have:=WbV a;simp[Ty.size];omega
 | .int _| .bool| .str| .slice _| .own _=>by simp[Ty.size]
section
variable{P:Program}{T:Tab}{w:World}
theorem Wl{t:TypeId}{d:TypeDesc}(h:P.underlying t=some d):(underlying t).run P w= .ok d w:=by
 simp[underlying,h]
theorem WhM{t:TypeId}{i:TypeInfo}(h:P.info? t=some i):(typeInfo t).run P w= .ok i w:=by
 simp[typeInfo,h]
theorem WqY{t:TypeId}{i:TypeInfo}(h:P.info? t=some i):(sizeOf t).run P w= .ok i.size w:=by
 simp[sizeOf,WhM h]
theorem TEok.sizeOf{t:TypeId}{te:TE}(h:TEok P T t te):(sizeOf t).run P w= .ok te.size w:=by
 obtain⟨i,z,hi,hs,_⟩:=h.info;rw[WqY hi,hs]
theorem TEok.isAgg{t:TypeId}{te:TE}(h:TEok P T t te):(isAgg t).run P w= .ok te.agg w:=by
 have hu:=h.und;obtain⟨ty,agg,shape⟩:=te;cases shape with
 |basic=>
  obtain⟨ha,hu⟩:=hu;cases ty<;>simp only at hu<;>first|exact hu.elim|simp_all [Go.isAgg,Wl]
 |slice e=>simp_all [Go.isAgg,Wl]
 |struct fs=>obtain⟨ha,f,hu,_⟩:=hu;simp_all [Go.isAgg,Wl]
 |ptr e=>simp_all [Go.isAgg,Wl]
 |arr n e=>simp_all [Go.isAgg,Wl]
end
theorem Wa1(b o j:Nat):(⟨b,o,none⟩:Addr).add j=⟨b,o+j,none⟩:=by
 simp[Addr.add]
section
variable{P:Program}{T:Tab}{w:World}{G:GH}{ν:Nat->Nu}{objs:Waa}{nx:Nat}
theorem WY{te:TE}(h:te.plain=true):te.size=te.ty.size:=by
 unfold TE.plain at h;unfold TE.size;split at h<;>simp_all
theorem Whb{t:TypeId}{te:TE}(bZ:TEok P T t te)(fy:te.plain=true){b o off:Nat}{cs:List Cell}{us:List Value}{x:AVal}
  (hc:CellsRel G ν nx cs us) (hm:∀(j:Nat) (v:Value),us[j]?=some v->w.cell? ⟨b,o+j,none⟩=some v)
  (hs:sub te.agg cs off te.ty.size=some x):
  ∃v,(loadVar t ⟨b,o+off,none⟩).run P w= .ok v w/\AValRel G ν nx x v:=by
 have ct:te.size=te.ty.size:=WY fy;unfold sub at hs;simp only[loadVar,Sem.run_bind,bZ.isAgg,Result.andThen_ok];cases ha:te.agg with
 |true=>
  simp only[ha,W4]at hs⊢;split at hs
  .rename_i bg;injection hs with hs;subst hs;have ad:((us.drop off).take te.ty.size).length=te.ty.size:=by simp[hc.1];omega
   have hr:=run_loadCells_list (P:=P) w ⟨b,o+off,none⟩ ((us.drop off).take te.ty.size) (λj v hj=>by
    grind [Wa1,Xba])
   rw[ad]at hr;refine⟨.agg ((us.drop off).take te.ty.size).toArray,?_,_,rfl,(hc.drop off).take _⟩;simp[bZ.sizeOf,ct,hr]
  grind
 |false=>
  simp only[ha]at hs⊢;cases bV:cs[off]? with
  |none=>simp_all
  |some c=>
   simp[bV]at hs;subst hs;have ac:off<us.length:=by rw[hc.1];grind
   have hu:us[off]?=some us[off]:=Xq ac;refine⟨us[off],?_,hc.2 off c _ bV hu⟩;simp_all
end
section
variable{w0:World}{F:CS}{nt:Slots}{G0 G:GH}{ν:Nat->Nu}{st:St}{a:Act}{w:World}{P:Program}{T:Tab}
theorem Wtp{G:GH}:∀(t:Ty) (d:t.den) (v:Value),Enc G t d [v]->v.oneCell'=true
 | .int _,_,_,h=>by grind [Enc,Value.oneCell']
 | .bool,_,_,h=>by grind [Enc,Value.oneCell']
 | .str,_,_,h=>by grind [Enc,Value.oneCell']
 | .slice _,_,_,h=>by
  obtain⟨v,hv,hr⟩:=h;simp at hv;subst hv;rcases hr with⟨rfl,_⟩|⟨_,_,_,_,rfl,_⟩|⟨_,_,rfl,_⟩<;>rfl
 | .own _,_,_,h=>h.elim
 | .prod a b,d,v,h=>by
  have:=W6 _ _ _ h
  grind [WbV,Ty.size]
theorem WN{t:Ty}{d:t.den}{v:Value}(h:Enc G t d [v]):AValRel G ν st.nx (one t d) v:=
 ⟨h,Wtp t d v h⟩
theorem Wgw:∀(v:Value) (c:Cell),Wao v=some c->CellRel G ν st.nx c v/\v.oneCell'=true
 | .int k n,c,h=>by simp[Wao]at h;subst h;exact⟨rfl,rfl⟩
 | .bool b,c,h=>by simp[Wao]at h;subst h;exact⟨rfl,rfl⟩
 | .string s,c,h=>by simp[Wao]at h;subst h;exact⟨by simp[CellRel,Enc],rfl⟩
 | .slice none 0 0,c,h=>by simp[Wao]at h;subst h;exact⟨rfl,rfl⟩
 | .slice none 0 (n+1),c,h=>by simp[Wao]at h
 | .slice none (n+1) _,c,h=>by simp[Wao]at h
 | .slice (some _) _ _,c,h=>by simp[Wao]at h
 | .pointer none,c,h=>by simp[Wao]at h;subst h;exact⟨trivial,rfl⟩
 | .nilFunc,c,h=>by simp[Wao]at h;subst h;exact⟨trivial,rfl⟩
 | .float _ _,_,h| .complex _ _ _,_,h| .pointer (some _),_,h| .map _,_,h| .chan _,_,h| .func _ _ _,_,h| .iface _ _,_,h| .nilIface,_,h| .agg _,_,h| .tuple _,_,h=>by simp[Wao]at h
theorem WpP:∀(vs:List Value) (cs:List Cell),vs.mapM Wao=some cs->CellsRel G ν st.nx cs vs
 | [],cs,h=>by grind [CellsRel.nil]
 |v::vs,cs,h=>by
  simp only[Xey,Option.bind_eq_bind,Option.bind_eq_some_iff]at h;obtain⟨c,hc,ds,hd,he⟩:=h;simp at he;subst he;obtain⟨h1,h2⟩:=Wgw (G:=G) (ν:=ν) (st:=st) v c hc;exact(CellsRel.one h1 h2).append (WpP vs ds hd)
theorem WL(h:Rel w0 F nt G0 G ν st a w):∀(x:Operand) (av:AVal),ev st x=some av->AValRel G ν st.nx av (a.eval x)
 | .tmp t,av,he=>by
  obtain⟨v,hv,hr⟩:=h.env t av he;simpa [Act.eval,hv]using hr
 | .const v,av,he=>by
  simp only[ev,Wss]at he;split at he
  .rename_i cs;cases hm:cs.toList.mapM Wao with
   |none=>simp[hm]at he
   |some l=>
    simp[hm]at he;subst he;exact⟨cs.toList,by simp[Act.eval],WpP _ _ hm⟩
  .cases hm:Wao v with
   |none=>simp[hm]at he
   |some c=>
    simp[hm]at he;subst he;obtain⟨h1,h2⟩:=Wgw (G:=G) (ν:=ν) (st:=st) v c hm;exact⟨h1,h2⟩
 | .func f,av,he=>by
  simp[ev]at he;subst he;exact⟨⟨[],rfl,rfl,λj id u hj=>by simp at hj⟩,rfl⟩
 | .global g,av,he=>by simp[ev]at he
theorem Wf2(av:AVal)(v:Value)(n:Int)(h:AValRel G ν st.nx av v)(he:asI av=some n):∃k,v= .int k n:=by
 unfold asI at he;split at he
 .rename_i k m;injection he with he;subst he;obtain⟨h1,_⟩:=h;simp[CellRel,Enc]at h1;exact⟨k,h1⟩
 .simp at he
theorem Wot(av:AVal)(v:Value)(b:Bool)(h:AValRel G ν st.nx av v)(he:asB av=some b):v= .bool b:=by
 unfold asB at he;split at he
 .injection he with he;subst he;obtain⟨h1,_⟩:=h;simpa [CellRel,Enc]using h1
 .simp at he
def Gives(P:Program)(G:GH)(ν:Nat->Nu)(st:St)(w:World)(s:Sem Value)(r:AVal):Prop:=∃v,s.run P w= .ok v w/\AValRel G ν st.nx r v
theorem Gives.one{s:Sem Value}{t:Ty}{d:t.den}{v:Value}(hr:s.run P w= .ok v w)(h:Enc G t d [v]):Gives P G ν st w s (Sx.one t d):=⟨v,hr,WN h⟩
theorem WrG{op:BinOp}{k:IntKind}{x y:Int}{r:AVal}(t:TypeId)(hs:op≠ .shl)(dq:op≠ .shr)(h:WxE op k x y=some (true,r)):
  Gives P G ν st w (Go.binOp op t (.int k x) (.int k y)) r:=by
 cases op<;>simp[WxE,inz]at h<;>first
  |exact WE rfl hs
  |exact WE rfl dq
  |(subst h;exact⟨_,by simp only[Go.binOp,ne_eq,not_true_eq_false,W7,↓reduceIte,Op.intArith,Op.intBits,Op.intCmp]<;>rfl,WN rfl⟩)
  |(obtain⟨hz,rfl⟩:=h;exact⟨_,by simp[Go.binOp,Op.intDiv,hz,WpT,WdD]<;>rfl,WN rfl⟩)
theorem Wjq{op:BinOp}{k yk:IntKind}{x y:Int}{r:AVal}(t:TypeId)(h:(op= .shl/\(true,r)=(inn y,Sx.one (.int k) (Wxw k x y)))\/(op= .shr/\(true,r)=(inn y,Sx.one (.int k) (WxW k x y)))):
  Gives P G ν st w (Go.binOp op t (.int k x) (.int yk y)) r:=by
 rcases h with⟨rfl,h⟩|⟨rfl,h⟩<;>simp[inn]at h<;>obtain⟨hn,rfl⟩:=h
 .exact⟨_,by simp[Go.binOp,Op.shift,Int.not_lt.2 hn,Wxw]<;>rfl,WN rfl⟩
 .exact⟨_,by simp[Go.binOp,Op.shift,Int.not_lt.2 hn,WxW]<;>rfl,WN rfl⟩
theorem Wrq{op:BinOp}{x y:List UInt8}{r:AVal}(t:TypeId)(h:WxS op x y=some (true,r)):
  Gives P G ν st w (Go.binOp op t (.string ⟨x.toArray⟩) (.string ⟨y.toArray⟩)) r:=by
 cases op<;>simp[WxS]at h
 .obtain⟨hf,rfl⟩:=h;simp[WxZ]at hf;refine⟨.string ⟨(x++y).toArray⟩,?_,WN rfl⟩;have e:(ByteArray.mk x.toArray++ByteArray.mk y.toArray)=⟨(x++y).toArray⟩:=by
   apply ByteArray.ext;simp
  have ct:¬((((ByteArray.mk x.toArray).size+(ByteArray.mk y.toArray).size:Nat):Int)>IntKind.i64.max):=by
   have hm:IntKind.i64.max=9223372036854775807:=by decide
   simp only[ByteArray.size,List.size_toArray,hm];omega
  simp only[Go.binOp,Op.stringOp,Wc ct,e];rfl
 .subst h;exact⟨_,by simp[Go.binOp,Op.stringOp]<;>rfl,WN rfl⟩
 .subst h;exact⟨_,by simp[Go.binOp,Op.stringOp]<;>rfl,WN rfl⟩
theorem Wxh(x y:List UInt8):((ByteArray.mk x.toArray).toList==(ByteArray.mk y.toArray).toList)=seq x y:=by simp[seq]
theorem Wml{te:TE}{c d:Cell}{b:Bool}{u v:Value}{t:TypeId}(bZ:TEok P T t te)(hc:CellRel G ν st.nx c u)(hd:CellRel G ν st.nx d v)
  (h:Wlu te c d=some b) (n:Nat):(Op.equalIn (n+1) t u v).run P w= .ok b w/\te.agg=false:=by
 have hu:=bZ.und;unfold Wlu at h;split at h
 .split at h
  .rename_i hk;subst hk;injection h with h;subst h;simp only[CellRel,Enc,List.cons.injEq,and_true]at hc hd;subst hc hd;exact⟨run_equalIn_int w n t _ _ _ _ hu.2,rfl⟩
  .simp at h
 .injection h with h;subst h;simp only[CellRel,Enc,List.cons.injEq,and_true]at hc hd;subst hc hd;exact⟨run_equalIn_bool' w n t _ _ hu.2,rfl⟩
 .injection h with h;subst h;simp only[CellRel,Enc,List.cons.injEq,and_true]at hc hd;subst hc hd;exact⟨(run_equalIn_string w n t _ _ hu.2).trans (Wn (Result.ok · w) (Wxh _ _)),rfl⟩
 .simp at h
theorem Wp8{t:TypeId}{te:TE}(bZ:TEok P T t te)(ha:te.agg=false)(cs:Array Value)(off:Nat)(v:Value)(h:cs[off]?=some v):(part t cs off).run P w= .ok v w:=by
 simp only[part,Sem.run_bind,bZ.isAgg,Result.andThen_ok,ha];simp[h]
theorem WfG(hT:Waj P T)(n:Nat)(xs ys:Array Value):∀(fields:List Field) (k:Nat) (cs ds:List Cell) (b:Bool),
  (∀f∈fields,f.name≠ "_")→fields.map (·.offset)=List.range' k fields.length→
  (∀(j:Nat) (c:Cell),cs[j]?=some c->∃v,xs[k+j]?=some v/\CellRel G ν st.nx c v)->
  (∀(j:Nat) (c:Cell),ds[j]?=some c->∃v,ys[k+j]?=some v/\CellRel G ν st.nx c v)->
  Wdg T (fields.map (·.type)) cs ds=some b->(Op.eqFields (n+1) xs ys fields).run P w= .ok b w
 | [],k,[],[],b,_,_,_,_,h=>by simp[Wdg]at h;subst h;rfl
 |f::fs,k,c::cs,d::ds,b,hn,ho,hx,hy,h=>by
  simp only[Xaf,Wdg]at h;cases hl:Wp T f.type with
  |none=>simp[hl]at h
  |some te=>
   simp only[hl]at h;cases h1:Wlu te c d with
   |none=>simp[h1]at h
   |some p=>
    cases h2:Wdg T (fs.map (·.type)) cs ds with
    |none=>simp[h1,h2]at h
    |some q=>
     simp[h1,h2]at h;subst h;obtain⟨u,hu,yq⟩:=hx 0 c rfl;obtain⟨v,hv,yr⟩:=hy 0 d rfl;obtain⟨he,ha⟩:=Wml (w:=w) (hT _ _ hl) yq yr h1 n;simp only[Xaf,Xr,List.range'_succ,List.cons.injEq]at ho;have ih:=WfG hT n xs ys fs (k+1) cs ds q (λf hf=>hn f (Xf _ hf)) ho.2
      (λj c hj=>by have:=hx (j+1) c (by simpa using hj);rwa [Xba,Xcw 1 j])
      (λj c hj=>by have:=hy (j+1) c (by simpa using hj);rwa [Xba,Xcw 1 j]) h2
     simp only[Op.eqFields,Wf (hn f (Xj ..)),Sem.run_bind,ho.1];rw[Xbb]at hu hv;rw[Wp8 (hT _ _ hl) ha xs k u hu,Result.andThen_ok,Wp8 (hT _ _ hl) ha ys k v hv,Result.andThen_ok,he,Result.andThen_ok];cases p
     .simp
     .simpa using ih
 | [],_,_::_,_,_,_,_,_,_,h=>by simp[Wdg]at h
 | [],_,[],_::_,_,_,_,_,_,h=>by simp[Wdg]at h
 |_::_,_,[],_,_,_,_,_,_,h=>by simp[Wdg]at h
 |_::_,_,_::_,[],_,_,_,_,_,h=>by simp[Wdg]at h
theorem WbS{op:BinOp}{t:TypeId}{x y:Operand}{u v:Value}(hu:∀cs,u≠ .agg cs)(hn:u≠ .nilIface):(eqGuard op t x y u v).run P w= .ok () w:=by
 unfold eqGuard;cases op<;>simp<;>cases u<;>cases v<;>first|rfl|exact WE rfl hn|exact WE rfl (hu _)
theorem WoF(hT:Waj P T){op:BinOp}{t:TypeId}{x y:AVal}{u v:Value}{r:AVal}(ox oy:Operand)(hx:AValRel G ν st.nx x u)(hy:AValRel G ν st.nx y v)
  (h:Sx.binOp T op t x y=some (true,r)):Gives P G ν st w (do eqGuard op t ox oy u v;Go.binOp op t u v) r:=by
 unfold Sx.binOp at h;split at h
 .rename_i k m k' m';obtain⟨hx,_⟩:=hx;obtain⟨hy,_⟩:=hy;simp only[CellRel,Enc,List.cons.injEq,and_true]at hx hy;subst hx hy;have hg:(eqGuard op t ox oy (.int k m) (.int k' m')).run P w= .ok () w:=WbS (by simp) (by simp)
  suffices hh:Gives P G ν st w (Go.binOp op t (.int k m) (.int k' m')) r by
   obtain⟨z,h1,h2⟩:=hh;exact⟨z,by simp[hg,h1],h2⟩
  split at h
  .injection h with h;exact Wjq t (.inl ⟨rfl,h.symm⟩)
  .injection h with h;exact Wjq t (.inr ⟨rfl,h.symm⟩)
  .split at h
   .rename_i hk;subst hk;exact WrG t (by assumption) (by assumption) h
   .simp at h
 .rename_i m m';obtain⟨hx,_⟩:=hx;obtain⟨hy,_⟩:=hy;simp only[CellRel,Enc,List.cons.injEq,and_true]at hx hy;subst hx hy;obtain⟨z,h1,h2⟩:=Wrq (w:=w) (P:=P) (G:=G) (ν:=ν) (st:=st) t h;exact⟨z,by simp[WbS,h1],h2⟩
 .rename_i m m';obtain⟨hx,_⟩:=hx;obtain⟨hy,_⟩:=hy;simp only[CellRel,Enc,List.cons.injEq,and_true]at hx hy;subst hx hy;split at h
  .rename_i hl;have hu:=(hT _ _ hl).und;simp only[true_and]at hu;have key:(Op.equalIn 10000 t (.bool m) (.bool m')).run P w= .ok (beq m m') w:=run_equalIn_bool' w 9999 t m m' hu;split at h<;>simp at h
   .subst h;exact⟨.bool (beq m m'),by simp[WbS,Go.binOp,Op.equal,Op.maxDepth,key],WN rfl⟩
   .subst h;exact⟨.bool (!beq m m'),by simp[WbS,Go.binOp,Op.equal,Op.maxDepth,key],WN rfl⟩
  .simp at h
 .rename_i cs ds;obtain⟨us,rfl,bV⟩:=hx;obtain⟨vs,rfl,ij⟩:=hy;split at h
  .rename_i fs hl;obtain⟨_,fields,hu,fC,yt,bv,wP⟩:=(hT _ _ hl).und;split at h
   .rename_i hr;have hr:=WaU hr;have pK:P.fieldsOf t=fields:=by simp[Program.fieldsOf,hu]
    have key:∀b,Wdg T (fs.map (·.2)) cs ds=some b->(Op.equalIn 10000 t (.agg us.toArray) (.agg vs.toArray)).run P w= .ok b w:=λb hb=>by
     rw[run_equalIn_struct w 9999 t _ _ (by rw[pK];exact hu) bv,pK];refine WfG (G:=G) (ν:=ν) (st:=st) hT 9998 us.toArray vs.toArray fields.toList 0 cs ds b (λf hf=>yt f (by simpa using hf)) ?_ ?_ ?_ ?_
     .rw[←fC]at hr;simpa [List.range_eq_range',Function.comp_def]using hr
     .intro j c hj;have ac:j<us.length:=by rw[bV.1];exact(Xab.1 hj).1
      exact⟨us[j],by simp[ac],(bV.2 j c _ hj (Xq ac)).1⟩
     .intro j c hj;have ac:j<vs.length:=by rw[ij.1];exact(Xab.1 hj).1
      exact⟨vs[j],by simp[ac],(ij.2 j c _ hj (Xq ac)).1⟩
     .rw[←fC]at hb;simpa [Function.comp_def]using hb
    split at h
    .rename_i b hb;simp at h;subst h;exact⟨.bool b,by simp[run_eqGuard_agg w _ t ox oy _ _ wP,run_eql_struct,key b hb],WN rfl⟩
    .rename_i b hb;simp at h;subst h;exact⟨.bool (!b),by simp[run_eqGuard_agg w _ t ox oy _ _ wP,run_neq_struct,key b hb],WN rfl⟩
    .simp at h
   .simp at h
  .simp at h
 .simp at h
end
end Go.Sx
namespace Go.Sx
set_option linter.unusedVariables false
set_option linter.unusedSimpArgs false
section
variable{w0:World}{F:CS}{nt:Slots}{G0 G:GH}{ν:Nat->Nu}{st:St}{a:Act}{w:World}{P:Program}{T:Tab}
theorem HRel.g{objs:Waa}{nx:Nat}(h:HRel w0 F G ν objs nx w){b o:Nat}{v:Value}(hg:G b o=some v):w.cell? ⟨b,o,none⟩=some v:=by
 obtain⟨φ,h⟩:=h;exact h.g b o v hg
theorem HRel.obj{objs:Waa}{nx:Nat}(h:HRel w0 F G ν objs nx w){id:Nat}{ob:Ob}(ho:Wp objs id=some ob):∃S,WcP G ν nx w id S ob:=by
 obtain⟨φ,h⟩:=h;exact⟨φ id,h.ob id ob ho⟩
theorem Whj{k:IntKind}{n:Int}{v:Value}(h:AValRel G ν st.nx (.s (.one (.val (.int k) n))) v):v= .int k n:=by
 obtain⟨h,_⟩:=h
 grind [CellRel,Enc]
theorem Wmr{n:Bool}{v:Value}(h:AValRel G ν st.nx (.s (.one (.val .bool n))) v):v= .bool n:=by
 obtain⟨h,_⟩:=h
 grind [CellRel,Enc]
theorem WlD{s:List UInt8}{v:Value}(h:AValRel G ν st.nx (.s (.one (.val .str s))) v):v= .string ⟨s.toArray⟩:=by
 obtain⟨h,_⟩:=h
 grind [CellRel,Enc]
theorem Wrj{op:UnOp}{x:AVal}{u:Value}{r:AVal}(hx:AValRel G ν st.nx x u)(h:Sx.unOp op x=some (true,r)):Gives P G ν st w (Op.unary op u) r:=by
 unfold Sx.unOp at h;split at h
 .have:=Wmr hx;subst this;simp at h;subst h;exact⟨_,rfl,WN rfl⟩
 .have:=Whj hx;subst this;simp at h;subst h;exact⟨_,rfl,WN rfl⟩
 grind
theorem Wwt{id:Nat}{e:Ty}{xs:List e.den}{nx:Nat}{S:CS}(h:WcP G ν nx w id S (.arr e xs)):∃a c,(ν id).hdr= .slice a xs.length c:=by
 obtain⟨ad,_,aH⟩:=h;unfold Nu.hdr;cases hb:(ν id).blk with
 |none=>simp_all
 |some b=>simp_all
theorem WtO{id:Nat}{e:Ty}{xs:List e.den}{i p nx:Nat}{S:CS}(h:WcP G ν nx w id S (.hole e xs i p)):∃a c,(ν id).hdr= .slice a xs.length c:=by
 obtain⟨_,ad,_,_,b,hb,_⟩:=h;unfold Nu.hdr;simp_all
theorem Wwq{t ty:TypeId}(hu:P.underlying t=some .string)(s:List UInt8):(Builtin.len_ #[t] ty #[.string ⟨s.toArray⟩]).run P w= .ok (.int .i64 (Wg s)) w:=by
 have h1:(Builtin.len_ #[t] ty #[.string ⟨s.toArray⟩]).run P w= .ok (goInt (ByteArray.mk s.toArray).size) w:=by
  simp_all [Builtin.len_,Wl]
 rw[h1];rfl
theorem Woq(hT:Waj P T)(hh:HRel w0 F G ν st.objs st.nx w){t ty:TypeId}{x:AVal}{u:Value}{r:AVal}(hx:AValRel G ν st.nx x u)(h:Wj0 T st t x=some (true,r)):
  Gives P G ν st w (Builtin.len_ #[t] ty #[u]) r:=by
 unfold Wj0 at h;split at h
 .rename_i te e l _ hl;simp at h;subst h;have hu:=(hT _ _ hl).und.2.1;obtain⟨⟨v,hv,hr⟩,_⟩:=hx;simp at hv;subst hv;rcases hr with⟨rfl,dZ⟩|⟨b,off,cap,cs,rfl,_⟩|⟨a,cap,rfl,dZ⟩
  rotate_left 2
  .exact⟨_,by simp[Builtin.len_,Wl hu]<;>rfl,WN (by rw[dZ];rfl)⟩
  .exact⟨_,by simp[Builtin.len_,Wl hu]<;>rfl,WN (by rw[dZ];rfl)⟩
  .exact⟨_,by simp[Builtin.len_,Wl hu]<;>rfl,WN rfl⟩
 .rename_i te e _ hl;simp at h;subst h;have hu:=(hT _ _ hl).und.2.1;obtain⟨hv,_⟩:=hx;simp only[CellRel]at hv;subst hv;exact⟨_,by simp[Builtin.len_,Wl hu]<;>rfl,WN rfl⟩
 .rename_i te e id hl;have hu:=(hT _ _ hl).und.2.1;obtain⟨⟨_,hv⟩,_⟩:=hx;subst hv;unfold obL at h;split at h
  .rename_i e' xs ho;simp at h;subst h;obtain⟨S,aH⟩:=hh.obj ho;obtain⟨a,c,hd⟩:=Wwt aH;rw[hd];exact⟨.int .i64 (Wg xs),by simp[Builtin.len_,Wl hu]<;>rfl,WN rfl⟩
  .rename_i e' xs i p ho;simp at h;subst h;obtain⟨S,aH⟩:=hh.obj ho;obtain⟨a,c,hd⟩:=WtO aH;rw[hd];exact⟨.int .i64 (Wg xs),by simp[Builtin.len_,Wl hu]<;>rfl,WN rfl⟩
  grind
 .rename_i te e id lo hi hl;simp only[Option.some.injEq,Prod.mk.injEq,true_and]at h;subst h;have hu:=(hT _ _ hl).und.2.1;obtain⟨⟨_,h1,h2,h3,hv⟩,_⟩:=hx;subst hv;unfold Nu.vhdr;cases hb:(ν id).blk with
  |none=>
   have h0:=h3 hb;have e0:hi-lo=0:=by omega
   rw[e0];exact⟨_,by simp[Builtin.len_,Wl hu]<;>rfl,WN rfl⟩
  |some b=>exact⟨.int .i64 ((hi-lo:Nat):Int),by simp[Builtin.len_,Wl hu]<;>rfl,WN rfl⟩
 .rename_i s hl;simp at h;subst h;have hu:=(hT _ _ hl).und.2;have:=WlD hx;subst this;exact⟨.int .i64 (Wg (α:=UInt8) s),Wwq hu s,WN rfl⟩
 grind
theorem Weq(hT:Waj P T){t:TypeId}{f off:Nat}{te:TE}(h:WgR T t f=some (off,te)):
  ∃(fields:Array Field) (fd:Field),P.underlying t=some (.struct fields)/\fields[f]?=some fd/\fd.offset=off/\TEok P T fd.type te/\te.plain=true:=by
 unfold WgR at h;split at h
 .rename_i fs hl;obtain⟨_,fields,hu,fC,_⟩:=(hT _ _ hl).und;split at h
  .rename_i o ft hf;split at h
   .rename_i eG dZ;split at h
    .rename_i hp;injection h with h;injection h with h1 h2;subst h1 h2;rw[←fC]at hf;simp only[Xak,Array.getElem?_toList]at hf;cases jp:fields[f]? with
     |none=>simp_all
     |some fd=>
      simp[jp]at hf;obtain⟨h1,h2⟩:=hf;subst h1 h2;exact⟨fields,fd,hu,jp,rfl,hT _ _ dZ,hp⟩
    grind
   grind
  grind
 grind
theorem Wgc{t:TypeId}{f off:Nat}{te:TE}{b o:Nat}{fields:Array Field}{fd:Field}(hu:P.underlying t=some (.struct fields))(hf:fields[f]?=some fd)(ho:fd.offset=off)
  (bZ:TEok P T fd.type te) (hp:te.plain=true):(Instr.fieldAt t (.pointer (some ⟨b,o,none⟩)) f).run P w= .ok (.pointer (some ⟨b,o+off,none⟩)) w:=by
 have ct:te.size≠0:=by grind [WY,WbV]
 simp[Instr.fieldAt,Wl hu,hf,Instr.sureAddr,fieldPlace,bZ.sizeOf,ct,Wa1,ho]
theorem Whn(hT:Waj P T)(hh:HRel w0 F G ν st.objs st.nx w){t:TypeId}{f:Nat}{x:AVal}{u:Value}{r:AVal}(hx:AValRel G ν st.nx x u)(h:Wch T st t x f=some (true,r)):
  Gives P G ν st w (Instr.fieldAt t u f) r:=by
 unfold Wch at h;split at h
 .rename_i off te id o hf;obtain⟨fields,fd,hu,jp,ho,bZ,hp⟩:=Weq hT hf;split at h
  .simp at h;subst h;obtain⟨⟨h1,b,hb,rfl⟩,_⟩:=hx;exact⟨_,Wgc hu jp ho bZ hp,⟨h1,b,hb,by rw[Xba]⟩,rfl⟩
  grind
 .rename_i off te id i o hf;obtain⟨fields,fd,hu,jp,ho,bZ,hp⟩:=Weq hT hf;split at h
  .simp at h;subst h;obtain⟨⟨h1,h2,b,hb,rfl⟩,_⟩:=hx;exact⟨_,Wgc hu jp ho bZ hp,⟨h1,h2,b,hb,by rw[Xba,Xba]⟩,rfl⟩
  grind
 .rename_i off te t' d o hf;obtain⟨fields,fd,hu,jp,ho,bZ,hp⟩:=Weq hT hf;simp at h;subst h;obtain⟨⟨b,o',cs,rfl,h1,h2⟩,_⟩:=hx;exact⟨_,Wgc hu jp ho bZ hp,⟨b,o',cs,by rw[Xba],h1,h2⟩,rfl⟩
 grind
theorem Wli(hT:Waj P T){t:TypeId}{f:Nat}{x:AVal}{u:Value}{r:AVal}(hx:AValRel G ν st.nx x u)(h:WoB T t x f=some (true,r)):
  Gives P G ν st w (Instr.field t u f) r:=by
 unfold WoB at h;split at h
 .rename_i off te cs hf;obtain⟨fields,fd,hu,jp,ho,bZ,hp⟩:=Weq hT hf;obtain⟨us,rfl,bV⟩:=hx;cases hs:sub te.agg cs off te.ty.size with
  |none=>simp_all
  |some y=>
   simp[hs]at h;subst h;unfold sub at hs;simp only[Gives,Instr.field,Sem.run_bind,Wl hu,Result.andThen_ok,jp,asAgg,Sem.run_pure,part,bZ.isAgg];cases ha:te.agg with
   |true=>
    simp only[ha,W4]at hs⊢;split at hs
    .rename_i bg;injection hs with hs;subst hs;refine⟨.agg ((us.drop off).take te.ty.size).toArray,?_,_,rfl,(bV.drop off).take _⟩;simp[bZ.sizeOf,WY hp,ho]
    grind
   |false=>
    simp only[ha]at hs⊢;cases hc:cs[off]? with
    |none=>simp_all
    |some c=>
     simp[hc]at hs;subst hs;have ac:off<us.length:=by rw[bV.1];grind
     refine⟨us[off],?_,bV.2 off c _ hc (Xq ac)⟩;simp_all
 grind
end
end Go.Sx
namespace Go.Sx
set_option linter.unusedVariables false
set_option linter.unusedSimpArgs false
section
variable{w0:World}{F:CS}{nt:Slots}{G0 G:GH}{ν:Nat->Nu}{st:St}{a:Act}{w:World}{P:Program}{T:Tab}
theorem Wni{α:Type}{R:α->List Value->Prop}{n:Nat}(h:∀x c,R x c->c.length=n)(l:List α)(cs:List Value)(i:Nat)(d:α)(he:Wd2 R l cs)(hi:i<l.length):
  R (l.getD i d) ((cs.drop (i*n)).take n):=WlW h l cs i _ he (by simp_all)
theorem Wen{i:Int}{n:Nat}(h:inb i n=true):0<=i/\i<n:=by simpa [inb]using h
theorem Wd4{t et:TypeId}{te:TE}{k:IntKind}{n:Int}{b off len cap:Nat}(hu:P.underlying t=some (.slice et))(bZ:TEok P T et te)(hp:te.plain=true)(h0:0<=n)(h1:n<len):
  (Instr.indexAt t (.slice (some ⟨b,off,none⟩) len cap) (.int k n)).run P w= .ok (.pointer (some ⟨b,off+n.toNat*te.ty.size,none⟩)) w:=by
 simp[Instr.indexAt,asIntOf,Wl hu,h0,h1,bZ.sizeOf,WY hp,Wa1]
theorem Wtw(hT:Waj P T)(hh:HRel w0 F G ν st.objs st.nx w){t et:TypeId}{te:TE}{k:IntKind}{n:Int}{id:Nat}{u:Value}{r:AVal}(hu:P.underlying t=some (.slice et))(bZ:TEok P T et te)(hp:te.plain=true)
  (hx:AValRel G ν st.nx (.s (.one (.own id))) u) (h:obI te n id (Wp st.objs id)=some (true,r)):Gives P G ν st w (Instr.indexAt t u (.int k n)) r:=by
 obtain⟨⟨bU,hv⟩,_⟩:=hx;subst hv;unfold obI at h;split at h
 .rename_i e xs aH;split at h
  .rename_i he;simp only[Option.some.injEq,Prod.mk.injEq]at h;obtain⟨hb,rfl⟩:=h;obtain⟨h0,h1⟩:=Wen hb;obtain⟨S,ad,cF,ho⟩:=hh.obj aH;unfold Nu.hdr;cases bw:(ν id).blk with
   |none=>grind
   |some b=>
    refine⟨.pointer (some ⟨b,(ν id).off+n.toNat*te.ty.size,none⟩),Wd4 hu bZ hp h0 (by omega),⟨bU,by omega,b,bw,?_⟩,rfl⟩;rw[cF,he,WbI,Xbb]
  grind
 .rename_i e xs i p aH;split at h
  .rename_i he;simp only[Option.some.injEq,Prod.mk.injEq,Xi]at h;obtain⟨⟨hb,hi⟩,rfl⟩:=h;obtain⟨h0,h1⟩:=Wen hb;have hi:=Xcl hi;obtain⟨S,mH,ad,cF,ac,b,bw,gz,yu,ho⟩:=hh.obj aH;unfold Nu.hdr;simp only[bw];refine⟨.pointer (some ⟨b,(ν id).off+n.toNat*te.ty.size,none⟩),Wd4 hu bZ hp h0 (by omega),⟨mH,b,gz,?_⟩,rfl⟩;rw[yu,he,WbI,Xbb,hi]
  grind
 grind
theorem Wqx(hT:Waj P T)(hh:HRel w0 F G ν st.objs st.nx w){t et:TypeId}{te:TE}{k:IntKind}{n:Int}{id lo hi:Nat}{u:Value}{r:AVal}(hu:P.underlying t=some (.slice et))(bZ:TEok P T et te)(hp:te.plain=true)
  (hx:AValRel G ν st.nx (.s (.one (.vw id lo hi))) u) (h:WwY te n id lo hi (Wp st.objs id)=some (true,r)):Gives P G ν st w (Instr.indexAt t u (.int k n)) r:=by
 obtain⟨⟨bU,g1,g2,g3,hv⟩,_⟩:=hx;subst hv;unfold WwY at h;split at h
 .rename_i e xs aH;split at h
  .rename_i he;simp only[Option.some.injEq,Prod.mk.injEq]at h;obtain⟨hb,rfl⟩:=h;obtain⟨h0,h1⟩:=Wen hb;obtain⟨S,ad,cF,ho⟩:=hh.obj aH;unfold Nu.vhdr;cases bw:(ν id).blk with
   |none=>grind
   |some b=>
    simp only[bw]at ho;have bQ:(ν id).cap≠lo:=by omega
    rw[Wc bQ];refine⟨.pointer (some ⟨b,(ν id).off+lo*(ν id).esz+n.toNat*te.ty.size,none⟩),Wd4 hu bZ hp h0 h1,⟨bU,by omega,b,bw,?_⟩,rfl⟩;rw[cF,he,WbI,Xbb,Xcs,Xba]
  grind
 grind
theorem Wq0(hT:Waj P T)(hh:HRel w0 F G ν st.objs st.nx w){t et:TypeId}{te:TE}{k:IntKind}{n:Int}{m id:Nat}{u:Value}{r:AVal}(hu:P.underlying t=some (.array m et))(bZ:TEok P T et te)(hp:te.plain=true)
  (hx:AValRel G ν st.nx (.s (.one (.aptr id))) u) (h:WwM te n m id (Wp st.objs id)=some (true,r)):Gives P G ν st w (Instr.indexAt t u (.int k n)) r:=by
 obtain⟨⟨bU,b,bw,hv⟩,_⟩:=hx;subst hv;unfold WwM at h;split at h
 .rename_i e xs aH;split at h
  .rename_i he;simp only[Option.some.injEq,Prod.mk.injEq,Xi,Wi]at h;obtain⟨⟨hb,hm⟩,rfl⟩:=h;obtain⟨h0,h1⟩:=Wen hb;obtain⟨S,ad,cF,ho⟩:=hh.obj aH;refine⟨.pointer (some ⟨b,(ν id).off+n.toNat*e.size,none⟩),?_,⟨bU,by omega,b,bw,by rw[cF,Xbb]⟩,rfl⟩;have:((0:Int)<=n/\n<(m:Int)):=⟨h0,h1⟩;simp only[Instr.indexAt,asIntOf,Sem.run_bind,Sem.run_pure,Result.andThen_ok,Wl hu,Instr.sureAddr,Wf this,bZ.sizeOf,WY hp,Wa1,he]
  grind
 grind
theorem Whu(hT:Waj P T)(hh:HRel w0 F G ν st.objs st.nx w){t:TypeId}{x i:AVal}{u v:Value}{r:AVal}(hx:AValRel G ν st.nx x u)(hi:AValRel G ν st.nx i v)
  (h:Wci T st t x i=some (true,r)):Gives P G ν st w (Instr.indexAt t u v) r:=by
 unfold Wci at h;split at h
 .rename_i ty ag et n hl hn;obtain⟨k,rfl⟩:=Wf2 _ _ _ hi hn;have hu:=(hT _ _ hl).und.2.1;split at h
  .rename_i te bg;split at h
   .rename_i hp;split at h
    .rename_i e l;split at h
     .rename_i he;simp only[Option.some.injEq,Prod.mk.injEq]at h;obtain⟨hb,rfl⟩:=h;obtain⟨h0,h1⟩:=Wen hb;obtain⟨⟨z,hz,hr⟩,_⟩:=hx;simp at hz;subst hz;rcases hr with⟨rfl,dZ⟩|⟨b,off,cap,cs,rfl,h2,h3,h4,h5⟩|⟨a,cap,rfl,dZ⟩
      rotate_left 2
      .grind
      .grind
      .have ac:n.toNat<Xb l:=by omega
       refine⟨_,Wd4 hu (hT _ _ bg) hp h0 h1,⟨b,off+n.toNat*e.size,_,?_,Wni (λx c hc=>W6 e x c hc) l cs n.toNat e.dflt h4 ac,?_⟩,rfl⟩
       .grind
       .intro j v hj;rw[Xbp]at hj;split at hj
        .rw[Xbo]at hj;rw[Xba];exact h5 _ _ hj
        grind
     grind
    .simp at h
    .exact Wtw hT hh hu (hT _ _ bg) hp hx h
    .exact Wqx hT hh hu (hT _ _ bg) hp hx h
    grind
   grind
  grind
 .rename_i ty ag m et n hl hn;obtain⟨k,rfl⟩:=Wf2 _ _ _ hi hn;have hu:=(hT _ _ hl).und.2.1;split at h
  .rename_i te bg;split at h
   .rename_i hp;split at h
    .exact Wq0 hT hh hu (hT _ _ bg) hp hx h
    grind
   grind
  grind
 grind
theorem Wv8(s:List UInt8)(n:Nat)(h:n<s.length):(ByteArray.mk s.toArray)[n]?=some (s.getD n 0):=by
 grind [ByteArray.getElem?_lt',ByteArray.size,ByteArray.getElem_eq_getElem_data]
theorem WkR{k:IntKind}:∀(cs:List Cell) (us:List Value) (l:List Int),WbN k cs=some l->CellsRel G ν st.nx cs us->l.length=cs.length/\∀j,j<us.length->us[j]?=some (.int k (Xc l j (0:Int)))
 | [],us,l,h,hc=>by
  simp only[WbN]at h;injection h with h;subst h;have:=hc.1;simp_all
 | .val (.int k') d::cs,us,l,h,hc=>by
  simp only[WbN]at h;split at h
  .rename_i hk;subst hk;cases hi:WbN k' cs with
   |none=>simp_all
   |some l'=>
    rw[hi]at h;simp only[Xca]at h;injection h with h;subst h;cases us with
    |nil=>have:=hc.1;grind
    |cons u us=>
     have h0:=(hc.2 0 _ u rfl rfl).1;have hu:u= .int k' d:=by grind [CellRel,Enc]
     obtain⟨h1,h2⟩:=WkR cs us l' hi ⟨by have:=hc.1;simp_all,λj c v hj hv=>hc.2 (j+1) c v (by simp_all) (by simp_all)⟩
     grind
  .cases h
 | .val .bool d::cs,us,l,h,_=>by simp[WbN]at h
 | .val .str d::cs,us,l,h,_=>by simp[WbN]at h
 | .val (.slice _) d::cs,us,l,h,_=>by simp[WbN]at h
 | .val (.own _) d::cs,us,l,h,_=>by simp[WbN]at h
 | .val (.prod _ _) d::cs,us,l,h,_=>by simp[WbN]at h
 | .nils::cs,us,l,h,_=>by simp[WbN]at h
 | .own _::cs,us,l,h,_=>by simp[WbN]at h
 | .vw _ _ _::cs,us,l,h,_=>by simp[WbN]at h
 | .aptr _::cs,us,l,h,_=>by simp[WbN]at h
 | .ptr _ _::cs,us,l,h,_=>by simp[WbN]at h
 | .eptr _ _ _::cs,us,l,h,_=>by simp[WbN]at h
 | .rptr _ _ _::cs,us,l,h,_=>by simp[WbN]at h
 | .clos _ _::cs,us,l,h,_=>by simp[WbN]at h
 | .junk::cs,us,l,h,_=>by simp[WbN]at h
theorem Wmc(hT:Waj P T){t:TypeId}{x i:AVal}{u v:Value}{r:AVal}(hx:AValRel G ν st.nx x u)(hi:AValRel G ν st.nx i v)
  (h:Wph T t x i=some (true,r)):Gives P G ν st w (Instr.index t u v) r:=by
 unfold Wph at h;split at h
 .rename_i s n hl hn;obtain⟨k,rfl⟩:=Wf2 _ _ _ hi hn;have:=WlD hx;subst this;have hu:=(hT _ _ hl).und.2;simp only[Option.some.injEq,Prod.mk.injEq]at h;obtain⟨hb,rfl⟩:=h;obtain⟨h0,h1⟩:=Wen hb;have ac:n.toNat<Xb s:=by omega
  refine⟨.int .u8 ((Xc s n.toNat 0).toNat:Int),?_,WN rfl⟩;simp only[Instr.index,asIntOf,Sem.run_bind,Sem.run_pure,Result.andThen_ok,Wl hu,Wf h0,Wv8 s n.toNat ac]
 .rename_i k ag m et cs n hl hn;split at h
  .rename_i k' bg;split at h
   .rename_i l qk;split at h
    .rename_i hc;obtain⟨rfl,hm⟩:=hc;obtain⟨kk,rfl⟩:=Wf2 _ _ _ hi hn;obtain⟨us,rfl,bV⟩:=hx;simp only[Option.some.injEq,Prod.mk.injEq]at h;obtain⟨hb,rfl⟩:=h;obtain⟨h0,h1⟩:=Wen hb;obtain⟨ad,gZ⟩:=WkR _ _ _ qk bV;have hu:=(hT _ _ hl).und.2.1;have wQ:=hT _ _ bg;have pL:(Go.isAgg et).run P w= .ok false w:=wQ.isAgg;have ct:(Go.sizeOf et).run P w= .ok 1 w:=wQ.sizeOf;have ac:n.toNat<us.length:=by rw[bV.1];omega
     have jV:us[n.toNat]?=some (.int k' (Xc l n.toNat (0:Int))):=gZ _ ac;refine⟨.int k' (Xc l n.toNat (0:Int)),?_,WN rfl⟩;simp only[Instr.index,asIntOf,Sem.run_bind,Sem.run_pure,Result.andThen_ok,Wl hu,h0,h1,and_self,W4,ct,part,pL,Nat.mul_one];simp[jV]
    grind
   grind
  grind
 grind
theorem WjM{k:IntKind}{n:Int}{y:Nat}{c:BoundsCode}(h0:0<=n)(h1:n<=y):(Instr.sliceBound (.int k n) y c).run P w= .ok n.toNat w:=by
 simp[Instr.sliceBound,asIntOf,h0,h1]
inductive BRel:Option Int->Option Value->Prop where
 |none:BRel .none .none
 |some (k:IntKind) (n:Int):BRel (.some n) (.some (.int k n))
theorem Wdl(h:Rel w0 F nt G0 G ν st a w)(o:Option Operand)(r:Option Int)(he:WmI st o=some r):BRel r (o.map a.eval):=by
 cases o with
 |none=>simp[WmI]at he;subst he;exact .none
 |some x=>
  simp only[WmI]at he;cases hv:ev st x with
  |none=>simp_all
  |some av=>
   simp only[hv,Option.bind_some]at he;cases hi:asI av with
   |none=>simp_all
   |some n=>
    simp[hi]at he;subst he;obtain⟨k,hk⟩:=Wf2 _ _ _ (WL h x av hv) hi;simp only[Xca,hk];exact .some k n
theorem Wc4{isSlice:Bool}{n cap:Nat}{lo hi:Option Int}{vl vh:Option Value}(hl:BRel lo vl)(hh:BRel hi vh)(hc:n<=cap)(hb:(Wc5 n lo hi).1=true):
  (Instr.sliceBounds isSlice n cap vl vh none).run P w= .ok ((Wc5 n lo hi).2.1,(Wc5 n lo hi).2.2,cap) w/\(Wc5 n lo hi).2.1<=(Wc5 n lo hi).2.2/\(Wc5 n lo hi).2.2<=n:=by
 cases hl<;>cases hh<;>simp only[Wc5,Xi,Wi]at hb⊢
 .simp[Instr.sliceBounds]
 .grind [Instr.sliceBounds,Sem.run_bind,Sem.run_pure,Result.andThen_ok,WjM]
 .grind [Instr.sliceBounds,Sem.run_bind,Sem.run_pure,Result.andThen_ok,WjM]
 .rename_i k l k' h;obtain⟨⟨⟨h1,h2⟩,h3⟩,h4⟩:=hb;refine⟨?_,by omega,by omega⟩;simp only[Instr.sliceBounds,Sem.run_bind,Sem.run_pure,Result.andThen_ok]
  grind [WjM,Result.andThen_ok]
theorem Wmu{α:Type}(l:List α)(lo hi:Option Int):Wu3 l lo hi=(l.take (Wc5 l.length lo hi).2.2).drop (Wc5 l.length lo hi).2.1:=by
 cases lo<;>cases hi<;>simp[Wu3,Wc5]
theorem Wws(s:List UInt8)(l h:Nat):(ByteArray.mk s.toArray).extract l h=⟨((s.take h).drop l).toArray⟩:=by
 apply ByteArray.ext;simp[ByteArray.data_extract,List.extract_eq_take_drop,List.drop_take]
theorem Ws4{t:TypeId}{lo hi:Option Int}{vl vh:Option Value}(hu:P.underlying t=some .string)(s:List UInt8)(hl:BRel lo vl)(hh:BRel hi vh)(hb:(Wc5 s.length lo hi).1=true):
  (Instr.sliceAt t (.string ⟨s.toArray⟩) vl vh none).run P w= .ok (.string ⟨(Wu3 s lo hi).toArray⟩) w:=by
 have ct:(ByteArray.mk (List.toArray s)).size=Xb s:=by simp[ByteArray.size]
 obtain⟨hr,h3,h4⟩:=Wc4 (P:=P) (w:=w) (isSlice:=false) (cap:=Xb s) hl hh (Xm _) hb;simp only[Instr.sliceAt,Instr.slice,Sem.run_bind,Wl hu,Result.andThen_ok,Option.isSome_none,Bool.false_eq_true,W7,Sem.run_pure,ct,hr,Wws,Wmu]
theorem WuU{t et:TypeId}{te:TE}{lo hi:Option Int}{vl vh:Option Value}{α:Type}{R:α->List Value->Prop}{n:Nat}(hR:∀x c,R x c->c.length=n)(hu:P.underlying t=some (.slice et))(bZ:TEok P T et te)(hp:te.plain=true)(hn:te.ty.size=n)
  (xs:List α) {v:Value} (hx:Wkc G R xs v) (hl:BRel lo vl) (hh:BRel hi vh) (hb:(Wc5 xs.length lo hi).1=true):
  ∃v',(Instr.sliceAt t v vl vh none).run P w= .ok v' w/\Wkc G R (Wu3 xs lo hi) v':=by
 rcases hx with⟨rfl,bR⟩|⟨b,off,cap,cs,rfl,h3,h4,h5,h6⟩|⟨a,cap,rfl,bR⟩
 rotate_left 2
 .subst bR;obtain⟨hr,h3,h4⟩:=Wc4 (P:=P) (w:=w) (isSlice:=true) (cap:=cap) hl hh (Xch _) hb;have e1:(Wc5 0 lo hi).2.2=0:=by omega
  have e2:(Wc5 0 lo hi).2.1=0:=by omega
  rw[e1,e2]at hr;refine⟨.slice (some a) 0 cap,?_,.inr (.inr ⟨a,cap,rfl,?_⟩)⟩
  .simp only[Instr.sliceAt,Instr.slice,Sem.run_bind,Wl hu,Result.andThen_ok,hr,bZ.sizeOf,Sem.run_pure,Xca];simp[Addr.add]
  .rw[Wmu];simp
 .subst bR;obtain⟨hr,h3,h4⟩:=Wc4 (P:=P) (w:=w) (isSlice:=true) (cap:=0) hl hh (Xm _) hb;refine⟨.slice none 0 0,?_,.inl ⟨rfl,?_⟩⟩
  .have e1:(Wc5 0 lo hi).2.2=0:=by omega
   have e2:(Wc5 0 lo hi).2.1=0:=by omega
   rw[e1,e2]at hr;simp[Instr.sliceAt,Instr.slice,Wl hu,hr,bZ.sizeOf]
  .rw[Wmu];simp
 .obtain⟨hr,h7,h8⟩:=Wc4 (P:=P) (w:=w) (isSlice:=true) (cap:=cap) hl hh h3 hb;have yv:=Wmu xs lo hi;generalize (Wc5 xs.length lo hi).2.1=p at*;generalize (Wc5 xs.length lo hi).2.2=q at*;have ct:te.size=n:=by rw[WY hp,hn]
  have ad:(Wu3 xs lo hi).length=q-p:=by simp_all
  refine⟨.slice (some (if cap=p then⟨b,off,none⟩else⟨b,off+p*n,none⟩)) (q-p) (cap-p),?_,.inr (.inl ?_)⟩
  .simp only[Instr.sliceAt,Instr.slice,Sem.run_bind,Wl hu,Result.andThen_ok,hr,bZ.sizeOf,Sem.run_pure,ct,Xca,Wa1];split<;>rfl
  .by_cases hc:cap=p
   .have h0:Wu3 xs lo hi= []:=Xx (by omega);refine⟨b,off,cap-p,[],?_,by omega,by omega,?_,λj v hj=>by simp at hj⟩
    .rw[Wf hc];rw[ad]
    .rw[h0];rfl
   .refine⟨b,off+p*n,cap-p,(cs.take (q*n)).drop (p*n),?_,by omega,by omega,?_,?_⟩
    .rw[Wc hc,ad]
    .grind [We7,We4]
    .intro j v hj;rw[Xbo,Xbp]at hj;split at hj
     .rw[Xba];exact h6 _ _ hj
     grind
theorem WlR(hT:Waj P T){t:TypeId}{x:AVal}{u:Value}{vl vh:Option Value}{lo hi:Option Operand}{r:AVal}(hx:AValRel G ν st.nx x u)
  (hl:∀l,WmI st lo=some l->BRel l vl) (hh:∀l,WmI st hi=some l->BRel l vh)
  (h:Wlt T st t x lo hi=some (true,r)):Gives P G ν st w (Instr.sliceAt t u vl vh none) r:=by
 unfold Wlt at h;split at h
 .rename_i s l h' sr h1 h2;have:=WlD hx;subst this;simp only[Option.some.injEq,Prod.mk.injEq]at h;obtain⟨hb,rfl⟩:=h;exact⟨_,Ws4 (hT _ _ sr).und.2 s (hl _ h1) (hh _ h2) hb,WN rfl⟩
 .rename_i ty ag et e xs l h' sr h1 h2;have hu:=(hT _ _ sr).und.2.1;split at h
  .rename_i te bg;split at h
   .rename_i yw;obtain⟨he,hp⟩:=yw;simp only[Option.some.injEq,Prod.mk.injEq]at h;obtain⟨hb,rfl⟩:=h;obtain⟨⟨z,hz,hr⟩,_⟩:=hx;simp at hz;subst hz;obtain⟨v',h3,h4⟩:=WuU (P:=P) (T:=T) (w:=w) (λx c hc=>W6 e x c hc) hu (hT _ _ bg) hp (by rw[he]) xs hr (hl _ h1) (hh _ h2) hb;exact⟨v',h3,WN ⟨v',rfl,h4⟩⟩
   grind
  grind
 grind
end
end Go.Sx
namespace Go.Sx
set_option linter.unusedVariables false
set_option linter.unusedSimpArgs false
section
variable{w0:World}{F:CS}{nt:Slots}{G0 G:GH}{ν:Nat->Nu}{st:St}{a:Act}{w:World}{P:Program}{T:Tab}
theorem WjC{k:IntKind}:∀(l:List Int) (cs:List Value),Wd2 (Enc G (.int k)) l cs->cs=l.map (Value.int k)
 | [],cs,h=>h
 |x::l,cs,⟨c1,c2,he,h1,h2⟩=>by
  have:=WjC l c2 h2
  grind [Enc]
theorem Woj{t e:TypeId}{dst:TypeId}(hs:P.underlying t=some (.slice e))(he:P.underlying e=some (.int .u8))(hd:P.underlying dst=some .string){b off cap:Nat}(l:List Int)
  (hm:∀j v,(l.map (Value.int .u8))[j]?=some v->w.cell? ⟨b,off+j,none⟩=some v):
  (convert t dst (.slice (some ⟨b,off,none⟩) l.length cap)).run P w= .ok (.string ⟨(Wt3 l).toArray⟩) w:=by
 rw[run_convert_bytes_string w t dst e _ _ _ hs he hd];have h1:=run_loadCells_list (P:=P) w ⟨b,off,none⟩ (l.map (Value.int .u8)) (λj v hj=>by grind [Wa1]);rw[Xu]at h1;rw[run_bytesToString w _ _ _ l h1,foldl_push_bytes];simp[ByteArray.ext,Wt3]
theorem WjD{t e:TypeId}{dst:TypeId}(hs:P.underlying t=some (.slice e))(he:P.underlying e=some (.int .u8))(hd:P.underlying dst=some .string)(l c:Nat):
  (convert t dst (.slice none l c)).run P w= .ok (.string ⟨#[]⟩) w:=by
 rw[run_convert_bytes_string w t dst e _ _ _ hs he hd];rfl
theorem Wqz{t e:TypeId}{dst:TypeId}(hs:P.underlying t=some (.slice e))(he:P.underlying e=some (.int .u8))(hd:P.underlying dst=some .string)(a:Addr)(c:Nat):
  (convert t dst (.slice (some a) 0 c)).run P w= .ok (.string ⟨#[]⟩) w:=by
 rw[run_convert_bytes_string w t dst e _ _ _ hs he hd];have h1:=run_loadCells_list (P:=P) w a ([].map (Value.int .u8)) (λj v hj=>by simp at hj);simp only[Xcg,List.length_nil]at h1;rw[run_bytesToString w _ _ _ [] (by simp_all),foldl_push_bytes];rfl
theorem WnU(hT:Waj P T)(hh:HRel w0 F G ν st.objs st.nx w){src dst:TypeId}{x:AVal}{u:Value}{r:AVal}(hx:AValRel G ν st.nx x u)
  (h:Wkt T st src dst x=some (true,r)):Gives P G ν st w (convert src dst u) r:=by
 unfold Wkt Wxd at h;split at h
 .rename_i k0 k k1 n h1 h2;have:=Whj hx;subst this;have hs:=(hT _ _ h1).und.2;have hd:=(hT _ _ h2).und.2;simp at h;subst h;exact⟨.int k (k.wrap n),by simp_all [convert,Wl,Conv.intToInt],WN rfl⟩
 .rename_i s h1 h2;have:=WlD hx;subst this;have hs:=(hT _ _ h1).und.2;have hd:=(hT _ _ h2).und.2;simp at h;subst h;exact⟨_,by simp[convert,Wl hs,Wl hd]<;>rfl,WN rfl⟩
 .rename_i ty ag et c h1 h2;have hs:=(hT _ _ h1).und.2.1;have hd:=(hT _ _ h2).und.2;split at h
  .rename_i h3;have he:=(hT _ _ h3).und.2;split at h
   .rename_i l;simp at h;subst h;obtain⟨⟨z,hz,hr⟩,_⟩:=hx;simp at hz;subst hz;rcases hr with⟨rfl,bR⟩|⟨b,off,cap,cs,rfl,h4,h5,h6,h7⟩|⟨a,cap,rfl,bR⟩
    rotate_left 2
    .refine⟨_,Wqz hs he hd a _,WN ?_⟩;rw[bR];rfl
    .refine⟨_,WjD hs he hd _ _,WN ?_⟩;rw[bR];rfl
    .have bV:=WjC _ _ h6;exact⟨_,Woj hs he hd l (λj v hj=>hh.g (h7 j v (by simp_all))),WN rfl⟩
   .simp at h;subst h;obtain⟨hv,_⟩:=hx;simp only[CellRel]at hv;subst hv;exact⟨_,WjD hs he hd _ _,WN rfl⟩
   .rename_i id;split at h
    .rename_i xs aH;simp at h;subst h;obtain⟨⟨bU,hv⟩,_⟩:=hx;subst hv;obtain⟨S,ho⟩:=hh.obj aH;unfold Nu.hdr;cases bw:(ν id).blk with
     |none=>
      have hn:=Wcx ho bw;refine⟨_,WjD hs he hd _ _,WN ?_⟩;rw[hn];rfl
     |some b=>
      obtain⟨ad,h4,h5,h6,cs,h7,h8,h9⟩:=WdV (e:=.int .u8) rfl ho bw;have bV:=WjC _ _ h7;simp only[←ad];exact⟨_,Woj hs he hd xs (λj v hj=>h8 j v (by simp_all)),WN rfl⟩
    grind
   grind
  grind
 grind
theorem WvH{x:Operand}{o:Oper}(ho:o.op= .nilCheck x){ρ:Operand->Value}{p:Addr}(h:ρ x= .pointer (some p)):(execOp ρ o).run P w= .ok (.value (.pointer (some p))) w:=by
 simp[execOp,ho,h]
theorem Ws9{x r:AVal}{u:Value}(hx:AValRel G ν st.nx x u)(h:WqV st x=some (true,r)):r=x/\∃p,u= .pointer (some p):=by
 unfold WqV at h;split at h
 .simp at h;subst h;obtain⟨⟨b,o,cs,rfl,_⟩,_⟩:=hx;simp_all
 .split at h
  .simp at h;subst h;obtain⟨⟨_,b,_,rfl⟩,_⟩:=hx;simp_all
  grind
 .split at h
  .simp at h;subst h;obtain⟨⟨_,_,b,_,rfl⟩,_⟩:=hx;simp_all
  grind
 .split at h
  .simp at h;subst h;obtain⟨⟨_,b,_,rfl⟩,_⟩:=hx;simp_all
  grind
 grind
theorem WkT(hr:Rel w0 F nt G0 G ν st a w):∀(l:List Operand) (ids:List Nat),Wgp st l=some ids->
  ids.length=l.length/\∀(j id:Nat) (u:Value),ids[j]?=some id->(l.map a.eval)[j]?=some u->id<st.nx/\u.oneCell'=true/\∃b,(ν id).blk=some b/\u= .pointer (some ⟨b,(ν id).off+0,none⟩)
 | [],ids,h=>by simp[Wgp]at h;simp_all
 |o::l,ids,h=>by
  simp only[Wgp]at h;split at h
  .rename_i id r h1 h2;injection h with h;subst h;obtain⟨h3,h4⟩:=WkT hr l r h2;refine⟨by simp[h3],λj i u hj hu=>?_⟩;cases j with
   |zero=>
    simp at hj hu;subst hj hu;obtain⟨⟨g1,g2⟩,g3⟩:=WL hr o _ h1;simp_all
   |succ j=>grind
  grind
theorem WhG(hT:Waj P T)(hh:HRel w0 F G ν st.objs st.nx w){t:TypeId}{x:AVal}{u:Value}{r:AVal}(hx:AValRel G ν st.nx x u)(h:Wh4 T st t x=some r):
  Gives P G ν st w (Instr.loadAt t u) r:=by
 unfold Wh4 at h;split at h
 .rename_i te hl;split at h
  .rename_i hp;split at h
   .rename_i id off;split at h
    .rename_i cs aH;obtain⟨⟨_,b,hb,rfl⟩,_⟩:=hx;obtain⟨S,b',vs,cJ,bi,aM,bV,_⟩:=hh.obj aH;rw[hb]at cJ;injection cJ with cJ;subst cJ;obtain⟨v,h3,h4⟩:=Whb (hT _ _ hl) hp bV (o:=(ν id).off) aM h;exact⟨v,by grind [Instr.loadAt,Instr.sureAddr],h4⟩
    grind
   .rename_i id i off;split at h
    .rename_i e xs aH;obtain⟨⟨_,ac,b,hb,rfl⟩,_⟩:=hx;obtain⟨S,ho⟩:=hh.obj aH;have cF:=ho.2.1;obtain⟨c,p,h1,h2⟩:=WsO ho hb (by rw[ho.1];exact ac);obtain⟨v,h9,cS⟩:=Whb (hT _ _ hl) hp (Wim (ν:=ν) (nx:=st.nx) e _ _ _ h1) (w:=w) (b:=b) (o:=(ν id).off+i*e.size) h2 h;exact⟨v,by grind [Instr.loadAt,Instr.sureAddr,Xba],cS⟩
    grind
   .rename_i t' d off;obtain⟨⟨b,o,cs,rfl,h1,h2⟩,_⟩:=hx;obtain⟨v,h9,cS⟩:=Whb (hT _ _ hl) hp (WaO (G:=G) (ν:=ν) (nx:=st.nx) t' d _ h1) (w:=w) (b:=b) (o:=o) (λj v hj=>hh.g (h2 j v hj)) h;exact⟨v,by grind [Instr.loadAt,Instr.sureAddr],cS⟩
   grind
  grind
 grind
theorem Wp5{G:GH}{k:IntKind}:∀(xs:List Int) (cs:List Value),Wd2 (Enc G (.int k)) xs cs->cs=xs.map λx=>Value.int k x
 | [],cs,h=>h
 |x::xs,cs,⟨c1,c2,h1,h2,h3⟩=>by
  have:c1= [.int k x]:=h2;rw[h1,this,Wp5 xs c2 h3];rfl
theorem Wqg{k:IntKind}{xs:List Int}:∀(n i j:Nat),(Wu5 k xs i n)[j]?=if j<n then some (.val (.int k) (xs.getD (i+j) (0:Int)))else none
 |0,i,j=>by simp[Wu5]
 |n+1,i,j=>by
  cases j with
  |zero=>simp[Wu5]
  |succ j=>
   rw[Wu5,List.getElem?_cons_succ,Wqg n (i+1) j,show i+1+j=i+(j+1) by omega];simp_all
theorem WpK{k:IntKind}{xs:List Int}:∀(n i:Nat),(Wu5 k xs i n).length=n
 |0,i=>rfl
 |n+1,i=>by rw[Wu5,Xr,WpK n (i+1)]
theorem Wl8(hT:Waj P T)(hh:HRel w0 F G ν st.objs st.nx w){t:TypeId}{x:AVal}{u:Value}{r:AVal}(hx:AValRel G ν st.nx x u)(h:WfX T st t x=some (true,r)):
  Gives P G ν st w (Instr.loadAt t u) r:=by
 unfold WfX at h;split at h
 .rename_i k n et hl;split at h
  .rename_i id;split at h
   .rename_i k' xs aH;change List Int at xs;split at h
    .rename_i hk;subst hk;simp only[Option.some.injEq,Prod.mk.injEq,Wi]at h;obtain⟨hn,rfl⟩:=h;obtain⟨⟨_,b,hb,rfl⟩,_⟩:=hx;obtain⟨S,ho⟩:=hh.obj aH;obtain⟨ad,h4,h5,h6,cs,h7,h8,h9⟩:=WdV (e:=.int k') rfl ho hb;have bV:=Wp5 _ _ h7;have bZ:=hT _ _ hl;have pL:(Go.isAgg t).run P w= .ok true w:=bZ.isAgg;have ct:(Go.sizeOf t).run P w= .ok n w:=by have:=bZ.sizeOf (w:=w);grind [TE.size,Ty.size]
     have c7:cs.length=n:=by rw[bV,Xu];exact hn
     have hr:=run_loadCells_list (P:=P) w ⟨b,(ν id).off,none⟩ cs (λj v hj=>by rw[Wa1];exact h8 j v hj);rw[c7]at hr;refine⟨.agg cs.toArray,?_,cs,rfl,?_,λj c v hj hv=>?_⟩
     .simp_all [Instr.loadAt,Instr.sureAddr,Sem.run_bind,Sem.run_pure,Result.andThen_ok,loadVar,W4]
     .rw[WpK,c7]
     .rw[Wqg]at hj;split at hj
      .rename_i tB;injection hj with hj;subst hj;rw[bV,Xak]at hv;have wR:j<Xb xs:=Nat.lt_of_lt_of_eq tB hn.symm;rw[Xq wR]at hv;simp only[Xca]at hv;injection hv with hv;subst hv;refine⟨?_,rfl⟩;simp[CellRel,Enc,wR]
      .cases hj
    grind
   grind
  grind
 grind
end
section
variable{w0:World}{F:CS}{nt:Slots}{G0 G:GH}{ν:Nat->Nu}{st:St}{a:Act}{w:World}{P:Program}{T:Tab}
theorem Wcj{o:Oper}{s:Sem Value}{r:AVal}(he:execOp a.eval o=(do pure (.value (←s))))(h:Gives P G ν st w s r):
  ∃v,(execOp a.eval o).run P w= .ok (.value v) w/\AValRel G ν st.nx r v:=by
 obtain⟨v,h1,h2⟩:=h;simp_all
theorem WcG{α β:Type}{x:Option α}{f:α->Option (Bool×β)}{r:β}(h:x.bind f=some (true,r)):∃y,x=some y/\f y=some (true,r):=by
 cases x with
 |none=>simp at h
 |some y=>simp_all
theorem Wor(hT:Waj P T)(hh:HRel w0 F G ν st.objs st.nx w){op:BinOp}{t:TypeId}{x y:AVal}{u v:Value}{r:AVal}(ox oy:Operand)(hx:AValRel G ν st.nx x u)(hy:AValRel G ν st.nx y v)
  (h:WqE T st op t x y=some (true,r)):Gives P G ν st w (do eqGuard op t ox oy u v;Go.binOp op t u v) r:=by
 unfold WqE at h;split at h
 .rename_i id;split at h
  .rename_i te e hl;have hu:=(hT _ _ hl).und.2.1;obtain⟨⟨_,hv⟩,_⟩:=hx;subst hv;obtain⟨hn,_⟩:=hy;simp only[CellRel]at hn;subst hn;split at h
   .rename_i e' xs ho;have key:∀n:Nat,Xgh 0 xs.length=true->(Op.equalIn (n+1) t (ν id).hdr (.slice none 0 0)).run P w= .ok false w:=λn hb=>by
     have bQ:xs≠ []:=by rintro rfl;simp at hb
     obtain⟨S,aH⟩:=hh.obj ho;have hd:∃g,(ν id).hdr= .slice (some g) (ν id).len (ν id).cap:=by
      unfold Nu.hdr;obtain⟨ad,_,aH⟩:=aH;cases hb:(ν id).blk with
      |none=>simp_all
      |some g=>simp_all
     obtain⟨g,hd⟩:=hd;simp_all [Op.equalIn,Wl]
    have hg:∀op,(eqGuard op t ox oy (ν id).hdr (.slice none 0 0)).run P w= .ok () w:=λop=>WbS (λcs=>by unfold Nu.hdr;split<;>exactλh=>nomatch h) (by unfold Nu.hdr;split<;>exactλh=>nomatch h);split at h
    .simp only[Option.some.injEq,Prod.mk.injEq]at h;obtain⟨h1,rfl⟩:=h;exact⟨.bool false,by simp[hg,Go.binOp,Op.equal,Op.maxDepth,show(Op.equalIn 10000 t (ν id).hdr (.slice none 0 0)).run P w= .ok false w from key 9999 h1],WN rfl⟩
    .simp only[Option.some.injEq,Prod.mk.injEq]at h;obtain⟨h1,rfl⟩:=h;exact⟨.bool true,by simp[hg,Go.binOp,Op.equal,Op.maxDepth,show(Op.equalIn 10000 t (ν id).hdr (.slice none 0 0)).run P w= .ok false w from key 9999 h1],WN rfl⟩
    grind
   grind
  grind
 grind
theorem WqG(hT:Waj P T)(hr:Rel w0 F nt G0 G ν st a w){o:Oper}{r:AVal}(h:Wae T st o.op=some (true,r)):
  ∃v,(execOp a.eval o).run P w= .ok (.value v) w/\AValRel G ν st.nx r v:=by
 obtain⟨dst,op,type,pos,after,guard⟩:=o;simp only at h;unfold Wae at h;split at h
 .rename_i x;cases hx:ev st x with
  |none=>simp_all
  |some v=>simp[hx]at h;subst h;exact⟨_,rfl,WL hr x _ hx⟩
 .rename_i x;cases hx:ev st x with
  |none=>simp_all
  |some v=>simp[hx]at h;subst h;exact⟨_,rfl,WL hr x _ hx⟩
 .rename_i c x y;split at h
  .rename_i p h1;cases hc:ev st c with
   |none=>simp_all
   |some cv=>
    simp[hc]at h1;have e1:=Wot _ _ _ (WL hr c _ hc) h1;split at h
    .rename_i m n h2 h3;simp at h;subst h;have e2:=Wmr (WL hr x _ h2);have e3:=Wmr (WL hr y _ h3);refine⟨.bool (bif p then m else n),?_,WN rfl⟩;simp only[execOp,e1,e2,e3,asBool];cases p<;>rfl
    .cases p with
     |true=>
      cases hx:ev st x with
      |none=>simp_all
      |some v=>simp[hx]at h;subst h;exact⟨a.eval x,by simp_all [execOp,asBool],WL hr x _ hx⟩
     |false=>
      cases hx:ev st y with
      |none=>simp_all
      |some v=>simp[hx]at h;subst h;exact⟨a.eval y,by simp_all [execOp,asBool],WL hr y _ hx⟩
  grind
 .rename_i t x;obtain⟨y,hy,h⟩:=WcG h;cases ha:WfX T st t y with
  |some z=>rw[ha]at h;simp only[]at h;injection h with h;subst h;exact Wcj rfl (Wl8 hT hr.h (WL hr x _ hy) ha)
  |none=>
   rw[ha]at h;cases hl:Wh4 T st t y with
   |none=>simp_all
   |some z=>simp[hl]at h;subst h;exact Wcj rfl (WhG hT hr.h (WL hr x _ hy) hl)
 .rename_i x;obtain⟨y,hy,h⟩:=WcG h;obtain⟨rfl,p,hp⟩:=Ws9 (WL hr x _ hy) h;exact⟨_,WvH rfl hp,by grind [WL]⟩
 .rename_i op t x y _;split at h
  .rename_i u v h1 h2;split at h
   .rename_i z hz;injection h with h;subst h;exact Wcj rfl (Wor hT hr.h x y (WL hr x _ h1) (WL hr y _ h2) hz)
   .exact Wcj rfl (WoF hT x y (WL hr x _ h1) (WL hr y _ h2) h)
  grind
 .rename_i op t x;obtain⟨y,hy,h⟩:=WcG h;exact Wcj rfl (Wrj (WL hr x _ hy) h)
 .rename_i src dst x;obtain⟨y,hy,h⟩:=WcG h;exact Wcj rfl (WnU hT hr.h (WL hr x _ hy) h)
 .rename_i t x lo hi;obtain⟨y,hy,h⟩:=WcG h;exact Wcj rfl (WlR hT (WL hr x _ hy) (λl hl=>Wdl hr lo l hl) (λl hl=>Wdl hr hi l hl) h)
 .rename_i s x f;obtain⟨y,hy,h⟩:=WcG h;exact Wcj rfl (Whn hT hr.h (WL hr x _ hy) h)
 .rename_i s x f;obtain⟨y,hy,h⟩:=WcG h;exact Wcj rfl (Wli hT (WL hr x _ hy) h)
 .rename_i t x i;split at h
  .rename_i u v h1 h2;exact Wcj rfl (Whu hT hr.h (WL hr x _ h1) (WL hr i _ h2) h)
  grind
 .rename_i t x i;split at h
  .rename_i u v h1 h2;exact Wcj rfl (Wmc hT (WL hr x _ h1) (WL hr i _ h2) h)
  grind
 .rename_i t ix;split at h
  .rename_i xs h1;cases hx:xs[ix]? with
   |none=>simp_all
   |some y=>
    simp[hx]at h;subst h;obtain⟨vs,hv,hl,gi⟩:=WL hr t _ h1;have ac:ix<vs.length:=by grind
    exact Wcj rfl ⟨vs[ix],by simp[hv,Instr.extract,ac],gi ix y _ hx (Xq ac)⟩
  grind
 .rename_i f first captured
  split at h
  .rename_i hf;cases hc:Wgp st captured.toList with
   |none=>simp_all
   |some ids=>
    simp[hc]at h;subst h;obtain⟨h1,h2⟩:=WkT hr _ _ hc;have ql:first= #[]:=by simp_all
    subst ql;refine Wcj rfl ⟨.func (.func f) #[] (captured.map a.eval),by simp[Instr.makeFunc],⟨captured.toList.map a.eval,?_,?_,h2⟩,rfl⟩
    .apply Wn
     grind
    grind
  grind
 .rename_i c;obtain⟨callee,args,argTypes⟩:=c;obtain⟨args⟩:=args;obtain⟨argTypes⟩:=argTypes;simp only at h;split at h
  .rename_i x t;obtain⟨y,hy,h⟩:=WcG h;obtain⟨v,h1,h2⟩:=Woq (ty:=type) hT hr.h (WL hr x _ hy) h;refine⟨v,?_,h2⟩;simp only[execOp,resolve,invoke,builtin,Sem.run_bind,Sem.run_pure,Result.andThen_ok,Xds,Xaf,Xcg,h1]
  .rename_i x y _ _;split at h
   .rename_i k m k' n h1 h2;split at h
    .rename_i hk;subst hk;simp at h;subst h;have e1:=Whj (WL hr x _ h1);have e2:=Whj (WL hr y _ h2);refine⟨.int k (Wx0 m n),?_,WN rfl⟩;simp only[execOp,resolve,invoke,builtin,Sem.run_bind,Sem.run_pure,Result.andThen_ok,Xds,Xaf,Xcg,e1,e2,Builtin.min_];rfl
    grind
   grind
  .rename_i x y _ _;split at h
   .rename_i k m k' n h1 h2;split at h
    .rename_i hk;subst hk;simp at h;subst h;have e1:=Whj (WL hr x _ h1);have e2:=Whj (WL hr y _ h2);refine⟨.int k (Ws8 m n),?_,WN rfl⟩;simp only[execOp,resolve,invoke,builtin,Sem.run_bind,Sem.run_pure,Result.andThen_ok,Xds,Xaf,Xcg,e1,e2,Builtin.max_];rfl
    grind
   grind
  grind
 grind
end
end Go.Sx
namespace Go.Sx
set_option linter.unusedVariables false
set_option linter.unusedSimpArgs false
section
variable{w0:World}{F:CS}{nt:Slots}{G0 G G':GH}{ν ν':Nat->Nu}{φ φ':Nat->CS}{objs objs':Waa}{nx am:Nat}{w w':World}{P:Program}{T:Tab}
theorem Live.of{id:Nat}{ob:Ob}(h:Wp objs id=some ob)(hd:ob≠ .dead):Live objs id:=⟨ob,h,hd⟩
theorem WG{α:Type}(k:Nat)(v:α)(l:List (Nat×α))(i:Nat):Wp ((k,v)::l) i=if k=i then some v else Wp l i:=by
 simp only[Wp];by_cases h:k=i
 .subst h;simp
 .have:Xaw k i=false:=by
   grind [Xaw,absurd,Xcl]
  rw[this,Wc h]
theorem WbH{α:Type}:∀(l m:List (Nat×α)) (i:Nat),Wp (l++m) i=match Wp l i with
  |some x=>some x
  |none=>Wp m i
 | [],m,i=>rfl
 |(k,v)::l,m,i=>by
  rw[List.cons_append,WG,WG];split
  .rfl
  .exact WbH l m i
theorem HR.blk_lt_g(h:HR w0 F G ν φ objs nx w){b o:Nat}{v:Value}(hg:G b o=some v):b<w.heap.size:=block_lt_of_cell (h.g b o v hg)
theorem WLe.refl(S:CS)(w:World):WLe S w w:=⟨Xm _,λ_ vs _ h=>⟨vs,h,rfl⟩,λ_ _ _ _=>rfl,λ_ _ _=>rfl,rfl,rfl,rfl⟩
theorem WLe.mono{S S':CS}(h:WLe S w w')(hl:CS.le S S'):WLe S' w w':=
 ⟨h.size,h.row,λb o hb hn=>h.cell b o hb (λhs=>hn (hl b o hs)),λb hb hn=>h.whole b hb (λo hs=>hn o (hl b o hs)),h.os,h.output,h.tape⟩
theorem WLe.same{S S':CS}(h:WLe S w w')(hd:CS.disj S S')(hb:∀b o,S' b o->b<w.heap.size):Same S' w w':=
 ⟨λb n ⟨vs,T,h1,h2⟩=>by obtain⟨au,h3,h4⟩:=h.row b vs T h1;exact⟨au,T,h3,by omega⟩,λb o hs=>h.cell b o (hb b o hs) (λdq=>hd b o dq hs)⟩
theorem WLe.rows{S:CS}(h:WLe S w w'):Same (λ_ _=>False) w w':=
 ⟨λb n ⟨vs,T,h1,h2⟩=>by obtain⟨au,h3,h4⟩:=h.row b vs T h1;exact⟨au,T,h3,by omega⟩,λ_ _ hs=>hs.elim⟩
theorem WLe.trans{S S':CS}{w1 w2 w3:World}(h:WLe S w1 w2)(h':WLe S' w2 w3)(hs:∀b o,S' b o->w1.heap.size<=b\/S b o):WLe S w1 w3 where
 size:=Xal h.size h'.size
 row b vs T hb:=by
  obtain⟨au,h1,h2⟩:=h.row b vs T hb;obtain⟨yx,h3,h4⟩:=h'.row b au T h1;simp_all
 cell b o hb hn:=by
  rw[h'.cell b o (Xbg hb h.size) (λdq=>by grind)];exact h.cell b o hb hn
 whole b hb hn:=by
  rw[h'.whole b (Xbg hb h.size) (λo dq=>by grind)];exact h.whole b hb hn
 os:=h'.os.trans h.os
 output:=h'.output.trans h.output
 tape:=h'.tape.trans h.tape
theorem WLe.alloc(S:CS)(wd:World)(o:Obj)(hh:wd.heap=w.heap)(pM:wd.os=w.os)(jG:wd.output=w.output)(gj:wd.tape=w.tape):WLe S w (wd.alloc o) where
 size:=by simp[hh]
 row b vs T hb:=by
  have ac:b<w.heap.size:=(Array.getElem?_eq_some_iff.1 hb).1;exact⟨vs,by grind [heap_alloc_old],rfl⟩
 cell b o' hb _:=World.cell?_of_block (by show(wd.alloc o).heap[b]?=w.heap[b]?;rw[heap_alloc_old wd o (by simp_all),hh])
 whole b hb _:=by rw[heap_alloc_old wd o (by simp_all),hh]
 os:=pM
 output:=jG
 tape:=gj
theorem WLe.setRow{S:CS}{b:Nat}{vs us:Array Value}{T:TypeId}(h:w.heap[b]?=some (Obj.cells vs T (0,0)))(ct:us.size=vs.size)(hc:∀o,¬S b o->us[o]?=vs[o]?):WLe S w (w.setRow b us) where
 size:=by simp
 row k au T' hk:=by
  by_cases e:k=b
  .grind [setRow_heap]
  .exact⟨au,by grind [setRow_other],rfl⟩
 cell k o hk hn:=by
  by_cases e:k=b
  .subst e;rw[cell_of_row _ k o us T (0,0) (setRow_heap w k vs us T (0,0) h),cell_of_row w k o vs T (0,0) h]
   grind
  grind [World.cell?_of_block,setRow_other]
 whole k hk hn:=by
  by_cases e:k=b
  .subst e;have:us=vs:=Array.ext_getElem? λo=>hc o (hn o);rw[setRow_heap w k vs us T (0,0) h,h,this]
  grind [setRow_other]
 os:=rfl
 output:=rfl
 tape:=rfl
def WvA(φ:Nat->CS)(objs:Waa):CS:=λb o=>∃id,Live objs id/\φ id b o
theorem HR.step(h:HR w0 F G ν φ objs nx w)(hw:WLe (WvA φ objs) w w')
  (aH:∀id ob,Wp objs' id=some ob->ob≠ .dead->WcP G ν' am w' id (φ' id) ob)
  (ac:∀id,Live objs' id->id<am)
  (dT:∀id b o,Live objs' id->φ' id b o->WvA φ objs b o\/w.heap.size<=b)
  (g0:∀id b o,Live objs' id->φ' id b o->b<w'.heap.size)
  (tC:∀id cl b o,Live objs' id->Live objs' cl->φ' id b o->φ' cl b o->id=cl):
  HR w0 F G ν' φ' objs' am w' where
 g b o v hg:=by
  rw[hw.cell b o (h.blk_lt_g hg) (λ⟨id,hl,hp⟩=>by rw[h.gf id b o hl hp]at hg;cases hg)];exact h.g b o v hg
 ob id ob ho:=by
  by_cases hd:ob= .dead
  .subst hd;trivial
  simp_all
 gf id b o hl hp:=by
  rcases dT id b o hl hp with⟨tD,pN,tE⟩|dG
  .exact h.gf tD b o pN tE
  .cases hg:G b o with
   |none=>rfl
   |some v=>have:=h.blk_lt_g hg;omega
 inj:=tC
 own id b o hl hp:=by
  rcases dT id b o hl hp with⟨tD,pN,tE⟩|dG
  .exact h.own tD b o pN tE
  .exact .inl (Xal h.le.size dG)
 lt:=ac
 bl:=g0
 le:=h.le.trans hw (λb o ⟨id,hl,hp⟩=>h.own id b o hl hp)
def Ww9(φ:Nat->CS)(i:Nat)(S:CS):Nat->CS:=λj=>if j=i then S else φ j
theorem WjG(φ:Nat->CS)(i:Nat)(S:CS):Ww9 φ i S i=S:=by simp[Ww9]
theorem Wf5(φ:Nat->CS){i j:Nat}(S:CS)(h:j≠i):Ww9 φ i S j=φ j:=by simp[Ww9,h]
theorem WeE:∀(l:List Nat) (id:Nat) (ob:Ob),Wp (kill objs l) id=some ob->ob≠ .dead->Wp objs id=some ob/\id∉l
 | [],id,ob,h,_=>⟨h,by simp⟩
 |i::l,id,ob,h,hd=>by
  simp only[kill]at h;rw[WG]at h;split at h
  .simp_all
  .rename_i bQ;obtain⟨h1,h2⟩:=WeE l id ob h hd
   grind
theorem WdK{l:List Nat}{id:Nat}(h:Live (kill objs l) id):Live objs id/\id∉l:=by
 obtain⟨ob,h1,h2⟩:=h;obtain⟨h3,h4⟩:=WeE l id ob h1 h2;exact⟨⟨ob,h3,h2⟩,h4⟩
def Wxs(φ:Nat->CS)(objs:Waa)(t:Nat)(m:List Nat):CS:=λb o=>∃i,(i=t\/i∈m)/\Live objs i/\φ i b o
theorem HR.put(h:HR w0 F G ν φ objs nx w){t:Nat}{m:List Nat}{ob:Ob}{S:CS}(hn:Wsl nx ν ν')(hx:nx<=am)(ht:t<am)
  (hw:WLe (Wxs φ objs t m) w w') (hS:∀b o,S b o->Wxs φ objs t m b o\/(w.heap.size<=b/\b<w'.heap.size))
  (dg:ob≠ .dead->WcP G ν' am w' t S ob):HR w0 F G ν' (Ww9 φ t S) ((t,ob)::kill objs m) am w':=by
 have hl:∀id dh,Wp ((t,ob)::kill objs m) id=some dh->dh≠ .dead->(id=t/\dh=ob)\/(id≠t/\id∉m/\Wp objs id=some dh):=λid dh ho hd=>by
  grind [WG,WeE]
 have mI:∀id,Live ((t,ob)::kill objs m) id->(id=t)\/(id≠t/\id∉m/\Live objs id):=λid ⟨dh,ho,hd⟩=>by
  rcases hl id dh ho hd with⟨h1,h2⟩|⟨h1,h2,h3⟩
  .omega
  .exact .inr ⟨h1,h2,dh,h3,hd⟩
 refine h.step (hw.mono λb o ⟨i,_,h1,h2⟩=>⟨i,h1,h2⟩) (λid dh ho hd=>?_) (λid aS=>?_) (λid b o aS hp=>?_) (λid b o aS hp=>?_) (λid cl b o aS kK hp fz=>?_)
 .rcases hl id dh ho hd with⟨h1,h2⟩|⟨h1,h2,h3⟩
  .grind [WjG]
  .rw[Wf5 φ S h1];have aS:Live objs id:=⟨dh,h3,hd⟩;refine WdX (λ_ _ _ hh=>hh) (hw.same (λb o ⟨i,hi,tF,tG⟩ hp=>?_) (λb o hp=>h.bl id b o aS hp)) (λ_ _ hh=>hh) hn hx (h.lt id aS) dh (h.ob id dh h3);have:=h.inj i id b o tF aS tG hp;simp_all
 .rcases mI id aS with h1|⟨_,_,h3⟩
  .omega
  .exact Xbg (h.lt id h3) hx
 .rcases mI id aS with h1|⟨h1,_,h3⟩
  .subst h1;rw[WjG]at hp;rcases hS b o hp with⟨i,_,h4,h5⟩|h4
   .exact .inl ⟨i,h4,h5⟩
   omega
  .rw[Wf5 φ S h1]at hp;exact .inl ⟨id,h3,hp⟩
 .rcases mI id aS with h1|⟨h1,_,h3⟩
  .subst h1;rw[WjG]at hp;rcases hS b o hp with⟨i,_,h4,h5⟩|h4
   .exact Xbg (h.bl i b o h4 h5) hw.size
   omega
  .rw[Wf5 φ S h1]at hp;exact Xbg (h.bl id b o h3 hp) hw.size
 .have key:∀cl,cl≠t->cl∉m->Live objs cl->φ cl b o->S b o->False:=λcl h1 h2 h3 h4 h5=>by
   rcases hS b o h5 with⟨i,hi,h6,h7⟩|h6
   .have:=h.inj i cl b o h6 h3 h7 h4;simp_all
   .have:=h.bl cl b o h3 h4;omega
  rcases mI id aS with h1|⟨h1,h2,h3⟩<;>rcases mI cl kK with jW|⟨jW,jX,tH⟩
  .rw[h1,jW]
  .simp_all [WjG,Wf5]
  .simp_all [WjG,Wf5]
  .rw[Wf5 φ S h1]at hp;rw[Wf5 φ S jW]at fz;exact h.inj id cl b o h3 tH hp fz
theorem HR.drew(h:HR w0 F G ν φ objs nx w):HR w0 F G ν φ objs nx w.drew:=by
 have hw:WLe (WvA φ objs) w w.drew:=⟨Xm _,λ_ vs _ h=>⟨vs,h,rfl⟩,λ_ _ _ _=>rfl,λ_ _ _=>rfl,rfl,rfl,rfl⟩;exact h.step hw (λid ob ho _=>WdX (w:=w) (w':=w.drew) (S:=φ id) (λ_ _ _ hh=>hh) ⟨λ_ _ hh=>hh,λ_ _ _=>rfl⟩ (λ_ _ hh=>hh) (λ_ _=>rfl) (Xm _) (h.lt id ⟨ob,ho,by assumption⟩) ob (h.ob id ob ho))
  h.lt (λid b o hl hp=>.inl ⟨id,hl,hp⟩) (λid b o hl hp=>h.bl id b o hl hp) h.inj
theorem HRel.drew(h:HRel w0 F G ν objs nx w):HRel w0 F G ν objs nx w.drew:=by
 obtain⟨φ,h⟩:=h;exact⟨φ,h.drew⟩
end
section
variable{w0:World}{F:CS}{nt:Slots}{G0 G G':GH}{ν ν':Nat->Nu}{st:St}{a:Act}{w w':World}{P:Program}{T:Tab}
theorem Rel.put(h:Rel w0 F nt G0 G ν st a w){dst:Option Tmp}(hd:∀d,dst=some d->nt.Ok d){x:AVal}{v:Value}(hx:AValRel G ν st.nx x v):Rel w0 F nt G0 G ν (st.put dst x) (a.put dst v) w:=by
 cases dst with
 |none=>exact h
 |some d=>
  have ac:d<a.tmps.size:=by rw[h.ntm];exact(hd d rfl).1
  refine⟨h.defers,by simpa [Act.put]using h.ntm,λp hp=>?_,λi y hy=>?_,h.h,h.gx,h.ex⟩
  .simp only[Act.put];rw[Xen (λe=>(hd d rfl).2 p hp e.symm)];exact h.par p hp
  simp only[St.put]at hy;rw[WG]at hy;split at hy
  .rename_i e;subst e;injection hy with hy;subst hy;exact⟨v,by simp[Act.put,ac],hx⟩
  .rename_i bQ;obtain⟨u,hu,hr⟩:=h.env i y hy;exact⟨u,by grind [Act.put,Xen],hr⟩
theorem Rel.on(h:Rel w0 F nt G0 G ν st a w){objs':Waa}{am:Nat}(hg:GLe G G')(hn:Wsl st.nx ν ν')(hx:st.nx<=am)
  (hh:HRel w0 F G' ν' objs' am w') (gx:GExt w0.heap.size F G0 G'):Rel w0 F nt G0 G' ν' {env:=st.env,objs:=objs',nx:=am} a w':=
 ⟨h.defers,h.ntm,h.par,λi y hy=>by
  obtain⟨u,hu,hr⟩:=h.env i y hy
  grind [AValRel.mono],hh,gx,λx v hv=>AValRel.mono hg hn hx x v (h.ex x v hv)⟩
def upd(ν:Nat->Nu)(i:Nat)(n:Nu):Nat->Nu:=λj=>if j=i then n else ν j
theorem WfF(ν:Nat->Nu)(i:Nat)(n:Nu):Wsl i ν (upd ν i n):=λj hj=>by simp[upd];omega
theorem Wbx(ν:Nat->Nu)(i:Nat)(n:Nu):upd ν i n i=n:=by simp[upd]
theorem Rel.lay(h:Rel w0 F nt G0 G ν st a w){dst:Option Tmp}(hd:∀d,dst=some d->nt.Ok d){objs':Waa}{am:Nat}(hn:Wsl st.nx ν ν')(hx:st.nx<=am)
  (hh:HRel w0 F G ν' objs' am w') {x:AVal} {v:Value} (hv:AValRel G ν' am x v):Rel w0 F nt G0 G ν' (({env:=st.env,objs:=objs',nx:=am}:St).put dst x) (a.put dst v) w':=
 (h.on (λ_ _ _ hh=>hh) hn hx hh h.gx).put hd hv
theorem Rel.fresh(h:Rel w0 F nt G0 G ν st a w){dst:Option Tmp}(hd:∀d,dst=some d->nt.Ok d)(m:List Nat)(ob:Ob)(nu:Nu)(S:(Nat->CS)->CS)(x:AVal)(v:Value)
  (hw:∀φ,HR w0 F G ν φ st.objs st.nx w->WLe (Wxs φ st.objs st.nx m) w w') (hS:∀φ,HR w0 F G ν φ st.objs st.nx w->∀b o,S φ b o->Wxs φ st.objs st.nx m b o\/(w.heap.size<=b/\b<w'.heap.size))
  (dg:∀φ,HR w0 F G ν φ st.objs st.nx w->WcP G (upd ν st.nx nu) (st.nx+1) w' st.nx (S φ) ob)
  (hv:AValRel G (upd ν st.nx nu) (st.nx+1) x v):
  Rel w0 F nt G0 G (upd ν st.nx nu) (({env:=st.env,objs:=(st.nx,ob)::kill st.objs m,nx:=st.nx+1}:St).put dst x) (a.put dst v) w':=by
 obtain⟨φ,hφ⟩:=h.h;exact h.lay hd (WfF ν st.nx nu) (Xdc _) ⟨_,hφ.put (WfF ν st.nx nu) (Xdc _) (Xbu _) (hw φ hφ) (hS φ hφ) (λ_=>dg φ hφ)⟩ hv
theorem Rel.new(h:Rel w0 F nt G0 G ν st a w){dst:Option Tmp}(hd:∀d,dst=some d->nt.Ok d)(ob:Ob)(nu:Nu)(x:AVal)(v:Value)
  (hw:WLe (λ_ _=>False) w w')
  (dg:WcP G (upd ν st.nx nu) (st.nx+1) w' st.nx (λb _=>w.heap.size<=b/\b<w'.heap.size) ob)
  (hv:AValRel G (upd ν st.nx nu) (st.nx+1) x v):
  Rel w0 F nt G0 G (upd ν st.nx nu) (st.new dst ob x) (a.put dst v) w':=
 h.fresh hd [] ob nu (λ_ b _=>w.heap.size<=b/\b<w'.heap.size) x v (λφ _=>hw.mono λ_ _ hh=>hh.elim) (λφ _ b o hs=>.inr hs) (λφ _=>dg) hv
end
end Go.Sx
namespace Go.Sx
set_option linter.unusedVariables false
set_option linter.unusedSimpArgs false
theorem Wr9{v:Value}(h:v.oneCell'=true):v.cells= #[v]:=by
 cases v<;>first|rfl|simp[Value.oneCell']at h
section
variable{w0:World}{F:CS}{nt:Slots}{G0 G:GH}{ν:Nat->Nu}{objs:Waa}{nx:Nat}{st:St}{a:Act}{w w':World}{P:Program}{T:Tab}
theorem WxU:∀(t:Ty),t.data=true->Enc G t t.dflt (WbG t)
 | .int _,_=>rfl
 | .bool,_=>rfl
 | .str,_=>rfl
 | .slice e,_=>⟨_,rfl,.inl ⟨rfl,rfl⟩⟩
 | .own _,h=>by simp[Ty.data]at h
 | .prod a b,h=>by
  simp only[Ty.data,Xi]at h;exact⟨_,_,rfl,WxU a h.1,WxU b h.2⟩
theorem Wxo:∀(t:Ty),CellsRel G ν nx (WeZ t) (WbG t)
 | .int _=>CellsRel.one rfl rfl
 | .bool=>CellsRel.one rfl rfl
 | .str=>CellsRel.one rfl rfl
 | .slice e=>CellsRel.one rfl rfl
 | .own _=>CellsRel.one trivial rfl
 | .prod a b=>(Wxo a).append (Wxo b)
theorem Wbq:∀(t:Ty),(WbG t).length=t.size
 | .int _| .bool| .str| .slice _| .own _=>rfl
 | .prod a b=>by simp[WbG,Wbq a,Wbq b,Ty.size]
theorem WmF{α:Type}(l:List α):∀n,(rep l n).length=n*l.length
 |0=>by simp[rep]
 |n+1=>by rw[rep,Xaa,WmF l n,Xbs,Xcw]
theorem Wg9{e:Ty}(h:e.data=true):∀n,Wd2 (Enc G e) (Xp n e.dflt) (rep (WbG e) n)
 |0=>rfl
 |n+1=>⟨_,_,rfl,WxU e h,Wg9 h n⟩
theorem Wfi{t:TypeId}{te:TE}(bZ:TEok P T t te):∃z,(zeroValue t).run P w= .ok z w/\z.cells.toList=te.cells:=by
 obtain⟨i,z,hi,_,hz,hc,_⟩:=bZ.info;simp_all [zeroValue,WhM]
theorem WbJ{te:TE}(h:te.plain=true):te.cells=WbG te.ty:=by
 unfold TE.plain at h;unfold TE.cells;split at h<;>simp_all
theorem Wl1(w:World)(o:Obj):(w.alloc o).heap[w.heap.size]?=some o:=heap_alloc_new w o
theorem zty:∀(t:Ty),∃ps,Wy G w t t.dflt (WbG t.ro) ps/\∀p∈ps,p.fp= λ_ _=>False
 | .int _=>⟨[],⟨rfl,rfl⟩,by simp⟩
 | .bool=>⟨[],⟨rfl,rfl⟩,by simp⟩
 | .str=>⟨[],⟨rfl,rfl⟩,by simp⟩
 | .slice e=>⟨[],⟨rfl,_,rfl,.inl ⟨rfl,rfl⟩⟩,by simp⟩
 | .own e=>⟨[⟨⟨none,0,0,0,e.size⟩,λ_ _=>False⟩],⟨_,rfl,rfl,rfl,rfl,rfl⟩,by simp⟩
 | .prod a b=>by
  obtain⟨p1,h1,h2⟩:=zty a;obtain⟨p2,h3,h4⟩:=zty b;refine⟨p1++p2,⟨_,_,p1,p2,rfl,rfl,h1,h3⟩,λp hp=>?_⟩
  grind
theorem Wvj(e:Ty):∀n,∃ps,Wfa (Wy G w e) (Xp n e.dflt) (rep (WbG e.ro) n) ps/\∀p∈ps,p.fp= λ_ _=>False
 |0=>⟨[],⟨rfl,rfl⟩,by simp⟩
 |n+1=>by
  obtain⟨p1,h1,h2⟩:=zty (G:=G) (w:=w) e;obtain⟨p2,h3,h4⟩:=Wvj e n;refine⟨p1++p2,⟨_,_,p1,p2,rfl,rfl,h1,h3⟩,λp hp=>?_⟩
  grind
theorem Wnx:∀(ps:List Pc),(∀p∈ps,p.fp= λ_ _=>False)->Sep (ps.map Pc.fp)
 | [],_=>List.Pairwise.nil
 |p::ps,h=>Xy.2 ⟨λs _ b o hb _=>by simp_all,Wnx ps λq hq=>h q (Xf _ hq)⟩
theorem Ws1(h:Rel w0 F nt G0 G ν st a w){dst:Option Tmp}(hd:∀d,dst=some d->nt.Ok d){cs:List Cell}{vs:Array Value}{t:TypeId}(hc:CellsRel G ν st.nx cs vs.toList):
  ∃ν',Rel w0 F nt G0 G ν' (st.new dst (.box cs) (.s (.one (.ptr st.nx 0)))) (a.put dst (.pointer (some ⟨w.heap.size,0,none⟩))) (w.alloc (.cells vs t)):=by
 refine⟨upd ν st.nx ⟨some w.heap.size,0,0,0,0⟩,h.new hd (.box cs) _ _ _ (WLe.alloc _ w _ rfl rfl rfl rfl) ?_ ?_⟩
 .have hl:vs.size=cs.length:=by have:=hc.1;omega
  refine⟨w.heap.size,vs.toList,by rw[Wbx],⟨vs,t,Wl1 w _,by grind [Wbx]⟩,?_,hc.mono (λ_ _ _ hh=>hh) (WfF _ _ _) (Xdc _),λb o ⟨hb,_⟩=>by simp_all⟩;rw[Wbx];exact Wsf (Wl1 w _) (λj v hj=>by simp_all)
 .exact⟨⟨Xbu _,w.heap.size,by rw[Wbx],by rw[Wbx]⟩,rfl⟩
def FromL(φ:Nat->CS)(objs:Waa)(m:List Nat):CS:=λb o=>∃i∈m,Live objs i/\φ i b o
theorem Wif(h:Rel w0 F nt G0 G ν st a w){dst:Option Tmp}(hd:∀d,dst=some d->nt.Ok d)(m:List Nat){e:Ty}{xs:List e.den}{cap:Nat}{vs:Array Value}{t:TypeId}{cs:List Value}(hx:xs.length<=cap)(iL:cap<=maxLen)
  (ct:vs.size=cap*e.size) (hc:∀φ,HR w0 F G ν φ st.objs st.nx w->∃ps,Wfa (Wy G w e) xs cs ps/\Sep (ps.map Pc.fp)/\∀p∈ps,CS.le p.fp (FromL φ st.objs m)) (hp:cs<+:vs.toList)
  (wd:World) (ss:wd.heap=w.heap) (pM:wd.os=w.os) (jG:wd.output=w.output) (gj:wd.tape=w.tape):
  (∃ν',Rel w0 F nt G0 G ν' (({env:=st.env,objs:=(st.nx,.arr e xs)::kill st.objs m,nx:=st.nx+1}:St).put dst (.s (.one (.own st.nx)))) (a.put dst (.slice (some ⟨w.heap.size,0,none⟩) xs.length cap)) (wd.alloc (.cells vs t)))/\
  (∃ν',Rel w0 F nt G0 G ν' (({env:=st.env,objs:=(st.nx,.arr e xs)::kill st.objs m,nx:=st.nx+1}:St).put dst (.s (.one (.aptr st.nx)))) (a.put dst (.pointer (some ⟨w.heap.size,0,none⟩))) (wd.alloc (.cells vs t))):=by
 have nh:(wd.alloc (.cells vs t)).heap[w.heap.size]?=some (Obj.cells vs t (0,0)):=by grind [Wl1]
 have key:∀(x:AVal) (v:Value),AValRel G (upd ν st.nx ⟨some w.heap.size,0,xs.length,cap,e.size⟩) (st.nx+1) x v->
   ∃ν',Rel w0 F nt G0 G ν' (({env:=st.env,objs:=(st.nx,.arr e xs)::kill st.objs m,nx:=st.nx+1}:St).put dst x) (a.put dst v) (wd.alloc (.cells vs t)):=λx v hv=>by
  refine⟨upd ν st.nx ⟨some w.heap.size,0,xs.length,cap,e.size⟩,h.fresh hd m (.arr e xs) _ (λφ b o=>FromL φ st.objs m b o\/b=w.heap.size) x v (λφ _=>WLe.alloc _ wd _ ss pM jG gj) (λφ hφ b o hs=>?_) (λφ hφ=>?_) hv⟩
  .rcases hs with⟨i,hi,h1,h2⟩|hs
   .exact .inl ⟨i,.inr hi,h1,h2⟩
   simp_all
  .obtain⟨ps,h1,h2,h3⟩:=hc φ hφ;have g0:∀p∈ps,∀b o,p.fp b o->b<w.heap.size:=λp fz b o hh=>by
    obtain⟨i,_,g1,g2⟩:=h3 p fz b o hh;exact hφ.bl i b o g1 g2
   show WbP (wd.alloc (.cells vs t)) (Wy G _ e) e.size (upd ν st.nx ⟨some w.heap.size,0,xs.length,cap,e.size⟩ st.nx) xs _;rw[Wbx];refine⟨rfl,rfl,hx,iL,⟨vs,t,nh,by simp_all⟩,cs,ps,?_,?_,Xy.2 ⟨λs hs b o ⟨hb,_⟩ jH=>?_,h2⟩,λs hs b o jH=>?_⟩
   .refine WbZ (Q:=λp=>∀b o,p.fp b o->b<w.heap.size) (λx c p fz hh=>?_) _ _ _ g0 h1;exact WaE (λ_ _ _ hh=>hh) e x c p (λq hq=>(WLe.alloc (λ_ _=>False) wd _ ss pM jG gj).same (λ_ _ hh _=>hh) (fz q hq)) hh
   .obtain⟨tl,sr⟩:=hp;exact Wsf nh (λj v hj=>by grind)
   .obtain⟨p,fz,rfl⟩:=Xw.1 hs
    grind
   .rcases Xs.1 hs with rfl|hs
    .exact .inr jH.1
    .obtain⟨p,fz,rfl⟩:=Xw.1 hs;exact .inl (h3 p fz b o jH)
 refine⟨key _ _ ⟨⟨Xbu _,?_⟩,rfl⟩,key _ _ ⟨⟨Xbu _,w.heap.size,by rw[Wbx],by rw[Wbx]⟩,rfl⟩⟩;rw[Wbx];rfl
theorem Wo0(h:Rel w0 F nt G0 G ν st a w){dst:Option Tmp}(hd:∀d,dst=some d->nt.Ok d){e:Ty}(he:e.data=true){xs:List e.den}{cap:Nat}{vs:Array Value}{t:TypeId}{cs:List Value}(hx:xs.length<=cap)(iL:cap<=maxLen)
  (ct:vs.size=cap*e.size) (hc:Wd2 (Enc G e) xs cs) (hp:cs<+:vs.toList) (wd:World) (ss:wd.heap=w.heap) (pM:wd.os=w.os) (jG:wd.output=w.output) (gj:wd.tape=w.tape):
  (∃ν',Rel w0 F nt G0 G ν' (st.new dst (.arr e xs) (.s (.one (.own st.nx)))) (a.put dst (.slice (some ⟨w.heap.size,0,none⟩) xs.length cap)) (wd.alloc (.cells vs t)))/\
  (∃ν',Rel w0 F nt G0 G ν' (st.new dst (.arr e xs) (.s (.one (.aptr st.nx)))) (a.put dst (.pointer (some ⟨w.heap.size,0,none⟩))) (wd.alloc (.cells vs t))):=
 Wif h hd [] hx iL ct (λφ _=>⟨[],(Wcr he xs cs []).2 ⟨hc,rfl⟩,List.Pairwise.nil,by simp⟩) hp wd ss pM jG gj
theorem WdM{x:AVal}{v:Value}{cs:List Cell}(hx:AValRel G ν nx x v)(hb:Whe x=some cs):CellsRel G ν nx cs v.cells.toList/\∀u∈v.cells.toList,u.oneCell'=true:=by
 cases x with
 |tup xs=>simp[Whe]at hb
 |s y=>
  cases y with
  |one c=>
   simp[Whe]at hb;subst hb;obtain⟨h1,h2⟩:=hx
   grind [Wr9,CellsRel.one]
  |agg ds=>
   simp[Whe]at hb;subst hb;obtain⟨vs,rfl,h1⟩:=hx;refine⟨by grind [Value.cells],λu hu=>?_⟩;simp[Value.cells]at hu;obtain⟨j,hj⟩:=List.getElem?_of_mem hu;have ac:j<ds.length:=by rw[←h1.1];grind
   exact(h1.2 j _ u (Xq ac) hj).2
theorem Wc3(t:TypeId)(vs:Array Value):(newRow t vs).run P w= .ok ⟨w.heap.size,0,none⟩ (w.alloc (.cells vs t)):=rfl
theorem Wfq{cs ds:List Cell}{off:Nat}(h:off+ds.length<=cs.length):(Weu cs off ds).length=cs.length:=by
 simp[Weu];omega
theorem Wfk{cs ds:List Cell}{vs us:List Value}{off:Nat}(hc:CellsRel G ν nx cs vs)(hd:CellsRel G ν nx ds us):
  CellsRel G ν nx (Weu cs off ds) (vs.take off++us++vs.drop (off+us.length)):=by
 rw[hd.1];exact((hc.take off).append hd).append (hc.drop _)
theorem Wjl(us:List Value):∀(off k:Nat) (cs:Array Value),off+k+us.length<=cs.size->
  ((us.zipIdx k).foldl (λcs (c,j)=>cs.setIfInBounds (off+j) c) cs).toList=cs.toList.take (off+k)++us++cs.toList.drop (off+k+us.length):=by
 induction us with
 |nil=>simp_all
 |cons u us ih=>
  intro off k cs h;simp only[List.zipIdx_cons,List.foldl_cons,Xr]at h⊢;rw[ih off (k+1) _ (by simp;omega)];have ac:off+k<cs.toList.length:=by simp;omega
  simp only[Array.toList_setIfInBounds];generalize cs.toList=l at*;have e1:(l.set (off+k) u).take (off+(k+1))=l.take (off+k)++ [u]:=by
   rw[←Xba,List.take_succ_eq_append_getElem (by simp_all),List.take_set_of_le (Xm _)];simp
  grind [List.drop_set_of_lt]
end
end Go.Sx
namespace Go.Sx
set_option linter.unusedVariables false
set_option linter.unusedSimpArgs false
section
variable{w0:World}{F:CS}{nt:Slots}{G0 G:GH}{ν:Nat->Nu}{objs:Waa}{nx:Nat}{st af:St}{a:Act}{w w':World}{P:Program}{T:Tab}
def Done(P:Program)(w0:World)(F:CS)(nt:Slots)(G0:GH)(o:Oper)(a:Act)(w:World)(af:St):Prop:=
 ∃n v w' G' ν',(execOp a.eval o).run P w= .ok n w'/\(n= .value v\/(n= .skip/\v=undef))/\Rel w0 F nt G0 G' ν' af (a.put o.dst v) w'
theorem WgM(hr:Rel w0 F nt G0 G ν st a w):∀(l:List (Nat×Operand)) (ps:List (Nat×AVal)),WcO st l=some ps->
  ps.length=l.length/\∀(j:Nat) (p:Nat×AVal) (q:Nat×Operand),ps[j]?=some p->l[j]?=some q->p.1=q.1/\AValRel G ν st.nx p.2 (a.eval q.2)
 | [],ps,h=>by simp[WcO]at h;simp_all
 |(i,x)::l,ps,h=>by
  simp only[WcO]at h;split at h
  .rename_i y ys h1 h2;injection h with h;subst h;obtain⟨h3,h4⟩:=WgM hr l ys h2;refine⟨by simp[h3],λj p q hp hq=>?_⟩;cases j with
   |zero=>simp at hp hq;subst hp hq;exact⟨rfl,WL hr x _ h1⟩
   |succ j=>grind
  grind
theorem WkD(hT:Waj P T){fs:List (Nat×TypeId)}{place:Nat->Option (Nat×Nat)}
  (fy:∀(i off:Nat) (ft:TypeId) (te:TE),fs[i]?=some (off,ft)->Wp T ft=some te->place i=some (off,te.size)) (iM:∀(i off:Nat) (ft:TypeId) (te:TE),fs[i]?=some (off,ft)->Wp T ft=some te->te.plain=true):
  ∀(l:List (Nat×AVal)) (ps:List (Nat×Value)) (cs cR:List Cell) (vs:Array Value),CellsRel G ν nx cs vs.toList->ps.length=l.length->
   (∀(j:Nat) (p:Nat×AVal) (q:Nat×Value),l[j]?=some p->ps[j]?=some q->p.1=q.1/\AValRel G ν nx p.2 q.2)->Wnd T fs l cs=some cR->
   ∃au,Instr.fill place vs ps=some au/\CellsRel G ν nx cR au.toList
 | [],[],cs,cR,vs,hc,_,_,h=>by simp[Wnd]at h;subst h;exact⟨vs,rfl,hc⟩
 |(i,x)::l,[],_,_,_,_,hl,_,_=>by simp at hl
 | [],_::_,_,_,_,_,hl,_,_=>by simp at hl
 |(i,x)::l,(i',v)::ps,cs,cR,vs,hc,hl,hp,h=>by
  obtain⟨he,hx⟩:=hp 0 _ _ rfl rfl;simp only at he hx;subst he;simp only[Wnd]at h;split at h
  .rename_i off ft hf;split at h
   .rename_i te ds bZ ij;split at h
    .rename_i bL;simp only[Xi,Wi]at bL;obtain⟨h1,h2⟩:=bL;obtain⟨h3,_⟩:=WdM hx ij;have ct:v.cells.size=ds.length:=by have:=h3.1;omega
     have gi:vs.size=cs.length:=by have:=hc.1;omega
     have yy:=iM _ _ _ _ hf bZ;have eU:=Wjl v.cells.toList off 0 vs (by simp;omega);simp only[Xbb,Xaq]at eU;have gB:CellsRel G ν nx (Weu cs off ds) (v.cells.toList.zipIdx.foldl (λcs (c,j)=>cs.setIfInBounds (off+j) c) vs).toList:=by
      rw[eU];have:=Wfk (off:=off) hc h3;omega
     obtain⟨au,h4,h5⟩:=WkD hT fy iM l ps _ cR _ gB (by simp_all) (λj p q hj hq=>hp (j+1) p q (by simp_all) (by simp_all)) h;refine⟨au,?_,h5⟩;simp only[Instr.fill,fy _ _ _ _ hf bZ];rw[Wc (by grind [WY])];rw[←h4];congr 1;rw[←Array.foldl_toList];simp
    grind
   grind
  grind
theorem Wgn{α β:Type}(f:α->Sem β)(g:α->β):∀(l:List α),(∀x∈l,(f x).run P w= .ok (g x) w)->(l.mapM f).run P w= .ok (l.map g) w
 | [],_=>by simp
 |x::l,h=>by
  simp only[Xey,Sem.run_bind,h x (Xj ..),Result.andThen_ok,Wgn f g l (λy hy=>h y (Xf _ hy)),Sem.run_pure,Xaf]
theorem Woa{α β:Type}(f:α->Sem β)(g:α->β)(l:Array α)(h:∀x∈l,(f x).run P w= .ok (g x) w):(l.mapM f).run P w= .ok (l.map g) w:=by
 rw[Array.mapM_eq_mapM_toList];simp only[Sem.run_map,Wgn f g l.toList (λx hx=>h x (by simp_all)),Result.andThen_ok];congr 1
 grind
theorem WqD(hT:Waj P T)(hr:Rel w0 F nt G0 G ν st a w){o:Oper}(hd:∀d,o.dst=some d->nt.Ok d){t:TypeId}{parts:Array (Nat×Operand)}(ho:o.op= .build t parts)
  {ty:Ty} {fs:List (Nat×TypeId)} {ps:List (Nat×AVal)} {cs:List Cell} (hl:Wp T t=some ⟨ty,true,.struct fs⟩) (cy:WcO st parts.toList=some ps) (hf:Wnd T fs ps (WeZ ty)=some cs)
  (fy:∀f∈fs,∃te,Wp T f.2=some te/\te.plain=true):
  Done P w0 F nt G0 o a w (st.put o.dst (.s (.agg cs))):=by
 have bZ:=hT _ _ hl;obtain⟨_,fields,hu,fC,_⟩:=bZ.und;obtain⟨z,hz,eI⟩:=Wfi (w:=w) bZ;obtain⟨h1,h2⟩:=WgM hr _ _ cy;have ct:∀f∈fields,∃te,Wp T f.type=some te/\te.plain=true:=λf hf=>fy (f.offset,f.type) (by grind)
 let sz:Field->Nat:=λf=>match Wp T f.type with|some te=>te.size|none=>0
 have bm:(fields.mapM λf=>(do pure (f.offset,←sizeOf f.type):Sem (Nat×Nat))).run P w= .ok (fields.map λf=>(f.offset,sz f)) w:=by
  refine Woa _ (λf=>(f.offset,sz f)) fields (λf hf=>?_);obtain⟨te,dZ,_⟩:=ct f hf;simp[sz,(hT _ _ dZ).sizeOf,dZ]
 have nZ:∀(i off:Nat) (ft:TypeId) (te:TE),fs[i]?=some (off,ft)->Wp T ft=some te->(fields.map λf=>(f.offset,sz f))[i]?=some (off,te.size):=λi off ft te hi dZ=>by
  grind
 have qm:CellsRel G ν st.nx (WeZ ty) z.cells.toList:=by
  rw[eI];exact Wxo ty
 obtain⟨au,h3,h4⟩:=WkD hT nZ (λi off ft te hi dZ=>by
   obtain⟨eG,h5,h6⟩:=fy _ (List.mem_of_getElem? hi);simp_all) ps (parts.toList.map λp=>(p.1,a.eval p.2)) _ cs z.cells qm (by simp[h1]) (λj p q hp hq=>by
   grind) hf
 refine⟨.value (.agg au),.agg au,w,G,ν,?_,.inl rfl,hr.put hd ⟨au.toList,by simp,h4⟩⟩;simp only[execOp,ho,Instr.build,Sem.run_bind,hz,Result.andThen_ok,Wl hu,bm];have:(parts.map λx=>match x with|(i,x)=>(i,a.eval x)).toList=parts.toList.map λp=>(p.1,a.eval p.2):=by simp
 rw[this,h3];rfl
theorem WqL(hT:Waj P T)(hr:Rel w0 F nt G0 G ν st a w){o:Oper}(hd:∀d,o.dst=some d->nt.Ok d){t:TypeId}(ho:o.op= .alloc t){te:TE}(hl:Wp T t=some te)(hp:te.plain=true):
  Done P w0 F nt G0 o a w (st.new o.dst (.box (WeZ te.ty)) (.s (.one (.ptr st.nx 0)))):=by
 obtain⟨z,hz,eI⟩:=Wfi (w:=w) (hT _ _ hl);obtain⟨ν',h⟩:=Ws1 (t:=t) (vs:=z.cells) hr hd (cs:=WeZ te.ty) (by grind [WbJ,Wxo]);refine⟨_,_,_,G,ν',?_,.inl rfl,h⟩;simp_all [execOp,Instr.alloc,Sem.run_bind,Result.andThen_ok,newVar,Wc3,Sem.run_pure]
theorem Wl3(hT:Waj P T)(hr:Rel w0 F nt G0 G ν st a w){o:Oper}(hd:∀d,o.dst=some d->nt.Ok d){t:TypeId}(ho:o.op= .alloc t){e:Ty}{n:Nat}{et:TypeId}(hl:Wp T t=some ⟨e,true,.arr n et⟩)(bq:e.data=true)(ay:Wz n=true):
  Done P w0 F nt G0 o a w (st.new o.dst (.arr e (Xp n e.dflt)) (.s (.one (.aptr st.nx)))):=by
 obtain⟨z,hz,eI⟩:=Wfi (w:=w) (hT _ _ hl);have hn:n<=maxLen:=by grind [Wz,maxLen]
 have ad:z.cells.size=n*e.size:=by
  grind [Xaq,TE.cells,WmF,Wbq]
 obtain⟨_,ν',h⟩:=Wo0 (t:=t) (vs:=z.cells) hr hd (e:=e) bq (xs:=Xp n e.dflt) (cap:=n) (cs:=rep (WbG e) n) (by simp) hn ad (Wg9 bq n) (by rw[eI];exact List.prefix_refl _) w rfl rfl rfl rfl;refine⟨_,_,_,G,ν',?_,.inl rfl,h⟩;simp_all [execOp,Instr.alloc,Sem.run_bind,Result.andThen_ok,newVar,Wc3,Sem.run_pure]
theorem WuG(hr:Rel w0 F nt G0 G ν st a w){o:Oper}(hd:∀d,o.dst=some d->nt.Ok d){t:TypeId}{x:Operand}(ho:o.op= .box t x){v:AVal}{cs:List Cell}(hv:ev st x=some v)(hb:Whe v=some cs):
  Done P w0 F nt G0 o a w (st.new o.dst (.box cs) (.s (.one (.ptr st.nx 0)))):=by
 obtain⟨h1,_⟩:=WdM (WL hr x _ hv) hb;obtain⟨ν',h⟩:=Ws1 (t:=t) hr hd h1;refine⟨_,_,_,G,ν',?_,.inl rfl,h⟩;simp only[execOp,ho,Instr.box,Sem.run_bind,Result.andThen_ok,newVar,Wc3,Sem.run_pure]
theorem Wr0(hT:Waj P T)(hr:Rel w0 F nt G0 G ν st a w){o:Oper}(hd:∀d,o.dst=some d->nt.Ok d){r:AVal}(h:Wae T st o.op=some (true,r)):Done P w0 F nt G0 o a w (st.put o.dst r):=by
 obtain⟨v,h1,h2⟩:=WqG hT hr h;exact⟨_,v,w,G,ν,h1,.inl rfl,hr.put hd h2⟩
end
end Go.Sx
namespace Go.Sx
set_option linter.unusedVariables false
set_option linter.unusedSimpArgs false
theorem Wgd{t t':Ty}{d:t.den}{d':t'.den}(h:Wnl t t' d=some d'):∃e:t=t',e▸d=d':=by
 grind [Wnl]
theorem Way{e e':Ty}{d:List e.den}{d':List e'.den}(h:WgW e e' d=some d'):∃he:e=e',he▸d=d':=by
 grind [WgW]
theorem Wsn{A A':Type}(hA:A=A')(h:List A=List A')(l:List A)(i:Nat):cast h (l.take i)=(cast h l).take i:=by
 grind
theorem WsX{A A':Type}(hA:A=A')(h:List A=List A')(l:List A)(i:Nat):cast h (l.drop i)=(cast h l).drop i:=by
 grind
theorem WrI(e:Ty)(l:List e.den)(i:Nat):WcN e (l.take i)=(WcN e l).take i:=Wsn (Wev e).symm _ l i
theorem Wrz(e:Ty)(l:List e.den)(i:Nat):WcN e (l.drop i)=(WcN e l).drop i:=WsX (Wev e).symm _ l i
section
variable{w0:World}{F:CS}{G G':GH}{ν:Nat->Nu}{φ:Nat->CS}{objs:Waa}{nx:Nat}{w:World}
def Lent(G':GH)(w:World)(φ:Nat->CS)(objs:Waa)(l:List Nat):Prop:=∀id∈l,Live objs id->Froz G' w (φ id)
theorem Lent.mono{l m:List Nat}(h:Lent G' w φ objs m)(hs:∀i∈l,i∈m):Lent G' w φ objs l:=λid bU=>h id (hs id bU)
theorem CellsRel.single{c:Cell}{vs:List Value}(h:CellsRel G ν nx [c] vs):∃v,vs= [v]/\CellRel G ν nx c v/\v.oneCell'=true:=by
 obtain⟨h1,h2⟩:=h
 match vs,h1 with
 | [v],_=>exact⟨v,rfl,h2 0 c v rfl rfl⟩
theorem Wgu{t:Ty}{c:Cell}{d:t.den}{v:Value}(hg:GLe G G')(h:CellRel G ν nx c v)(hf:Wj6 t c=some d):Enc G' t d [v]:=by
 unfold Wj6 at hf;split at hf
 .obtain⟨e,hd⟩:=Wgd hf;subst e;simp only at hd;subst hd;exact Wba hg _ _ _ h
 grind
theorem FromL.mono{m m':List Nat}(h:∀i∈m,i∈m'):CS.le (FromL φ objs m) (FromL φ objs m'):=λb o ⟨i,hi,h1⟩=>⟨i,h i hi,h1⟩
theorem FromL.one{i:Nat}{m:List Nat}(hi:i∈m)(hl:Live objs i):CS.le (φ i) (FromL φ objs m):=λb o h=>⟨i,hi,hl,h⟩
theorem FromL.disj(h:HR w0 F G ν φ objs nx w){m m':List Nat}(hd:∀i∈m,i∉m'):CS.disj (FromL φ objs m) (FromL φ objs m'):=λb o ⟨i,hi,h1,h2⟩ ⟨j,hj,h3,h4⟩=>by
 have:=h.inj i j b o h1 h3 h2 h4;simp_all
theorem CS.disj.mono{A B A' B':CS}(h:CS.disj A B)(h1:CS.le A' A)(h2:CS.le B' B):CS.disj A' B':=λb o ha hb=>h b o (h1 b o ha) (h2 b o hb)
theorem CS.disj.symm{A B:CS}(h:CS.disj A B):CS.disj B A:=λb o ha hb=>h b o hb ha
theorem WoY{l m:List CS}{A B:CS}(h1:Sep l)(h2:Sep m)(ha:∀s∈l,CS.le s A)(hb:∀s∈m,CS.le s B)(hd:CS.disj A B):Sep (l++m):=
 Xah.2 ⟨h1,h2,λs hs t ht=>hd.mono (ha s hs) (hb t ht)⟩
theorem WmN{l1 l2 l3:List CS}(wS:Sep (l1++l3))(h2:Sep l2)(hd:∀s∈l2,∀t∈l1++l3,CS.disj s t):Sep (l1++(l2++l3)):=by
 obtain⟨h1,h3,h4⟩:=Xah.1 wS;refine Xah.2 ⟨h1,Xah.2 ⟨h2,h3,λs hs t ht=>hd s hs t (Xg _ ht)⟩,λs hs t ht=>?_⟩;rcases Xo.1 ht with ht|ht
 .exact(hd t ht s (Xn _ hs)).symm
 simp_all
theorem WgC{b off i n cap:Nat}(hi:i<cap){S:CS}(h1:CS.le (rng b off (i*n)) S)(h2:CS.le (rng b (off+i*n) n) S)(h3:CS.le (rng b (off+(i+1)*n) ((cap-(i+1))*n)) S):CS.le (rng b off (cap*n)) S:=λb' o ⟨e,g1,g2⟩=>by
 have e1:(i+1)*n=i*n+n:=Xbs i n;have e2:(cap-(i+1))*n+(i+1)*n=cap*n:=by rw[←Xcs];grind
 by_cases c1:o<off+i*n
 .exact h1 b' o ⟨e,g1,c1⟩
 .by_cases c2:o<off+i*n+n
  .exact h2 b' o ⟨e,by omega,c2⟩
  .exact h3 b' o ⟨e,by omega,by omega⟩
theorem WuY{b a n c m:Nat}(h:a+n<=c):CS.disj (rng b a n) (rng b c m):=λb' o ⟨_,h1,h2⟩ ⟨_,h3,h4⟩=>by omega
theorem Wp1{e:Ty}{nu np:Nu}{xs:List e.den}{i:Nat}{S S1 S2:CS}(h:Wic w (Wy G w e) e.size nu np xs i S){d:e.den}{vs:List Value}{ns:List Pc}(hd:Wy G w e d vs ns)
  {b:Nat} (hb:np.blk=some b) (hm:Mem w b np.off vs) (hr:CS.le (rng b np.off e.size) S1) (hs:Sep (ns.map Pc.fp)) (fa:∀p∈ns,CS.le p.fp S2) (d1:CS.disj S S1) (d2:CS.disj S S2) (d3:CS.disj S1 S2)
  {S':CS} (l1:CS.le S S') (l2:CS.le S1 S') (l3:CS.le S2 S'):WbP w (Wy G w e) e.size nu (xs.set i d) S':=by
 obtain⟨h1,h2,h3,b',h4,h5,h6,h7,h8,h9,c1,c2,p1,p2,g1,g2,g3,g4,g5,g6⟩:=h;rw[hb]at h5;injection h5 with h5;subst h5;have bS:=Wa5 (λx c q hx=>WH e x c q hx) _ _ _ g1;rw[Xbi,Xce (by omega)]at bS;have aS:=WH _ _ _ _ hd;have e1:(i+1)*e.size=i*e.size+e.size:=Xbs i e.size;refine⟨by simp_all,h2,?_⟩;simp only[h4];have gA:=g6 _ (Xj ..);have gC:=g6 _ (Xf _ (Xj ..));have gp:∀s∈(p1++p2).map Pc.fp,CS.le s S:=λs hs=>g6 s (Xf _ (Xf _ hs));obtain⟨q1,q2⟩:=Xy.1 g5;obtain⟨q3,q4⟩:=Xy.1 q2;rw[h6]at hm hr;refine⟨by simp_all,h8,h9,c1++(vs++c2),p1++(ns++p2),Wp9 h3 g1 hd g2,?_,Xy.2 ⟨λs dq=>?_,?_⟩,λs dq=>?_⟩
 .refine g3.app (n:=i*e.size) ?_ bS;refine hm.app (n:=e.size) ?_ aS
  grind
 .
  simp only[Xz,Xo]at dq;have key:∀s,(CS.disj s (rng b nu.off (i*e.size)))->CS.disj s (rng b (nu.off+i*e.size) e.size)->CS.disj s (rng b (nu.off+(i+1)*e.size) ((nu.cap-(i+1))*e.size))->CS.disj (rng b nu.off (nu.cap*e.size)) s:=λs k1 k2 k3 b' o jY jH=>
   (WgC (show i<nu.cap by omega) (S:=λb o=>¬s b o) (λb o hh hs=>k1 b o hs hh) (λb o hh hs=>k2 b o hs hh) (λb o hh hs=>k3 b o hs hh) b' o jY) jH
  have yz:∀s∈(p1++p2).map Pc.fp,CS.disj (rng b nu.off (nu.cap*e.size)) s:=λs hs=>key s (q1 s (Xf _ hs)).symm (d1.mono (gp s hs) hr) (q3 s hs).symm;rcases dq with dq|dq|dq
  .simp_all
  .obtain⟨p,hp,rfl⟩:=Xw.1 dq;exact key _ (d2.mono gA (fa p hp)).symm (d3.mono hr (fa p hp)).symm (d2.mono gC (fa p hp)).symm
  simp_all
 .rw[Xz,Xz];rw[Xz]at q4 gp;refine WmN q4 hs (λs dq t ht=>?_);obtain⟨p,hp,rfl⟩:=Xw.1 dq;exact(d2.mono (gp t ht) (fa p hp)).symm
 .rcases Xs.1 dq with rfl|dq
  .exact WgC (show i<nu.cap by omega) (λb o hh=>l1 b o (gA b o hh)) (λb o hh=>l2 b o (hr b o hh)) (λb o hh=>l1 b o (gC b o hh))
  .simp only[Xz,Xo]at dq;rcases dq with dq|dq|dq
   .exactλb o hh=>l1 b o (gp s (by simp_all) b o hh)
   .obtain⟨p,hp,rfl⟩:=Xw.1 dq
    exactλb o hh=>l3 b o (fa p hp b o hh)
   .exactλb o hh=>l1 b o (gp s (by simp_all) b o hh)
def Nu.part(n:Nu)(lo hi:Nat):Nu:=⟨n.blk,if n.cap=lo then n.off else n.off+lo*n.esz,hi-lo,n.cap-lo,n.esz⟩
theorem Wls{n:Nu}{lo hi:Nat}:(n.part lo hi).hdr=n.vhdr lo hi:=by
 unfold Nu.hdr Nu.vhdr Nu.part;cases n.blk<;>rfl
theorem Wqn{e:Ty}{nu:Nu}{xs:List e.den}{S:CS}{lo hi:Nat}(h:WbP w (Wy G w e) e.size nu xs S)(h1:lo<=hi)(h2:hi<=nu.len):WbP w (Wy G w e) e.size (nu.part lo hi) ((xs.take hi).drop lo) S:=by
 obtain⟨g1,g2,g3⟩:=h;refine⟨by simp[Nu.part];omega,g2,?_⟩;show match nu.blk with|none=>_|some b=>_
 cases hb:nu.blk with
 |none=>simp_all
 |some b=>
  simp only[hb]at g3;obtain⟨g4,g5,g6,cs,ps,g7,g8,g9,su⟩:=g3;obtain⟨c1,c2,p1,p2,k1,k2,k3,k4⟩:=WeG xs cs ps hi g7;obtain⟨d1,d2,q1,q2,k5,k6,k7,k8⟩:=WeG (xs.take hi) c1 p1 lo k3;have hl:=Wa5 (λx c q hx=>WH e x c q hx) _ _ _ k7;rw[Xbi,Xbi,Xce (by omega)]at hl;have c7:(nu.cap-lo)*e.size+lo*e.size=nu.cap*e.size:=by rw[←Xcs];grind
  have ad:((xs.take hi).drop lo).length=hi-lo:=by simp;omega
  by_cases hc:nu.cap=lo
  .have h0:(xs.take hi).drop lo= []:=Xx (by omega);have e0:nu.cap-lo=0:=by omega
   simp only[Nu.part,Wf hc,e0,Nat.zero_mul,Xbb];rw[h0]at k8⊢;refine⟨Xch _,Xch _,?_,[],[],⟨rfl,rfl⟩,λj v hj=>by simp at hj,Xy.2 ⟨by simp,List.Pairwise.nil⟩,λs hs=>?_⟩
   .obtain⟨vs,T,r1,r2⟩:=g6;exact⟨vs,T,r1,by omega⟩
   .simp at hs;subst hs
    exactλb o ⟨_,r1,r2⟩=>WE r2 (by omega)
  .simp only[Nu.part,Wc hc,g2];have bg:CS.le (rng b (nu.off+lo*e.size) ((nu.cap-lo)*e.size)) (rng b nu.off (nu.cap*e.size)):=λb' o ⟨r0,r1,r2⟩=>⟨r0,by omega,by omega⟩;refine⟨by omega,by omega,?_,d2,q2,k8,?_,?_,λs hs=>?_⟩
   .grind
   .rw[k1,k5,List.append_assoc]at g8;exact(g8.right hl).left
   .obtain⟨r1,r2⟩:=Xy.1 g9;rw[k2,k6,Xz,Xz]at r1 r2;refine Xy.2 ⟨λs hs=>(r1 s (Xn _ (Xg _ hs))).mono bg (λ_ _ hh=>hh),?_⟩
    grind
   .rcases Xs.1 hs with rfl|hs
    .exactλb' o hh=>su _ (Xj ..) b' o (bg b' o hh)
    simp_all
theorem Wol{e:Ty}{nu:Nu}{xs:List e.den}{S:CS}{lo hi:Nat}(h:WbP w (Wy G w e) e.size nu xs S)(h1:lo<=hi)(h2:hi<=nu.len):WbP w (Wy G w e) e.size (nu.part lo hi) (List.drop lo (List.take hi xs)) S:=Wqn h h1 h2
theorem WqF(hg:GLe G G'){e:Ty}{nu np:Nu}{xs:List e.den}{i:Nat}{S S1:CS}(h:Wic w (Wy G w e) e.size nu np xs i S){d:e.ro.den}{vs:List Value}(hd:Enc G' e.ro d vs)
  {b:Nat} (hb:np.blk=some b) (hm:Mem w b np.off vs) (hr:CS.le (rng b np.off e.size) S1) (f1:Froz G' w S) (f2:Froz G' w S1):Wkc G' (Enc G' e.ro) ((WcN e xs).set i d) nu.hdr:=by
 obtain⟨h1,h2,h3,b',h4,h5,h6,h7,h8,h9,c1,c2,p1,p2,g1,g2,g3,g4,g5,g6⟩:=h;rw[hb]at h5;injection h5 with h5;subst h5;have bS:=Wa5 (λx c q hx=>WH e x c q hx) _ _ _ g1;have ni:=Wa5 (λx c q hx=>WH e x c q hx) _ _ _ g2;rw[Xbi,Xce (by omega)]at bS;rw[Xdv]at ni;have aS:=W6 _ _ _ hd;rw[WbI]at aS;have e1:(i+1)*e.size=i*e.size+e.size:=Xbs i e.size;rw[h6]at hm hr;have gA:=g6 _ (Xj ..);have gC:=g6 _ (Xf _ (Xj ..));have gp:∀p∈p1++p2,Froz G' w p.fp:=λp hp=>f1.mono (g6 _ (Xf _ (Xf _ (Xan hp))));have kJ:(xs.length-(i+1))*e.size<=(nu.cap-(i+1))*e.size:=Xaz _ (by omega);have E1:=Wln (λx c p hp hx=>Wd1 hg e x c p hp hx) _ _ _ (λq hq=>gp q (Xn _ hq)) g1;have E2:=Wln (λx c p hp hx=>Wd1 hg e x c p hp hx) _ _ _ (λq hq=>gp q (Xg _ hq)) g2;rw[WrI]at E1;rw[Wrz]at E2;have ad:(WcN e xs).length=xs.length:=WgK e xs;have eset:(WcN e xs).set i d=(WcN e xs).take i++(d::(WcN e xs).drop (i+1)):=by
  rw[Xeh,Wf (by omega)]
 unfold Nu.hdr;simp only[h4];refine .inr (.inl ⟨b,nu.off,nu.cap,c1++(vs++c2),by rw[List.length_set,ad,h1],by grind,h8,?_,λj v hj=>?_⟩)
 .rw[eset];exact Wd3 _ _ _ _ E1 ⟨vs,c2,rfl,hd,E2⟩
 .have s1:WfD G' b nu.off c1:=g3.stored (n:=i*e.size) (by omega) (f1.mono gA);have s2:WfD G' b (nu.off+i*e.size) vs:=hm.stored (n:=e.size) (by omega) (f2.mono hr);have s3:WfD G' b (nu.off+(i+1)*e.size) c2:=g4.stored (n:=(nu.cap-(i+1))*e.size) (by omega) (f1.mono gC);rw[Xas]at hj;split at hj
  .exact s1 j v hj
  .rename_i dG;rw[Xas]at hj;split at hj
   .have:=s2 _ v hj
    grind
   .have:=s3 _ v hj
    grind
theorem Wrw{α:Type}{R:α->List Value->Prop}{n:Nat}(hR:∀x c,R x c->c.length=n){nu:Nu}{xs:List α}(h:Wkc G R xs nu.hdr)(ad:xs.length=nu.len)(hn:nu.esz=n){lo hi:Nat}(h1:lo<=hi)(h2:hi<=nu.len)(h3:nu.blk=none->hi=0)(iL:nu.blk≠none->nu.len<=nu.cap/\nu.cap<=maxLen):
  Wkc G R ((xs.take hi).drop lo) (nu.vhdr lo hi):=by
 unfold Nu.hdr at h;unfold Nu.vhdr;cases hb:nu.blk with
 |none=>
  have:=h3 hb;refine .inl ⟨rfl,Xx (by simp;omega)⟩
 |some b=>
  obtain⟨sw,mJ⟩:=iL (by grind);simp only[hb]at h;have bg:((xs.take hi).drop lo).length=hi-lo:=by simp;omega
  by_cases h0:hi-lo=0
  .refine .inr (.inr ⟨_,nu.cap-lo,by rw[h0],Xx (by omega)⟩)
  .rcases h with⟨e,_⟩|⟨b',off,cap,cs,e,g1,g2,g3,g4⟩|⟨a,cap,e,bR⟩
   .cases e
   .injection e with e1 e2 e3;injection e1 with e1;injection e1 with e4 e5 e6;subst e4 e5 e3;rw[Wc (by omega)];refine .inr (.inl ⟨b,nu.off+lo*nu.esz,nu.cap-lo,(cs.take (hi*n)).drop (lo*n),by rw[bg],by omega,by omega,We7 hR _ _ lo (We4 hR _ _ hi g3),λj v hj=>?_⟩);rw[Xbo,Xbp]at hj;split at hj
    .rw[Xba,hn];exact g4 _ _ hj
    grind
   simp_all
def Leaf(ν:Nat->Nu)(t:Ty)(cs:List Cell)(ns:List Pc):Prop:=∀(lf k r:Nat),WbA t lf=some k->cs[k]?=some (.own r)->∃pc,ns[lf]?=some pc/\pc.nu=ν r
theorem Wfr:∀(t:Ty) (lf k:Nat),WbA t lf=some k->lf<t.owns/\k<t.size
 | .own _,lf,k,h=>by
  cases lf with
  |zero=>simp[WbA]at h;subst h;exact⟨Nat.one_pos,Nat.one_pos⟩
  |succ n=>simp[WbA]at h
 | .prod a b,lf,k,h=>by
  simp only[WbA]at h;split at h
  .obtain⟨h1,h2⟩:=Wfr a lf k h;exact⟨by show _<a.owns+b.owns;omega,by show _<a.size+b.size;omega⟩
  .obtain⟨j,hj,rfl⟩:=Xt.1 h;obtain⟨h1,h2⟩:=Wfr b _ j hj;exact⟨by show _<a.owns+b.owns;omega,by show _<a.size+b.size;omega⟩
 | .int _,_,_,h=>by simp[WbA]at h
 | .bool,_,_,h=>by simp[WbA]at h
 | .str,_,_,h=>by simp[WbA]at h
 | .slice _,_,_,h=>by simp[WbA]at h
theorem Leaf.none{ν:Nat->Nu}{t:Ty}{cs:List Cell}{ns:List Pc}(h:t.owns=0):Leaf ν t cs ns:=λlf k r h1 h2=>by
 have:=(Wfr t lf k h1).1;omega
theorem Wxb{ν:Nat->Nu}{e:Ty}{c:Cell}{ns:List Pc}(hc:∀r,c≠ .own r):Leaf ν (.own e) [c] ns:=λlf k r k1 k2=>by
 grind
theorem Wag(h:HR w0 F G ν φ objs nx w)(hg:GLe G G'):∀(t:Ty) (cs:List Cell) (vs:List Value) (d:t.den) (m l:List Nat),CellsRel G ν nx cs vs->Lent G' w φ objs l->m.Nodup->
  Waw t cs objs=some (d,m,l)->∃ns,Wy G' w t d vs ns/\Sep (ns.map Pc.fp)/\(∀p∈ns,CS.le p.fp (FromL φ objs m))/\(∀i∈m,Live objs i)/\(∀i∈l,Live objs i)/\Leaf ν t cs ns
 | .prod a b,cs,vs,d,m,l,hc,hl,bh,hf=>by
  simp only[Waw]at hf;split at hf
  .rename_i x m1 l1 y m2 l2 h1 h2;simp only[Option.some.injEq,Prod.mk.injEq]at hf;obtain⟨rfl,rfl,rfl⟩:=hf;obtain⟨n1,n2,n3⟩:=List.nodup_append.1 bh;obtain⟨q1,h3,s1,h4,h5,h5',f1⟩:=Wag h hg a _ (vs.take a.size) x m1 l1 (hc.take _) (hl.mono (by simp_all)) n1 h1;obtain⟨q2,h6,s2,h7,h8,h8',f2⟩:=Wag h hg b _ (vs.drop a.size) y m2 l2 (hc.drop _) (hl.mono (by simp_all)) n2 h2;refine⟨q1++q2,⟨_,_,q1,q2,(List.take_append_drop a.size vs).symm,rfl,h3,h6⟩,?_,?_,?_,?_,?_⟩
   .rw[Xz];refine WoY s1 s2 (A:=FromL φ objs m1) (B:=FromL φ objs m2) (λs hs=>?_) (λs hs=>?_) (FromL.disj h (λi hi hj=>n3 i hi i hj rfl))
    .grind
    grind
   .intro p hp b o hh;rcases Xo.1 hp with hp|hp
    .exact FromL.mono (λi hi=>Xn _ hi) b o (h4 p hp b o hh)
    .exact FromL.mono (λi hi=>Xg _ hi) b o (h7 p hp b o hh)
   .grind
   .grind
   .intro lf k r k1 k2;have hq:=W5 _ _ _ _ h3;simp only[WbA]at k1;split at k1
    .rename_i ac;obtain⟨_,hk⟩:=Wfr a lf k k1;obtain⟨pc,k3,k4⟩:=f1 lf k r k1 (by simp_all)
     grind
    .obtain⟨j,hj,rfl⟩:=Xt.1 k1;obtain⟨pc,k3,k4⟩:=f2 _ j r hj (by simp_all)
     grind
  grind
 | .own e,cs,vs,d,m,l,hc,hl,bh,hf=>by
  simp only[Waw]at hf;split at hf
  .rename_i id;obtain⟨v,rfl,⟨_,hv⟩,_⟩:=hc.single;subst hv;have nj:∀{S:CS},Leaf ν (.own e) [.own id] [⟨ν id,S⟩]:=λ{S} lf k r k1 k2=>by
    cases lf with
    |zero=>
     simp[WbA]at k1;simp_all
    |succ n=>simp[WbA]at k1
   obtain⟨⟨ys,m'⟩,ho,hf⟩:=Xt.1 hf;simp only[Prod.mk.injEq]at hf;obtain⟨rfl,rfl,rfl⟩:=hf;unfold WuO at ho;split at ho
   .rename_i e' xs bt;obtain⟨zs,bM,ho⟩:=Xt.1 ho;have ho:=Prod.mk.inj ho;obtain⟨rfl,rfl⟩:=ho;obtain⟨he,hy⟩:=Way bM;subst he;simp only at hy;subst hy;have aS:Live objs id:=⟨_,bt,by simp⟩;have aH:WbP w (Wy G w e') e'.size (ν id) xs (φ id):=h.ob _ _ bt;refine⟨[⟨ν id,φ id⟩],⟨_,rfl,rfl,Wc9 hg (Same.refl _ w) (λ_ _ hh=>hh) aH⟩,Xbn _ _,?_,?_,by simp,nj⟩
    .simp_all [FromL.one]
    simp_all
   .rename_i e' xs i p bt;split at ho
    .rename_i zs cR bM fD;split at ho
     .rename_i d' m'' ql;simp only[Option.some.injEq,Prod.mk.injEq]at ho;obtain⟨rfl,rfl⟩:=ho;obtain⟨he,hy⟩:=Way bM;subst he;simp only at hy;subst hy;obtain⟨n1,n2⟩:=Xac.1 bh;obtain⟨n3,n4⟩:=Xac.1 n2;have aS:Live objs id:=⟨_,bt,by simp⟩;have fE:Live objs p:=⟨_,fD,by simp⟩;obtain⟨mH,hole⟩:p<nx/\Wic w (Wy G w e') e'.size (ν id) (ν p) xs i (φ id):=h.ob _ _ bt;obtain⟨b,us,hb,bi,aM,bV,fU⟩:WcP G ν nx w p (φ p) (.box cR):=h.ob _ _ fD;obtain⟨ns,t1,t2,t3,t4,_,_⟩:=Wag h hg e' cR us d' m'' [] bV (λi hi=>by simp at hi) n4 ql;have dH:=WH _ _ _ _ t1;have qn:=Wk3 hg (Same.refl _ w) (λ_ _ hh=>hh) hole;rw[←bV.1,dH]at fU;have bQ:id≠p:=λe=>n1 (by simp_all);refine⟨[⟨ν id,FromL φ objs (id::p::m'')⟩],⟨_,rfl,rfl,Wp1 qn t1 hb aM fU t2 t3 ?_ ?_ ?_ ?_ ?_ ?_⟩,Xbn _ _,?_,?_,by simp,nj⟩
      .exactλb o h1 h2=>bQ (h.inj id p b o aS fE h1 h2)
      .exactλb o h1 ⟨j,hj,h2,h3⟩=>by
        have:=h.inj id j b o aS h2 h1 h3;simp_all
      .exactλb o h1 ⟨j,hj,h2,h3⟩=>by
        have:=h.inj p j b o fE h2 h1 h3;simp_all
      .simp_all [FromL.one]
      .simp_all [FromL.one]
      .grind [FromL.mono,Xf]
      .intro p hp;simp at hp;subst hp;exactλ_ _ hh=>hh
      simp_all
     grind
    grind
   grind
  .rename_i id lo hi;obtain⟨v,rfl,⟨_,g1,g2,g3,hv⟩,_⟩:=hc.single;subst hv;split at hf
   .rename_i e' xs bt;obtain⟨zs,bM,hf⟩:=Xt.1 hf;have hf:=And.intro (Prod.mk.inj hf).1 (Prod.mk.inj (Prod.mk.inj hf).2);obtain⟨rfl,rfl,rfl⟩:=hf;obtain⟨he,hy⟩:=Way bM;subst he;simp only at hy;subst hy;have aS:Live objs id:=⟨_,bt,by simp⟩;have aH:WbP w (Wy G w e') e'.size (ν id) xs (φ id):=h.ob _ _ bt;refine⟨[⟨(ν id).part lo hi,φ id⟩],⟨_,rfl,by rw[Wls],Wol (Wc9 hg (Same.refl _ w) (λ_ _ hh=>hh) aH) g1 g2⟩,Xbn _ _,?_,?_,by simp,Wxb (by simp_all)⟩
    .simp_all [FromL.one]
    simp_all
   grind
  .simp only[Option.some.injEq,Prod.mk.injEq]at hf;obtain⟨rfl,rfl,rfl⟩:=hf;obtain⟨v,rfl,hv,_⟩:=hc.single;simp only[CellRel]at hv;subst hv;exact⟨[⟨⟨none,0,0,0,e.size⟩,λ_ _=>False⟩],⟨_,rfl,rfl,rfl,rfl,rfl⟩,Xbn _ _,λp hp b o hh=>by simp_all,by simp,by simp,Wxb (by simp_all)⟩
  grind
 | .slice e,cs,vs,d,m,l,hc,hl,bh,hf=>by
  simp only[Waw]at hf;split at hf
  .rename_i id;obtain⟨v,rfl,⟨_,hv⟩,_⟩:=hc.single;subst hv;obtain⟨⟨ys,l'⟩,ho,hf⟩:=Xt.1 hf;simp only[Prod.mk.injEq]at hf;obtain⟨rfl,rfl,rfl⟩:=hf;unfold Wu7 at ho;split at ho
   .rename_i e' xs bt;obtain⟨zs,bM,ho⟩:=Xt.1 ho;have ho:=Prod.mk.inj ho;obtain⟨rfl,rfl⟩:=ho;obtain⟨he,hy⟩:=Way bM;subst he;simp only at hy;subst hy;have aS:Live objs id:=⟨_,bt,by simp⟩;have aH:WbP w (Wy G w e') e'.size (ν id) xs (φ id):=h.ob _ _ bt;refine⟨[],⟨rfl,_,rfl,Wje hg (hl id (by simp) aS) aH⟩,List.Pairwise.nil,by simp,by simp,?_,Leaf.none rfl⟩;simp_all
   .rename_i e' xs i p bt;split at ho
    .rename_i zs cR bM fD;split at ho
     .rename_i d' l'' ql;simp only[Option.some.injEq,Prod.mk.injEq]at ho;obtain⟨rfl,rfl⟩:=ho;obtain⟨he,hy⟩:=Way bM;subst he;simp only at hy;subst hy;have aS:Live objs id:=⟨_,bt,by simp⟩;have fE:Live objs p:=⟨_,fD,by simp⟩;obtain⟨mH,hole⟩:p<nx/\Wic w (Wy G w e') e'.size (ν id) (ν p) xs i (φ id):=h.ob _ _ bt;obtain⟨b,us,hb,bi,aM,bV,fU⟩:WcP G ν nx w p (φ p) (.box cR):=h.ob _ _ fD;obtain⟨ns,t1,t2,t3,t4,t5,_⟩:=Wag h hg e'.ro cR us d' [] l'' bV (hl.mono (λi hi=>Xf _ (Xf _ hi))) Xdd ql;obtain⟨t6,_⟩:=(Wa8 e'.ro d' us ns (Wos e')).1 t1;have dH:=W6 _ _ _ t6;rw[WbI]at dH;rw[←bV.1,dH]at fU;refine⟨[],⟨rfl,_,rfl,WqF hg hole t6 hb aM fU (hl id (by simp) aS) (hl p (by simp) fE)⟩,List.Pairwise.nil,by simp,by simp,?_,Leaf.none rfl⟩;simp_all
     grind
    grind
   grind
  .rename_i id lo hi;obtain⟨v,rfl,⟨_,g1,g2,g3,hv⟩,_⟩:=hc.single;subst hv;split at hf
   .rename_i e' xs bt;obtain⟨zs,bM,hf⟩:=Xt.1 hf;have hf:=And.intro (Prod.mk.inj hf).1 (Prod.mk.inj (Prod.mk.inj hf).2);obtain⟨rfl,rfl,rfl⟩:=hf;obtain⟨he,hy⟩:=Way bM;subst he;simp only at hy;subst hy;have aS:Live objs id:=⟨_,bt,by simp⟩;have aH:WbP w (Wy G w e') e'.size (ν id) xs (φ id):=h.ob _ _ bt;have iN:=Wje hg (hl id (by simp) aS) aH;refine⟨[],⟨rfl,_,rfl,?_⟩,List.Pairwise.nil,by simp,by simp,?_,Leaf.none rfl⟩
    .refine Wrw (n:=e'.size) (λx c hc=>by grind [WbI,W6]) iN (by rw[WgK];exact aH.1) aH.2.1 g1 g2 g3 (λhb=>?_);cases qo:(ν id).blk with
     |none=>simp_all
     |some b=>
      have:=aH.2.2;simp only[qo]at this;exact⟨by rw[←aH.1];omega,this.2.1⟩
    simp_all
   grind
  .simp only[Option.some.injEq,Prod.mk.injEq]at hf;obtain⟨rfl,rfl,rfl⟩:=hf;obtain⟨v,rfl,hv,_⟩:=hc.single;simp only[CellRel]at hv;subst hv;exact⟨[],⟨rfl,_,rfl,.inl ⟨rfl,rfl⟩⟩,List.Pairwise.nil,by simp,by simp,by simp,Leaf.none rfl⟩
  .rename_i c _ _ _;cases fC:Wj6 (.slice e) c with
   |none=>simp_all
   |some x=>
    simp only[fC,Xca,Option.some.injEq,Prod.mk.injEq]at hf;obtain⟨rfl,rfl,rfl⟩:=hf;obtain⟨v,rfl,hv,_⟩:=hc.single;exact⟨[],⟨rfl,Wgu hg hv fC⟩,List.Pairwise.nil,by simp,by simp,by simp,Leaf.none rfl⟩
  grind
 | .int k,cs,vs,d,m,l,hc,hl,bh,hf=>by
  simp only[Waw]at hf;split at hf
  .rename_i c;cases fC:Wj6 (.int k) c with
   |none=>simp_all
   |some x=>
    simp only[fC,Xca,Option.some.injEq,Prod.mk.injEq]at hf;obtain⟨rfl,rfl,rfl⟩:=hf;obtain⟨v,rfl,hv,_⟩:=hc.single;exact⟨[],⟨rfl,Wgu hg hv fC⟩,List.Pairwise.nil,by simp,by simp,by simp,Leaf.none rfl⟩
  grind
 | .bool,cs,vs,d,m,l,hc,hl,bh,hf=>by
  simp only[Waw]at hf;split at hf
  .rename_i c;cases fC:Wj6 .bool c with
   |none=>simp_all
   |some x=>
    simp only[fC,Xca,Option.some.injEq,Prod.mk.injEq]at hf;obtain⟨rfl,rfl,rfl⟩:=hf;obtain⟨v,rfl,hv,_⟩:=hc.single;exact⟨[],⟨rfl,Wgu hg hv fC⟩,List.Pairwise.nil,by simp,by simp,by simp,Leaf.none rfl⟩
  grind
 | .str,cs,vs,d,m,l,hc,hl,bh,hf=>by
  simp only[Waw]at hf;split at hf
  .rename_i c;cases fC:Wj6 .str c with
   |none=>simp_all
   |some x=>
    simp only[fC,Xca,Option.some.injEq,Prod.mk.injEq]at hf;obtain⟨rfl,rfl,rfl⟩:=hf;obtain⟨v,rfl,hv,_⟩:=hc.single;exact⟨[],⟨rfl,Wgu hg hv fC⟩,List.Pairwise.nil,by simp,by simp,by simp,Leaf.none rfl⟩
  grind
theorem WmO(h:HRel w0 F G ν objs nx w){t:Ty}{cs:List Cell}{vs:List Value}{d:t.den}(hc:CellsRel G ν nx cs vs)(ht:t.data=true)(hf:Waw t cs objs=some (d,[],[])):Enc G t d vs:=by
 obtain⟨φ,h⟩:=h;obtain⟨ns,h1,_⟩:=Wag (G':=G) h (λ_ _ _ hh=>hh) t cs vs d [] [] hc (λid bU=>by simp at bU) Xdd hf
 grind [Wa8]
end
end Go.Sx
namespace Go.Sx
set_option linter.unusedVariables false
set_option linter.unusedSimpArgs false
section
variable{w0:World}{F:CS}{nt:Slots}{G0 G G':GH}{ν ν':Nat->Nu}{φ:Nat->CS}{objs objs':Waa}{nx am:Nat}{st af:St}{a:Act}{w w':World}{P:Program}{T:Tab}{Γ:Ctx}
theorem Whx(i:Nat):∀(l:List Nat),Wcv i l=true↔i∈l
 | []=>by simp[Wcv]
 |j::l=>by
  simp only[Wcv,Bool.or_eq_true,Whx i l,Xs];simp_all
open Classical in
noncomputable def WrQ(G:GH)(w:World)(S:CS):GH:=λb o=>if S b o then w.cell? ⟨b,o,none⟩else G b o
theorem Wte{S:CS}{b o:Nat}(h:S b o):WrQ G w S b o=w.cell? ⟨b,o,none⟩:=by unfold WrQ;rw[Wf h]
theorem Wdn{S:CS}{b o:Nat}(h:¬S b o):WrQ G w S b o=G b o:=by unfold WrQ;rw[Wc h]
theorem Wi5(S:CS):Froz (WrQ G w S) w S:=λb o v hs hv=>by grind [Wte]
theorem HR.addG_le(h:HR w0 F G ν φ objs nx w)(l:List Nat):GLe G (WrQ G w (FromL φ objs l)):=λb o v hv=>by
 by_cases hs:FromL φ objs l b o
 .obtain⟨i,_,h1,h2⟩:=hs;rw[h.gf i b o h1 h2]at hv;cases hv
 grind [Wdn]
theorem HR.addG_w(h:HR w0 F G ν φ objs nx w)(l:List Nat):∀b o v,WrQ G w (FromL φ objs l) b o=some v->w.cell? ⟨b,o,none⟩=some v:=λb o v hv=>by
 by_cases hs:FromL φ objs l b o
 .grind [Wte]
 .rw[Wdn hs]at hv;exact h.g b o v hv
theorem HRel.freezeL(h:HRel w0 F G ν objs nx w)(gx:GExt w0.heap.size F G0 G)(l:List Nat):∃G1,GLe G G1/\HRel w0 F G1 ν (Sx.kill objs l) nx w/\GExt w0.heap.size F G0 G1/\
  ∀id∈l,∀(e:Ty) (xs:List e.den),Wp objs id=some (.arr e xs)->Wkc G1 (Enc G1 e.ro) (WcN e xs) (ν id).hdr:=by
 obtain⟨φ,h⟩:=h;have hC:=h.addG_le l;refine⟨WrQ G w (FromL φ objs l),hC,⟨φ,?_⟩,⟨λb o v hv=>hC b o v (gx.le b o v hv),λb o v hv=>?_⟩,λid bU e xs ho=>?_⟩
 .exact{
   g:=h.addG_w l
   ob:=λj ob hj=>by
    by_cases hd:ob= .dead
    .subst hd;trivial
    .obtain⟨hj,hn⟩:=WeE l j ob hj hd;exact WdX hC (Same.refl _ w) (λ_ _ hh=>hh) (λ_ _=>rfl) (Xm _) (h.lt j ⟨ob,hj,hd⟩) ob (h.ob j ob hj)
   gf:=λj b o hj hp=>by
    obtain⟨hj,hn⟩:=WdK hj;rw[Wdn (λ⟨i,hi,h1,h2⟩=>hn (by rw[h.inj j i b o hj h1 hp h2];exact hi))];exact h.gf j b o hj hp
   inj:=λj j' b o hj fb=>h.inj j j' b o (WdK hj).1 (WdK fb).1
   own:=λj b o hj=>h.own j b o (WdK hj).1
   lt:=λj hj=>h.lt j (WdK hj).1
   bl:=λj b o hj=>h.bl j b o (WdK hj).1
   le:=h.le}
 .by_cases hs:FromL φ objs l b o
  .obtain⟨i,_,h1,h2⟩:=hs;exact .inr (h.own i b o h1 h2)
  .rw[Wdn hs]at hv;exact gx.new b o v hv
 .exact Wje hC ((Wi5 _).mono (FromL.one bU ⟨_,ho,by simp⟩)) (h.ob _ _ ho)
structure Frz(w0:World)(F:CS)(nt:Slots)(G0 G:GH)(ν:Nat->Nu)(st:St)(l:List Nat)(a:Act)(w:World)(G1:GH):Prop where
 le:GLe G G1
 rel:Rel w0 F nt G0 G1 ν {env:=st.env,objs:=kill st.objs l,nx:=st.nx} a w
 sl:∀id∈l,∀(e:Ty) (xs:List e.den),Wp st.objs id=some (.arr e xs)->Wkc G1 (Enc G1 e.ro) (WcN e xs) (ν id).hdr
theorem Rel.frz(h:Rel w0 F nt G0 G ν st a w)(l:List Nat):∃G1,Frz w0 F nt G0 G ν st l a w G1:=by
 obtain⟨G1,h1,h2,h3,h4⟩:=h.h.freezeL h.gx l;exact⟨G1,h1,h.on h1 (λ_ _=>rfl) (Xm _) h2 h3,h4⟩
theorem Frz.cell{l:List Nat}{G1:GH}(h:Frz w0 F nt G0 G ν st l a w G1):∀(c:Cell) (v:Value),CellRel G ν st.nx c v->CellRel G1 ν st.nx (WmA st.objs l c) v:=by
 have mono:=λc v (hc:CellRel G ν st.nx c v)=>CellRel.mono (G':=G1) (ν':=ν) (am:=st.nx) h.le (λ_ _=>rfl) (Xm _) c v hc;intro c v hc;cases c with
 |own id=>
  simp only[WmA];cases he:Wcv id l with
  |false=>simp_all
  |true=>
   simp only[Wb];have hm:=(Whx id l).1 he;split
   .rename_i e xs ho;obtain⟨_,hv⟩:=hc;rw[hv];exact⟨_,rfl,h.sl id hm e xs ho⟩
   .trivial
 |vw id lo hi=>exact mono _ v hc
 |val t d=>exact mono _ v hc
 |nils=>exact mono _ v hc
 |aptr id=>exact mono _ v hc
 |ptr id off=>exact mono _ v hc
 |eptr id i off=>exact mono _ v hc
 |rptr t d off=>exact mono _ v hc
 |clos f caps=>exact mono _ v hc
 |junk=>trivial
theorem Frz.val{l:List Nat}{G1:GH}(h:Frz w0 F nt G0 G ν st l a w G1):∀(x:AVal) (v:Value),AValRel G ν st.nx x v->AValRel G1 ν st.nx (WhQ st.objs l x) v
 | .s (.one c),v,hx=>⟨h.cell c v hx.1,hx.2⟩
 | .s (.agg cs),v,⟨vs,he,h1,h2⟩=>by
  refine⟨vs,he,by simp[h1],λj c u hc hu=>?_⟩;rw[Xak]at hc;obtain⟨d,hd,rfl⟩:=Xt.1 hc;exact⟨h.cell d u (h2 j d u hd hu).1,(h2 j d u hd hu).2⟩
 | .tup xs,v,hx=>AValRel.mono h.le (λ_ _=>rfl) (Xm _) (.tup xs) v hx
end
end Go.Sx
