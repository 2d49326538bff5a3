/- The abstract machine, part 1: a reflective interpreter of the program's code over data, with its soundness over the model. -/
import Derived.WalkKit
import Derived.LoopN
import Derived.KernelRfl
import Derived.ProofKit
import Derived.OpenShut
import Derived.JoinedCond
open Nat renaming beq→Xbo,blt→Xga,succ_mul→Xbv,add_comm→Xcu,add_assoc→Xay,lt_of_lt_of_le→Xbi,mul_le_mul_right→Xbf,min_eq_left→Xca,add_zero→Xax,eq_of_beq_eq_true→Xcl,add_mul→Xcs,le_refl→Xn,zero_le→Xbk,le_trans→Xco,le_succ→Xdd,lt_succ_self→Xbq
open List renaming length→Xa,getD→Xc,append→Xf,replicate→Xt,length_append→Xz,length_cons→Xs,drop_drop→Xdm,take_length_add_append→Xfe,drop_left→Xfz,getElem?_append→Xav,getElem?_take→Xbl,getElem?_drop→Xbm,mem_append_left→Xk,mem_append_right→Xg,set_eq_take_append_cons_drop→Xeh,getElem?_eq_some_iff→Xad,mem_cons_of_mem→Xe,mem_map_of_mem→Xap,mem_cons_self→Xh,mem_singleton→Xaf,length_take→Xba,length_drop→Xdx,pairwise_cons→Xy,getElem?_eq_getElem→Xq,mapM_cons→Xfb,map_cons→Xak,getElem?_map→Xan,eq_nil_of_length_eq_zero→Xaa,length_map→Xae,map_nil→Xbp,map_toArray→Xdq,mem_map→Xw,mem_cons→Xr,pairwise_append→Xah,mem_append→Xm,map_append→Xu,pairwise_singleton→Xbc,nodup_cons→Xai,nodup_nil→Xdf
open Bool renaming and_eq_true→Xi
open Option renaming map_some→Xbx,map_eq_some_iff→Xv
open Array renaming getElem?_setIfInBounds_ne→Xes,length_toList→Xas
namespace Go.Sx
abbrev Wa:=@if_neg
abbrev Wb:=@if_pos
abbrev Wf:=@decide_eq_true
abbrev Wx:=@decide_eq_false
abbrev Wh:=@decide_eq_true_eq
abbrev Ww:=@decide_eq_false_iff_not
abbrev Wu:=@of_decide_eq_true
abbrev Wg:=@absurd
abbrev Wl:=@congrArg
abbrev Wav:=@if_true
abbrev Waw:=@if_false
theorem Wc{A:Type}(a b:A):cond true a b=a:=rfl
theorem We{A:Type}(a b:A):cond false a b=b:=rfl
inductive Ty where
 |int (k:IntKind)|bool|str|slice (e:Ty)|own (e:Ty)|prod (a b:Ty)
 deriving DecidableEq
def Ty.den:Ty->Type
 | .int _=>Int
 | .bool=>Bool
 | .str=>List UInt8
 | .slice e=>List e.den
 | .own e=>List e.den
 | .prod a b=>a.den×b.den
def Ty.size:Ty->Nat
 | .prod a b=>a.size+b.size
 |_=>1
def Ty.dflt:(t:Ty)->t.den
 | .int _=>(0:Int)
 | .bool=>false
 | .str=>([]:List UInt8)
 | .slice e=>([]:List e.den)
 | .own e=>([]:List e.den)
 | .prod a b=>(a.dflt,b.dflt)
def Ty.noRo:Ty->Bool
 | .slice _=>false
 | .own e=>e.noRo
 | .prod a b=>a.noRo&&b.noRo
 |_=>true
def Ty.ro:Ty->Ty
 | .own e=>.slice e.ro
 | .slice e=>.slice e
 | .prod a b=>.prod a.ro b.ro
 | .int k=>.int k
 | .bool=>.bool
 | .str=>.str
theorem Weh:∀t:Ty,t.ro.den=t.den
 | .own e=>Wl List (Weh e)
 | .slice _=>rfl
 | .prod a b=>by show(a.ro.den×b.ro.den)=(a.den×b.den);rw[Weh a,Weh b]
 | .int _| .bool| .str=>rfl
def WuI(t:Ty)(d:t.den):t.ro.den:=cast (Weh t).symm d
def WcE(t:Ty)(l:List t.den):List t.ro.den:=cast (Wl List (Weh t).symm) l
def WmM(t t':Ty)(d:t.den):Option t'.den:=
 if h:t=t' then some (h▸d)else none
def Wgp(e e':Ty)(l:List e.den):Option (List e'.den):=
 if h:e=e' then some (h▸l)else none
inductive Cell where
 |val (t:Ty) (d:t.den)
 |nils
 |own (id:Nat)
 |vw (id lo hi:Nat)
 |aptr (id:Nat)
 |ptr (id off:Nat)
 |eptr (id i off:Nat)
 |rptr (t:Ty) (d:t.den) (off:Nat)
 |clos (f:FuncId) (caps:List Nat)
 |junk
inductive AV where
 |one (c:Cell)
 |agg (cs:List Cell)
inductive AVal where
 |s (x:AV)
 |tup (xs:List AV)
inductive Ob where
 |box (cs:List Cell)
 |arr (e:Ty) (xs:List e.den)
 |hole (e:Ty) (xs:List e.den) (i p:Nat)
 |dead
abbrev Waj:=List (Nat×Ob)
structure St where
 env:List (Nat×AVal)
 objs:Waj
 nx:Nat
universe u
def look{α:Type u}:List (Nat×α)->Nat->Option α
 | [],_=>none
 |(k,v)::l,i=>match Xbo k i with|true=>some v|false=>look l i
abbrev GH:=Nat->Nat->Option Value
abbrev CS:=Nat->Nat->Prop
def CS.disj(A B:CS):Prop:=∀b o,A b o->B b o->False
def CS.le(A B:CS):Prop:=∀b o,A b o->B b o
def rng(b lo n:Nat):CS:=λb' o=>b'=b/\lo<=o/\o<lo+n
def Sep(l:List CS):Prop:=l.Pairwise CS.disj
structure Nu where
 blk:Option Nat
 off:Nat
 len:Nat
 cap:Nat
 esz:Nat
def Nu.hdr(n:Nu):Value:=match n.blk with
 |none=>.slice none 0 0
 |some b=>.slice (some ⟨b,n.off,none⟩) n.len n.cap
def Nu.vhdr(n:Nu)(lo hi:Nat):Value:=match n.blk with
 |none=>.slice none 0 0
 |some b=>.slice (some ⟨b,if n.cap=lo then n.off else n.off+lo*n.esz,none⟩) (hi-lo) (n.cap-lo)
structure Pc where
 nu:Nu
 fp:CS
def WfG(G:GH)(b off:Nat)(cs:List Value):Prop:=∀(j:Nat) (v:Value),cs[j]?=some v->G b (off+j)=some v
def EncL{α:Type}(R:α->List Value->Prop):List α->List Value->Prop
 | [],cs=>cs= []
 |x::l,cs=>∃c1 c2,cs=c1++c2/\R x c1/\EncL R l c2
def Wjj{α:Type}(G:GH)(R:α->List Value->Prop)(l:List α)(v:Value):Prop:=
 (v= .slice none 0 0/\l= [])\/
 (∃b off cap cs,v= .slice (some ⟨b,off,none⟩) l.length cap/\l.length<=cap/\cap<=maxLen/\EncL R l cs/\WfG G b off cs)\/
 ∃a cap,v= .slice (some a) 0 cap/\l= []
def Enc(G:GH):(t:Ty)->t.den->List Value->Prop
 | .int k,n,cs=>cs= [.int k n]
 | .bool,b,cs=>cs= [.bool b]
 | .str,s,cs=>cs= [.string ⟨List.toArray s⟩]
 | .slice e,l,cs=>∃v,cs= [v]/\Wjj G (Enc G e) l v
 | .own _,_,_=>False
 | .prod a b,d,cs=>∃c1 c2,cs=c1++c2/\Enc G a d.1 c1/\Enc G b d.2 c2
def CellRel(G:GH)(ν:Nat->Nu)(nx:Nat):Cell->Value->Prop
 | .val t d,v=>Enc G t d [v]
 | .nils,v=>v= .slice none 0 0
 | .own id,v=>id<nx/\v=(ν id).hdr
 | .vw id lo hi,v=>id<nx/\lo<=hi/\hi<=(ν id).len/\((ν id).blk=none->hi=0)/\v=(ν id).vhdr lo hi
 | .aptr id,v=>id<nx/\∃b,(ν id).blk=some b/\v= .pointer (some ⟨b,(ν id).off,none⟩)
 | .ptr id off,v=>id<nx/\∃b,(ν id).blk=some b/\v= .pointer (some ⟨b,(ν id).off+off,none⟩)
 | .eptr id i off,v=>id<nx/\i<(ν id).len/\∃b,(ν id).blk=some b/\v= .pointer (some ⟨b,(ν id).off+(i*(ν id).esz+off),none⟩)
 | .rptr t d off,v=>∃b o cs,v= .pointer (some ⟨b,o+off,none⟩)/\Enc G t d cs/\WfG G b o cs
 | .clos f caps,v=>∃vs:List Value,v= .func (.func f) #[] vs.toArray/\vs.length=caps.length/\
   ∀(j id:Nat) (u:Value),caps[j]?=some id->vs[j]?=some u->id<nx/\u.oneCell'=true/\∃b,(ν id).blk=some b/\u= .pointer (some ⟨b,(ν id).off+0,none⟩)
 | .junk,_=>True
def CellsRel(G:GH)(ν:Nat->Nu)(nx:Nat)(cs:List Cell)(vs:List Value):Prop:=
 vs.length=cs.length/\∀(j:Nat) (c:Cell) (v:Value),cs[j]?=some c->vs[j]?=some v->CellRel G ν nx c v/\v.oneCell'=true
def AvRel(G:GH)(ν:Nat->Nu)(nx:Nat):AV->Value->Prop
 | .one c,v=>CellRel G ν nx c v/\v.oneCell'=true
 | .agg cs,v=>∃vs:List Value,v= .agg vs.toArray/\CellsRel G ν nx cs vs
def Wr4(G:GH)(ν:Nat->Nu)(nx:Nat)(xs:List AV)(vs:List Value):Prop:=
 vs.length=xs.length/\∀(j:Nat) (x:AV) (v:Value),xs[j]?=some x->vs[j]?=some v->AvRel G ν nx x v
def AValRel(G:GH)(ν:Nat->Nu)(nx:Nat):AVal->Value->Prop
 | .s x,v=>AvRel G ν nx x v
 | .tup xs,v=>∃vs:List Value,v= .tuple vs.toArray/\Wr4 G ν nx xs vs
def Row(w:World)(b n:Nat):Prop:=∃vs T,w.heap[b]?=some (.cells vs T (0,0))/\n<=vs.size
def Mem(w:World)(b o:Nat)(vs:List Value):Prop:=∀(j:Nat) (v:Value),vs[j]?=some v->w.cell? ⟨b,o+j,none⟩=some v
def EncP{α:Type}(R:α->List Value->List Pc->Prop):List α->List Value->List Pc->Prop
 | [],cs,ps=>cs= []/\ps= []
 |x::l,cs,ps=>∃c1 c2 p1 p2,cs=c1++c2/\ps=p1++p2/\R x c1 p1/\EncP R l c2 p2
def OwnL{α:Type}(w:World)(R:α->List Value->List Pc->Prop)(n:Nat)(nu:Nu)(xs:List α)(S:CS):Prop:=
 xs.length=nu.len/\nu.esz=n/\match nu.blk with
  |none=>xs= []
  |some b=>xs.length<=nu.cap/\nu.cap<=maxLen/\Row w b (nu.off+nu.cap*n)/\∃cs ps,EncP R xs cs ps/\Mem w b nu.off cs/\
    Sep (rng b nu.off (nu.cap*n)::ps.map Pc.fp)/\∀s∈rng b nu.off (nu.cap*n)::ps.map Pc.fp,CS.le s S
def TyRel(G:GH)(w:World):(t:Ty)->t.den->List Value->List Pc->Prop
 | .own e,xs,vs,ns=>∃p:Pc,ns= [p]/\vs= [p.nu.hdr]/\OwnL w (TyRel G w e) e.size p.nu xs p.fp
 | .prod a b,d,vs,ns=>∃v1 v2 n1 n2,vs=v1++v2/\ns=n1++n2/\TyRel G w a d.1 v1 n1/\TyRel G w b d.2 v2 n2
 | .int k,d,vs,ns=>ns= []/\Enc G (.int k) d vs
 | .bool,d,vs,ns=>ns= []/\Enc G .bool d vs
 | .str,d,vs,ns=>ns= []/\Enc G .str d vs
 | .slice e,d,vs,ns=>ns= []/\Enc G (.slice e) d vs
def WhM{α:Type}(w:World)(R:α->List Value->List Pc->Prop)(n:Nat)(nu np:Nu)(xs:List α)(i:Nat)(S:CS):Prop:=
 xs.length=nu.len/\nu.esz=n/\i<xs.length/\∃b,nu.blk=some b/\np.blk=some b/\np.off=nu.off+i*n/\xs.length<=nu.cap/\nu.cap<=maxLen/\Row w b (nu.off+nu.cap*n)/\
  ∃c1 c2 p1 p2,EncP R (xs.take i) c1 p1/\EncP R (xs.drop (i+1)) c2 p2/\Mem w b nu.off c1/\Mem w b (nu.off+(i+1)*n) c2/\
   Sep (rng b nu.off (i*n)::rng b (nu.off+(i+1)*n) ((nu.cap-(i+1))*n)::(p1++p2).map Pc.fp)/\
   ∀s∈rng b nu.off (i*n)::rng b (nu.off+(i+1)*n) ((nu.cap-(i+1))*n)::(p1++p2).map Pc.fp,CS.le s S
def WcG(G:GH)(ν:Nat->Nu)(nx:Nat)(w:World)(id:Nat)(S:CS):Ob->Prop
 | .box cs=>∃b vs,(ν id).blk=some b/\Row w b ((ν id).off+cs.length)/\Mem w b (ν id).off vs/\CellsRel G ν nx cs vs/\CS.le (rng b (ν id).off cs.length) S
 | .arr e xs=>OwnL w (TyRel G w e) e.size (ν id) xs S
 | .hole e xs i p=>p<nx/\WhM w (TyRel G w e) e.size (ν id) (ν p) xs i S
 | .dead=>True
def Live(objs:Waj)(id:Nat):Prop:=∃ob,look objs id=some ob/\ob≠ .dead
structure WLe(F:CS)(w w':World):Prop where
 size:w.heap.size<=w'.heap.size
 row:∀(b:Nat) (vs:Array Value) (T:TypeId),w.heap[b]?=some (Obj.cells vs T (0,0))->∃vs':Array Value,w'.heap[b]?=some (Obj.cells vs' T (0,0))/\vs'.size=vs.size
 cell:∀(b o:Nat),b<w.heap.size->¬F b o->w'.cell? ⟨b,o,none⟩=w.cell? ⟨b,o,none⟩
 whole:∀(b:Nat),b<w.heap.size->(∀o,¬F b o)->w'.heap[b]?=w.heap[b]?
 os:w'.os=w.os
 output:w'.output=w.output
 tape:w'.tape=w.tape
structure HR(w0:World)(F:CS)(G:GH)(ν:Nat->Nu)(φ:Nat->CS)(objs:Waj)(nx:Nat)(w:World):Prop where
 g:∀b o v,G b o=some v->w.cell? ⟨b,o,none⟩=some v
 ob:∀id ob,look objs id=some ob->WcG G ν nx w id (φ id) ob
 gf:∀id b o,Live objs id->φ id b o->G b o=none
 inj:∀id bK b o,Live objs id->Live objs bK->φ id b o->φ bK b o->id=bK
 own:∀id b o,Live objs id->φ id b o->w0.heap.size<=b\/F b o
 lt:∀id,Live objs id->id<nx
 bl:∀id b o,Live objs id->φ id b o->b<w.heap.size
 le:WLe F w0 w
def HRel(w0:World)(F:CS)(G:GH)(ν:Nat->Nu)(objs:Waj)(nx:Nat)(w:World):Prop:=∃φ,HR w0 F G ν φ objs nx w
structure GExt(B:Nat)(F:CS)(G G':GH):Prop where
 le:∀b o v,G b o=some v->G' b o=some v
 new:∀b o v,G' b o=some v->G b o=some v\/B<=b\/F b o
structure Slots where
 n:Nat
 kept:List (Nat×Value)
def Slots.Ok(s:Slots)(d:Nat):Prop:=d<s.n/\∀p∈s.kept,p.1≠d
structure Rel(w0:World)(F:CS)(nt:Slots)(G0:GH)(G:GH)(ν:Nat->Nu)(st:St)(a:Act)(w:World):Prop where
 defers:a.defers= []
 ntm:a.tmps.size=nt.n
 par:∀p∈nt.kept,a.tmps[p.1]?=some p.2
 env:∀i x,look st.env i=some x->∃v,a.tmps[i]?=some v/\AValRel G ν st.nx x v
 h:HRel w0 F G ν st.objs st.nx w
 gx:GExt w0.heap.size F G0 G
end Go.Sx
namespace Go.Sx
set_option linter.unusedVariables false
inductive Shape where
 |basic|slice (e:TypeId)|struct (fs:List (Nat×TypeId))|ptr (e:TypeId)|arr (n:Nat) (e:TypeId)
structure TE where
 ty:Ty
 agg:Bool
 shape:Shape
abbrev Tab:=List (TypeId×TE)
def TE.plain(te:TE):Bool:=match te.shape with
 | .arr _ _=>false
 |_=>true
def Wm(k:IntKind)(a b:Int):Int:=k.wrap (a+b)
def W6(k:IntKind)(a b:Int):Int:=k.wrap (a-b)
def Wgb(k:IntKind)(a b:Int):Int:=k.wrap (a*b)
def Wq6(k:IntKind)(a b:Int):Int:=k.wrap (a.tdiv b)
def Whx(a b:Int):Int:=a.tmod b
def WuV(k:IntKind)(a b:Int):Int:=k.wrap (BitVec.ofInt k.bits a&&&BitVec.ofInt k.bits b).toNat
def ior(k:IntKind)(a b:Int):Int:=k.wrap (BitVec.ofInt k.bits a|||BitVec.ofInt k.bits b).toNat
def WwD(k:IntKind)(a b:Int):Int:=k.wrap (BitVec.ofInt k.bits a^^^BitVec.ofInt k.bits b).toNat
def Wxi(k:IntKind)(a b:Int):Int:=k.wrap (BitVec.ofInt k.bits a&&& ~~~BitVec.ofInt k.bits b).toNat
def Wxm(k:IntKind)(a b:Int):Int:=k.wrap (a*2^(min b.toNat k.bits))
def WrS(k:IntKind)(a b:Int):Int:=a.fdiv (2^(min b.toNat k.bits))
def Wxy(a b:List UInt8):Bool:=!decide (((a.length+b.length:Nat):Int)>IntKind.i64.max)
def Wj{α:Type}(l:List α):Int:=(l.length:Int)
def inb(i:Int)(n:Nat):Bool:=decide (0<=i)&&decide (i<(n:Int))
def WN(n:Nat):Bool:=decide (n<=1073741824)
def WtN(l:List Int):List UInt8:=l.map λn=>UInt8.ofNat n.toNat
def ieq(a b:Int):Bool:=a==b
def beq(a b:Bool):Bool:=a==b
def seq(a b:List UInt8):Bool:=a==b
def inz(b:Int):Bool:=!decide (b=0)
def inn(b:Int):Bool:=!decide (b<0)
def one(t:Ty)(d:t.den):AVal:=.s (.one (.val t d))
def Wxo(op:BinOp)(k:IntKind)(a b:Int):Option (Bool×AVal):=
 match op with
 | .add=>some (true,one (.int k) (Wm k a b))
 | .sub=>some (true,one (.int k) (W6 k a b))
 | .mul=>some (true,one (.int k) (Wgb k a b))
 | .quo=>some (inz b,one (.int k) (Wq6 k a b))
 | .rem=>some (inz b,one (.int k) (Whx a b))
 | .and=>some (true,one (.int k) (WuV k a b))
 | .or=>some (true,one (.int k) (ior k a b))
 | .xor=>some (true,one (.int k) (WwD k a b))
 | .andNot=>some (true,one (.int k) (Wxi k a b))
 | .eql=>some (true,one .bool (a==b))
 | .neq=>some (true,one .bool (a !=b))
 | .lss=>some (true,one .bool (decide (a<b)))
 | .leq=>some (true,one .bool (decide (a<=b)))
 | .gtr=>some (true,one .bool (decide (a>b)))
 | .geq=>some (true,one .bool (decide (a>=b)))
 |_=>none
def Wxv(op:BinOp)(a b:List UInt8):Option (Bool×AVal):=
 match op with
 | .add=>some (Wxy a b,one .str (a++b))
 | .eql=>some (true,one .bool (seq a b))
 | .neq=>some (true,one .bool (!seq a b))
 |_=>none
def WlK(te:TE)(c d:Cell):Option Bool:=
 match te,c,d with
 |⟨.int _,false,.basic⟩,.val (.int k) a,.val (.int k') b=>if k=k' then some (ieq a b)else none
 |⟨.bool,false,.basic⟩,.val .bool a,.val .bool b=>some (beq a b)
 |⟨.str,false,.basic⟩,.val .str a,.val .str b=>some (seq a b)
 |_,_,_=>none
def Wc6(T:Tab):List TypeId->List Cell->List Cell->Option Bool
 | [],[],[]=>some true
 |t::ts,c::cs,d::ds=>match look T t with
  |some te=>match WlK te c d,Wc6 T ts cs ds with
   |some x,some y=>some (x&&y)
   |_,_=>none
  |none=>none
 |_,_,_=>none
def binOp(T:Tab)(op:BinOp)(t:TypeId)(x y:AVal):Option (Bool×AVal):=
 match x,y with
 | .s (.one (.val (.int k) a)),.s (.one (.val (.int k') b))=>
  match op with
  | .shl=>some (inn b,one (.int k) (Wxm k a b))
  | .shr=>some (inn b,one (.int k) (WrS k a b))
  |_=>if k=k' then Wxo op k a b else none
 | .s (.one (.val .str a)),.s (.one (.val .str b))=>Wxv op a b
 | .s (.one (.val .bool a)),.s (.one (.val .bool b))=>
  match look T t with
  |some ⟨.bool,false,.basic⟩=>
   match op with
   | .eql=>some (true,one .bool (beq a b))
   | .neq=>some (true,one .bool (!beq a b))
   |_=>none
  |_=>none
 | .s (.agg cs),.s (.agg ds)=>
  match look T t with
  |some ⟨_,true,.struct fs⟩=>
   if decide (fs.map (·.1)=List.range fs.length)then
    match op,Wc6 T (fs.map (·.2)) cs ds with
    | .eql,some b=>some (true,one .bool b)
    | .neq,some b=>some (true,one .bool (!b))
    |_,_=>none
   else none
  |_=>none
 |_,_=>none
def unOp(op:UnOp)(x:AVal):Option (Bool×AVal):=
 match op,x with
 | .not,.s (.one (.val .bool b))=>some (true,one .bool (!b))
 | .neg,.s (.one (.val (.int k) n))=>some (true,one (.int k) (W6 k 0 n))
 |_,_=>none
def split:(t:Ty)->t.den->List Cell
 | .prod a b,d=>split a d.1++split b d.2
 | .int k,d=>[.val (.int k) d]
 | .bool,d=>[.val .bool d]
 | .str,d=>[.val .str d]
 | .slice e,d=>[.val (.slice e) d]
 | .own e,d=>[.junk]
def Was:Value->Option Cell
 | .int k n=>some (.val (.int k) n)
 | .bool b=>some (.val .bool b)
 | .string s=>some (.val .str s.data.toList)
 | .slice none 0 0=>some .nils
 | .pointer none=>some .junk
 | .nilFunc=>some .junk
 |_=>none
def Wsx:Value->Option AVal
 | .agg cs=>(cs.toList.mapM Was).map λl=>.s (.agg l)
 |v=>(Was v).map λc=>.s (.one c)
def ev(st:St):Operand->Option AVal
 | .tmp t=>look st.env t
 | .const v=>Wsx v
 | .func f=>some (.s (.one (.clos f [])))
 | .global _=>none
def St.put(st:St)(dst:Option Tmp)(x:AVal):St:=
 match dst with
 |some d=>{st with env:=(d,x)::st.env}
 |none=>st
def sub(agg:Bool)(cs:List Cell)(off n:Nat):Option AVal:=
 if agg then(if off+n<=cs.length then some (.s (.agg ((cs.drop off).take n)))else none)
 else(cs[off]?).map λc=>.s (.one c)
def Wht(T:Tab)(st:St)(t:TypeId)(x:AVal):Option AVal:=
 match look T t with
 |some te=>
  if te.plain then
   match x with
   | .s (.one (.ptr id off))=>match look st.objs id with
    |some (.box cs)=>sub te.agg cs off te.ty.size
    |_=>none
   | .s (.one (.eptr id i off))=>match look st.objs id with
    |some (.arr e xs)=>sub te.agg (split e (xs.getD i e.dflt)) off te.ty.size
    |_=>none
   | .s (.one (.rptr t' d off))=>sub te.agg (split t' d) off te.ty.size
   |_=>none
  else none
 |none=>none
def WuB(k:IntKind)(xs:List Int):Nat->Nat->List Cell
 |_,0=>[]
 |i,n+1=>.val (.int k) (xs.getD i (0:Int))::WuB k xs (i+1) n
def WfK(T:Tab)(st:St)(t:TypeId)(x:AVal):Option (Bool×AVal):=
 match look T t with
 |some ⟨.int k,true,.arr n _⟩=>match x with
  | .s (.one (.aptr id))=>match look st.objs id with
   |some (.arr (.int k') xs)=>if k'=k then some (decide (Xa xs=n),.s (.agg (WuB k xs 0 n)))else none
   |_=>none
  |_=>none
 |_=>none
def WbS(k:IntKind):List Cell->Option (List Int)
 | []=>some []
 | .val (.int k') d::cs=>if k'=k then(WbS k cs).map λl=>(d:Int)::l else none
 |_=>none
def asI:AVal->Option Int
 | .s (.one (.val (.int _) n))=>some n
 |_=>none
def asB:AVal->Option Bool
 | .s (.one (.val .bool b))=>some b
 |_=>none
def obL(o:Option Ob):Option (Bool×AVal):=match o with
 |some (.arr _ xs)=>some (true,one (.int .i64) (Wj xs))
 |some (.hole _ xs _ _)=>some (true,one (.int .i64) (Wj xs))
 |_=>none
def Wjn(T:Tab)(st:St)(t:TypeId)(x:AVal):Option (Bool×AVal):=
 match look T t,x with
 |some ⟨_,false,.slice _⟩,.s (.one (.val (.slice _) l))=>some (true,one (.int .i64) (Wj l))
 |some ⟨_,false,.slice _⟩,.s (.one .nils)=>some (true,one (.int .i64) (0:Int))
 |some ⟨_,false,.slice _⟩,.s (.one (.own id))=>obL (look st.objs id)
 |some ⟨_,false,.slice _⟩,.s (.one (.vw _ lo hi))=>some (true,one (.int .i64) ((hi-lo:Nat):Int))
 |some ⟨.str,false,.basic⟩,.s (.one (.val .str s))=>some (true,one (.int .i64) (Wj (α:=UInt8) s))
 |_,_=>none
def WgM(T:Tab)(t:TypeId)(f:Nat):Option (Nat×TE):=
 match look T t with
 |some ⟨_,_,.struct fs⟩=>match fs[f]? with
  |some (off,ft)=>match look T ft with
   |some te=>if te.plain then some (off,te)else none
   |none=>none
  |none=>none
 |_=>none
def Wch(T:Tab)(st:St)(t:TypeId)(x:AVal)(f:Nat):Option (Bool×AVal):=
 match WgM T t f,x with
 |some (off,_),.s (.one (.ptr id o))=>match look st.objs id with
  |some (.box _)=>some (true,.s (.one (.ptr id (o+off))))
  |_=>none
 |some (off,_),.s (.one (.eptr id i o))=>match look st.objs id with
  |some (.arr _ _)=>some (true,.s (.one (.eptr id i (o+off))))
  |_=>none
 |some (off,_),.s (.one (.rptr t' d o))=>some (true,.s (.one (.rptr t' d (o+off))))
 |_,_=>none
def Woo(T:Tab)(t:TypeId)(x:AVal)(f:Nat):Option (Bool×AVal):=
 match WgM T t f,x with
 |some (off,te),.s (.agg cs)=>(sub te.agg cs off te.ty.size).map λv=>(true,v)
 |_,_=>none
def obI(te:TE)(n:Int)(id:Nat)(o:Option Ob):Option (Bool×AVal):=match o with
 |some (.arr e xs)=>if te.ty=e.ro then some (inb n xs.length,.s (.one (.eptr id n.toNat 0)))else none
 |some (.hole e xs i p)=>if te.ty=e.ro then some (inb n xs.length&&Xbo n.toNat i,.s (.one (.ptr p 0)))else none
 |_=>none
def Wwv(te:TE)(n:Int)(id lo hi:Nat)(o:Option Ob):Option (Bool×AVal):=match o with
 |some (.arr e xs)=>if te.ty=e.ro then some (inb n (hi-lo),.s (.one (.eptr id (lo+n.toNat) 0)))else none
 |_=>none
def Wwd(te:TE)(n:Int)(k:Nat)(id:Nat)(o:Option Ob):Option (Bool×AVal):=match o with
 |some (.arr e xs)=>if te.ty=e then some (inb n k&&decide (xs.length=k),.s (.one (.eptr id n.toNat 0)))else none
 |_=>none
def Wcf(T:Tab)(st:St)(t:TypeId)(x i:AVal):Option (Bool×AVal):=
 match look T t,asI i with
 |some ⟨_,_,.slice et⟩,some n=>match look T et with
  |some te=>
   if te.plain then match x with
    | .s (.one (.val (.slice e) l))=>if te.ty=e then some (inb n (Xa l),.s (.one (.rptr e (Xc l n.toNat e.dflt) 0)))else none
    | .s (.one .nils)=>some (false,.s (.one .junk))
    | .s (.one (.own id))=>obI te n id (look st.objs id)
    | .s (.one (.vw id lo hi))=>Wwv te n id lo hi (look st.objs id)
    |_=>none
   else none
  |none=>none
 |some ⟨_,_,.arr k et⟩,some n=>match look T et with
  |some te=>
   if te.plain then match x with
    | .s (.one (.aptr id))=>Wwd te n k id (look st.objs id)
    |_=>none
   else none
  |none=>none
 |_,_=>none
def WnQ(T:Tab)(t:TypeId)(x i:AVal):Option (Bool×AVal):=
 match look T t,x,asI i with
 |some ⟨.str,_,.basic⟩,.s (.one (.val .str s)),some n=>some (inb n (Xa s),one (.int .u8) ((Xc s n.toNat 0).toNat:Int))
 |some ⟨.int k,_,.arr m et⟩,.s (.agg cs),some n=>match look T et with
  |some ⟨.int k',false,.basic⟩=>match WbS k cs with
   |some l=>if k'=k/\cs.length=m then some (inb n m,one (.int k) (Xc l n.toNat (0:Int)))else none
   |none=>none
  |_=>none
 |_,_,_=>none
def WcS(n:Nat)(lo hi:Option Int):Bool×Nat×Nat:=
 match lo,hi with
 |none,none=>(true,0,n)
 |some l,none=>(decide (0<=l)&&decide (l<=(n:Int)),l.toNat,n)
 |none,some h=>(decide (0<=h)&&decide (h<=(n:Int)),0,h.toNat)
 |some l,some h=>(decide (0<=h)&&decide (h<=(n:Int))&&decide (0<=l)&&decide (l<=h),l.toNat,h.toNat)
def WuR{α:Type}(l:List α)(lo hi:Option Int):List α:=
 match lo,hi with
 |none,none=>l
 |some a,none=>l.drop a.toNat
 |none,some b=>l.take b.toNat
 |some a,some b=>(l.take b.toNat).drop a.toNat
def WlT(st:St):Option Operand->Option (Option Int)
 |none=>some none
 |some x=>((ev st x).bind asI).map some
def WlH(T:Tab)(st:St)(t:TypeId)(x:AVal)(lo hi:Option Operand):Option (Bool×AVal):=
 match look T t,x,WlT st lo,WlT st hi with
 |some ⟨.str,_,.basic⟩,.s (.one (.val .str s)),some l,some h=>some ((WcS (Xa s) l h).1,one .str (WuR s l h))
 |some ⟨_,_,.slice et⟩,.s (.one (.val (.slice e) xs)),some l,some h=>match look T et with
  |some te=>if te.ty=e/\te.plain then some ((WcS (Xa xs) l h).1,one (.slice e) (WuR xs l h))else none
  |none=>none
 |_,_,_,_=>none
def Wup(st:St):AVal->Option Ob
 | .s (.one (.own id))=>look st.objs id
 |_=>none
def WwI(T:Tab)(o:Option Ob)(src dst:TypeId)(x:AVal):Option (Bool×AVal):=
 match look T src,look T dst,x with
 |some ⟨.int _,false,.basic⟩,some ⟨.int k,false,.basic⟩,.s (.one (.val (.int _) n))=>some (true,one (.int k) (k.wrap n))
 |some ⟨.str,false,.basic⟩,some ⟨.str,false,.basic⟩,.s (.one (.val .str s))=>some (true,one .str s)
 |some ⟨_,_,.slice et⟩,some ⟨.str,false,.basic⟩,.s (.one c)=>
  match look T et with
  |some ⟨.int .u8,false,.basic⟩=>match c with
   | .val (.slice (.int .u8)) l=>some (true,one .str (WtN l))
   | .nils=>some (true,one .str ([]:List UInt8))
   | .own _=>match o with
    |some (.arr (.int .u8) xs)=>some (true,one .str (WtN xs))
    |_=>none
   |_=>none
  |_=>none
 |_,_,_=>none
def WjB(T:Tab)(st:St)(src dst:TypeId)(x:AVal):Option (Bool×AVal):=WwI T (Wup st x) src dst x
def WqJ(st:St)(x:AVal):Option (Bool×AVal):=
 match x with
 | .s (.one (.rptr _ _ _))=>some (true,x)
 | .s (.one (.ptr id _))=>match look st.objs id with
  |some (.box _)=>some (true,x)
  |_=>none
 | .s (.one (.eptr id _ _))| .s (.one (.aptr id))=>match look st.objs id with
  |some (.arr _ _)=>some (true,x)
  |_=>none
 |_=>none
def WgC(st:St):List Operand->Option (List Nat)
 | []=>some []
 |o::l=>match ev st o,WgC st l with
  |some (.s (.one (.ptr id 0))),some r=>some (id::r)
  |_,_=>none
def WxB(a b:Int):Int:=if b<a then b else a
def Wv9(a b:Int):Int:=if a<b then b else a
def Wqb(T:Tab)(st:St)(op:BinOp)(t:TypeId)(a b:AVal):Option (Bool×AVal):=
 match a,b with
 | .s (.one (.own id)),.s (.one .nils)=>match look T t with
  |some ⟨_,false,.slice _⟩=>match look st.objs id with
   |some (.arr _ xs)=>match op with
    | .eql=>some (Xga 0 xs.length,one .bool false)
    | .neq=>some (Xga 0 xs.length,one .bool true)
    |_=>none
   |_=>none
  |_=>none
 |_,_=>none
def Wam(T:Tab)(st:St):Op->Option (Bool×AVal)
 | .move x| .assign x=>(ev st x).map λv=>(true,v)
 | .pick c a b=>match(ev st c).bind asB with
  |some p=>match ev st a,ev st b with
   |some (.s (.one (.val .bool x))),some (.s (.one (.val .bool y)))=>some (true,one .bool (bif p then x else y))
   |va,vb=>(bif p then va else vb).map λv=>(true,v)
  |none=>none
 | .load t a=>(ev st a).bind λv=>match WfK T st t v with
  |some r=>some r
  |none=>(Wht T st t v).map λr=>(true,r)
 | .nilCheck x=>(ev st x).bind (WqJ st)
 | .binOp op t x y _=>match ev st x,ev st y with
  |some a,some b=>match Wqb T st op t a b with
   |some r=>some r
   |none=>binOp T op t a b
  |_,_=>none
 | .unOp op _ x=>(ev st x).bind (unOp op)
 | .convert src dst x=>(ev st x).bind (WjB T st src dst)
 | .slice t x lo hi none=>(ev st x).bind λv=>WlH T st t v lo hi
 | .fieldAddr s x f=>(ev st x).bind λv=>Wch T st s v f
 | .field t x f=>(ev st x).bind λv=>Woo T t v f
 | .indexAddr t x i=>match ev st x,ev st i with
  |some a,some b=>Wcf T st t a b
  |_,_=>none
 | .index t x i=>match ev st x,ev st i with
  |some a,some b=>WnQ T t a b
  |_,_=>none
 | .extract t ix=>match ev st t with
  |some (.tup xs)=>(xs[ix]?).map λx=>(true,.s x)
  |_=>none
 | .makeFunc (.func f) first captured=>if first.isEmpty then(WgC st captured.toList).map λids=>(true,.s (.one (.clos f ids)))else none
 | .call c=>match c.callee,c.args.toList,c.argTypes.toList with
  | .builtin .len,[x],[t]=>(ev st x).bind (Wjn T st t)
  | .builtin .min,[x,y],[_,_]=>match ev st x,ev st y with
   |some (.s (.one (.val (.int k) a))),some (.s (.one (.val (.int k') b)))=>if k=k' then some (true,one (.int k) (WxB a b))else none
   |_,_=>none
  | .builtin .max,[x,y],[_,_]=>match ev st x,ev st y with
   |some (.s (.one (.val (.int k) a))),some (.s (.one (.val (.int k') b)))=>if k=k' then some (true,one (.int k) (Wv9 a b))else none
   |_,_=>none
  |_,_,_=>none
 |_=>none
def We2:Ty->List Cell
 | .prod a b=>We2 a++We2 b
 | .int k=>[.val (.int k) (0:Int)]
 | .bool=>[.val .bool false]
 | .str=>[.val .str ([]:List UInt8)]
 | .slice _=>[.nils]
 | .own _=>[.junk]
def Ty.data:Ty->Bool
 | .own _=>false
 | .prod a b=>a.data&&b.data
 |_=>true
def unfold:(t:Ty)->t.den->Nat->List Cell×Waj×Nat
 | .prod a b,d,nx=>
  let x:=unfold a d.1 nx
  let y:=unfold b d.2 x.2.2
  (x.1++y.1,x.2.1++y.2.1,y.2.2)
 | .own e,d,nx=>([.own nx],[(nx,.arr e d)],nx+1)
 | .int k,d,nx=>([.val (.int k) d],[],nx)
 | .bool,d,nx=>([.val .bool d],[],nx)
 | .str,d,nx=>([.val .str d],[],nx)
 | .slice e,d,nx=>([.val (.slice e) d],[],nx)
def Wjm(t:Ty)(c:Cell):Option t.den:=
 match c with
 | .val t' d=>WmM t' t d
 |_=>none
def Wul(e:Ty)(objs:Waj)(fc:List Cell->Option (e.den×List Nat×List Nat))(id:Nat):Option (List e.den×List Nat):=
 match look objs id with
 |some (.arr e' xs)=>(Wgp e' e xs).map λys=>(ys,[id])
 |some (.hole e' xs i p)=>match Wgp e' e xs,look objs p with
  |some ys,some (.box cs)=>match fc cs with
   |some (d,m,[])=>some (ys.set i d,id::p::m)
   |_=>none
  |_,_=>none
 |_=>none
def WuX(e:Ty)(objs:Waj)(fc:List Cell->Option (e.den×List Nat×List Nat))(id:Nat):Option (List e.den×List Nat):=
 match look objs id with
 |some (.arr e' xs)=>(Wgp e'.ro e (WcE e' xs)).map λys=>(ys,[id])
 |some (.hole e' xs i p)=>match Wgp e'.ro e (WcE e' xs),look objs p with
  |some ys,some (.box cs)=>match fc cs with
   |some (d,[],l)=>some (ys.set i d,id::p::l)
   |_=>none
  |_,_=>none
 |_=>none
def WaB:(t:Ty)->List Cell->Waj->Option (t.den×List Nat×List Nat)
 | .prod a b,cs,objs=>match WaB a (cs.take a.size) objs,WaB b (cs.drop a.size) objs with
  |some (x,m,r),some (y,m',r')=>some ((x,y),m++m',r++r')
  |_,_=>none
 | .own e,cs,objs=>match cs with
  | [.own id]=>(Wul e objs (λcs=>WaB e cs objs) id).map λp=>(p.1,p.2,[])
  | [.vw id lo hi]=>match look objs id with
   |some (.arr e' xs)=>(Wgp e' e xs).map λys=>((ys.take hi).drop lo,[id],[])
   |_=>none
  | [.nils]=>some (([]:List e.den),[],[])
  |_=>none
 | .slice e,cs,objs=>match cs with
  | [.own id]=>(WuX e objs (λcs=>WaB e cs objs) id).map λp=>(p.1,[],p.2)
  | [.vw id lo hi]=>match look objs id with
   |some (.arr e' xs)=>(Wgp e'.ro e (WcE e' xs)).map λys=>((ys.take hi).drop lo,[],[id])
   |_=>none
  | [.nils]=>some (([]:List e.den),[],[])
  | [c]=>(Wjm (.slice e) c).map λd=>(d,[],[])
  |_=>none
 | .int k,cs,_=>match cs with
  | [c]=>(Wjm (.int k) c).map λd=>(d,[],[])
  |_=>none
 | .bool,cs,_=>match cs with
  | [c]=>(Wjm .bool c).map λd=>(d,[],[])
  |_=>none
 | .str,cs,_=>match cs with
  | [c]=>(Wjm .str c).map λd=>(d,[],[])
  |_=>none
def Wcz(i:Nat):List Nat->Bool
 | []=>false
 |j::l=>Xbo i j||Wcz i l
def WbF:List Nat->Bool
 | []=>true
 |i::l=>!Wcz i l&&WbF l
def eqN:List Nat->List Nat->Bool
 | [],[]=>true
 |i::l,j::m=>Xbo i j&&eqN l m
 |_,_=>false
def Wg3(l m:List Nat):Bool:=l.all λi=>!Wcz i m
def kill(objs:Waj):List Nat->Waj
 | []=>objs
 |i::l=>(i,.dead)::kill objs l
def cellsOf(agg:Bool):AVal->Option (List Cell)
 | .s (.one c)=>if agg then none else some [c]
 | .s (.agg cs)=>if agg then some cs else none
 | .tup _=>none
inductive PTy where
 |v (t:Ty) (agg:Bool)
 |box (t:Ty)
 |mut (e:Ty)
 |clos (g:FuncId) (n:Nat)
 |kv (t:Ty) (agg:Bool)
 |rp (t:Ty)
 |boxal (t:Ty) (lf:Nat)
 |vj (t:Ty)
def Ty.owns:Ty->Nat
 | .own _=>1
 | .prod a b=>a.owns+b.owns
 |_=>0
def WfA:List PTy->Type
 | []=>Unit
 | .v t _::ps=>t.den×WfA ps
 | .box t::ps=>t.den×WfA ps
 | .mut e::ps=>List e.den×WfA ps
 | .clos _ _::ps=>WfA ps
 | .kv t _::ps=>t.den×WfA ps
 | .rp t::ps=>t.den×WfA ps
 | .vj _::ps=>WfA ps
 | .boxal t _::ps=>t.den×Nat×WfA ps
def Wgd:List PTy->Type
 | []=>Unit
 | .v _ _::ps=>Wgd ps
 | .box t::ps=>t.den×Wgd ps
 | .mut e::ps=>List e.den×Wgd ps
 | .clos _ _::ps=>Wgd ps
 | .kv t _::ps=>t.den×Wgd ps
 | .rp _::ps=>Wgd ps
 | .vj _::ps=>Wgd ps
 | .boxal t _::ps=>t.den×Wgd ps
def Whd:List PTy->Type
 | []=>Unit
 | .v t _::rs=>t.den×Whd rs
 | .box t::rs=>t.den×Whd rs
 | .mut _::rs=>Whd rs
 | .clos _ _::rs=>Whd rs
 | .kv _ _::rs=>Whd rs
 | .rp _::rs=>Whd rs
 | .vj t::rs=>t.den×Whd rs
 | .boxal _ _::rs=>Whd rs
structure Kp where
 id:Nat
 off:Nat
def kp0(l:List Nat):List Kp:=l.map λi=>⟨i,0⟩
structure Args(ps:List PTy) where
 d:WfA ps
 moved:List Nat
 lent:List Nat
 kept:List Kp
 all:List Nat
def WbK:Ty->Nat->Option Nat
 | .own _,n=>match n with
  |0=>some 0
  |_+1=>none
 | .prod a b,n=>if n<a.owns then WbK a n else(WbK b (n-a.owns)).map (a.size+ ·)
 | .int _,_=>none
 | .bool,_=>none
 | .str,_=>none
 | .slice _,_=>none
def Ws2(objs:Waj):Cell->AVal->Option Nat
 | .own r,.s (.one (.ptr p off))=>match off,look objs r with
  |0,some (.hole _ _ i p')=>if Xbo p p' then some i else none
  |_,_=>none
 | .own r,.s (.one (.eptr r' i off))=>match off,look objs r with
  |0,some (.arr _ _)=>if Xbo r r' then some i else none
  |_,_=>none
 |_,_=>none
def WsD:Cell->Bool
 | .vw _ _ _=>false
 |_=>true
def WuT:AVal->Bool
 | .s (.one c)=>WsD c
 | .s (.agg cs)=>cs.all WsD
 | .tup _=>true
def WmH(objs:Waj)(t:Ty)(m:List Nat)(x:AVal):Bool:=decide (m.length=t.owns)&&WuT x&&m.all λid=>match look objs id with
 |some (.arr _ _)=>true
 |_=>false
def Wko(l:List Nat):List AVal:=l.map λid=>.s (.one (.ptr id 0))
def Wai:(ps:List PTy)->List AVal->Waj->Option (Args ps)
 | [],xs,_=>match xs with
  | []=>some ⟨(),[],[],[],[]⟩
  |_=>none
 | .v t agg::ps,xs,objs=>match xs with
  |x::xs=>match(cellsOf agg x).bind λcs=>WaB t cs objs,Wai ps xs objs with
   |some (d,m,r),some A=>some ⟨(d,A.d),m++A.moved,r++A.lent,A.kept,m++A.all⟩
   |_,_=>none
  |_=>none
 | .box t::ps,xs,objs=>match xs with
  | .s (.one (.ptr id off))::xs=>match look objs id with
   |some (.box cs)=>match WaB t ((cs.drop off).take t.size) objs,Wai ps xs objs with
    |some (d,m,[]),some A=>some ⟨(d,A.d),m++A.moved,A.lent,⟨id,off⟩::A.kept,id::(m++A.all)⟩
    |_,_=>none
   |_=>none
  |_=>none
 | .mut e::ps,xs,objs=>match xs with
  | .s (.one (.own id))::xs=>match look objs id with
   |some (.arr e' ys)=>match Wgp e' e ys,Wai ps xs objs with
    |some d,some A=>some ⟨(d,A.d),A.moved,A.lent,⟨id,0⟩::A.kept,id::A.all⟩
    |_,_=>none
   |_=>none
  |_=>none
 | .clos g n::ps,xs,objs=>match xs with
  | .s (.one (.clos g' caps))::xs=>if g'=g/\caps.length=n then(Wai ps (Wko caps++xs) objs).map λA=>⟨A.d,A.moved,A.lent,A.kept,A.all⟩else none
  |_=>none
 | .kv t agg::ps,xs,objs=>match xs with
  |x::xs=>match(cellsOf agg x).bind λcs=>WaB t cs objs,Wai ps xs objs with
   |some (d,m,r),some A=>if WmH objs t m x then some ⟨(d,A.d),A.moved,r++A.lent,kp0 m++A.kept,m++A.all⟩else none
   |_,_=>none
  |_=>none
 | .rp t::ps,xs,objs=>match xs with
  | .s (.one (.ptr id off))::xs=>match look objs id with
   |some (.box cs)=>match WaB t ((cs.drop off).take t.size) objs,Wai ps xs objs with
    |some (d,[],r),some A=>if t.data then some ⟨(d,A.d),A.moved,id::(r++A.lent),A.kept,A.all⟩else none
    |_,_=>none
   |_=>none
  | .s (.one (.rptr t' d off))::xs=>match WaB t (((split t' d).drop off).take t.size) objs,Wai ps xs objs with
   |some (d,[],[]),some A=>if t.data then some ⟨(d,A.d),A.moved,A.lent,A.kept,A.all⟩else none
   |_,_=>none
  |_=>none
 | .vj _::_,_,_=>none
 | .boxal t lf::ps,xs,objs=>match xs with
  | .s (.one (.ptr id off))::y::xs=>match look objs id with
   |some (.box cs)=>match WaB t ((cs.drop off).take t.size) objs,Wai ps xs objs,((WbK t lf).bind λk=>((cs.drop off).take t.size)[k]?).bind λc=>Ws2 objs c y with
    |some (d,m,[]),some A,some i=>some ⟨(d,i,A.d),m++A.moved,A.lent,⟨id,off⟩::A.kept,id::(m++A.all)⟩
    |_,_,_=>none
   |_=>none
  |_=>none
def WcD:(t:Ty)->t.den->List Nat->Waj
 | .own e,d,ids=>match ids with
  |id::_=>[(id,.arr e d)]
  | []=>[]
 | .prod a b,d,ids=>WcD a d.1 (ids.take a.owns)++WcD b d.2 (ids.drop a.owns)
 | .int _,_,_=>[]
 | .bool,_,_=>[]
 | .str,_,_=>[]
 | .slice _,_,_=>[]
def Wej(cs:List Cell)(off:Nat)(ds:List Cell):List Cell:=cs.take off++ds++cs.drop (off+ds.length)
def Whs(o:Option Ob)(off:Nat)(ds:List Cell):Ob:=match o with
 |some (.box cs)=>.box (Wej cs off ds)
 |_=>.dead
def Wal:(ps:List PTy)->Wgd ps->List Kp->Waj->Nat->Waj×Nat
 | [],_,_,objs,nx=>(objs,nx)
 | .v _ _::ps,o,ids,objs,nx=>Wal ps o ids objs nx
 | .box t::ps,o,ids,objs,nx=>match ids with
  |k::ids=>
   let x:=unfold t o.1 nx
   Wal ps o.2 ids ((k.id,Whs (look objs k.id) k.off x.1)::(x.2.1++objs)) x.2.2
  | []=>(objs,nx)
 | .mut e::ps,o,ids,objs,nx=>match ids with
  |k::ids=>Wal ps o.2 ids ((k.id,.arr e o.1)::objs) nx
  | []=>(objs,nx)
 | .clos _ _::ps,o,ids,objs,nx=>Wal ps o ids objs nx
 | .kv t _::ps,o,ids,objs,nx=>Wal ps o.2 (ids.drop t.owns) (WcD t o.1 ((ids.take t.owns).map Kp.id)++objs) nx
 | .rp _::ps,o,ids,objs,nx=>Wal ps o ids objs nx
 | .vj _::ps,o,ids,objs,nx=>Wal ps o ids objs nx
 | .boxal t _::ps,o,ids,objs,nx=>match ids with
  |k::ids=>
   let x:=unfold t o.1 nx
   Wal ps o.2 ids ((k.id,Whs (look objs k.id) k.off x.1)::(x.2.1++objs)) x.2.2
  | []=>(objs,nx)
def WwW(agg:Bool)(cs:List Cell):AV:=if agg then .agg cs else match cs with
 | [c]=>.one c
 |_=>.agg cs
def Wby:(rs:List PTy)->Whd rs->Waj->Nat->List AV×Waj×Nat
 | [],_,objs,nx=>([],objs,nx)
 | .v t agg::rs,d,objs,nx=>
  let x:=unfold t d.1 nx
  let y:=Wby rs d.2 (x.2.1++objs) x.2.2
  (WwW agg x.1::y.1,y.2)
 | .box t::rs,d,objs,nx=>
  let x:=unfold t d.1 (nx+1)
  let y:=Wby rs d.2 ((nx,.box x.1)::(x.2.1++objs)) x.2.2
  (.one (.ptr nx 0)::y.1,y.2)
 | .mut _::rs,d,objs,nx=>Wby rs d objs nx
 | .clos _ _::rs,d,objs,nx=>Wby rs d objs nx
 | .kv _ _::rs,d,objs,nx=>Wby rs d objs nx
 | .rp _::rs,d,objs,nx=>Wby rs d objs nx
 | .vj t::rs,d,objs,nx=>
  let x:=unfold t d.1 nx
  let y:=Wby rs d.2 (x.2.1++objs) x.2.2
  (.agg (x.1++ [.junk])::y.1,y.2)
 | .boxal _ _::rs,d,objs,nx=>Wby rs d objs nx
def WwX:List AV->AVal
 | [x]=>.s x
 |xs=>.tup xs
structure Sig where
 ps:List PTy
 rs:List PTy
 fn:(R:Type)->WfA ps->(Wgd ps×Whd rs->Option R)->Option R
 run:WfA ps->Option (Wgd ps×Whd rs)
 law:∀(R:Type) (d:WfA ps) (k:Wgd ps×Whd rs->Option R),fn R d k=(run d).bind k
noncomputable def Sig.of(ps:List PTy)(rs:List PTy)(run:WfA ps->Option (Wgd ps×Whd rs)):Sig:=⟨ps,rs,λ_ d k=>(run d).bind k,run,λ_ _ _=>rfl⟩
theorem Sig.law'(s:Sig){R:Type}(d:WfA s.ps)(k:Wgd s.ps×Whd s.rs->Option R)(r:R)(h:s.fn R d k=some r):∃o,s.run d=some o/\k o=some r:=by
 rw[s.law]at h;cases hr:s.run d with
 |none=>simp_all
 |some o=>simp_all
def PTy.fresh:PTy->Bool
 | .v _ _=>true
 | .box t=>t.noRo
 | .mut e=>e.noRo
 | .clos _ _=>true
 | .kv t _=>t.noRo
 | .rp _=>true
 | .vj _=>true
 | .boxal t _=>t.noRo
def PTy.freshR:PTy->Bool
 | .v t _=>t.noRo
 | .box t=>t.noRo
 | .mut _=>true
 | .clos _ _=>true
 | .kv _ _=>true
 | .rp _=>true
 | .vj t=>t.noRo
 | .boxal _ _=>true
def Sig.fresh(s:Sig):Bool:=s.rs.all PTy.freshR&&s.ps.all PTy.fresh
abbrev Ctx:=List (FuncId×Sig)
def evs(st:St):List Operand->Option (List AVal)
 | []=>some []
 |o::l=>match ev st o,evs st l with
  |some x,some xs=>some (x::xs)
  |_,_=>none
abbrev KV(R:Type):=AVal->Waj->Nat->Option R
def WfD{R:Type}(sg:Sig)(st:St)(xs:List AVal)(k:KV R):Option R:=
 match Wai sg.ps xs st.objs with
 |some A=>
  if WbF A.all&&Wg3 A.lent A.all&&(sg.fresh||A.lent.isEmpty)then
   sg.fn R A.d λo=>
    let p:=Wal sg.ps o.1 A.kept (kill st.objs A.moved) st.nx
    let q:=Wby sg.rs o.2 p.1 p.2
    k (WwX q.1) q.2.1 q.2.2
  else none
 |none=>none
def WkR(objs:Waj)(ids:List Nat):Cell->Cell
 | .own id=>bif Wcz id ids then(match look objs id with
  |some (.arr e xs)=>.val (.slice e.ro) (WcE e xs)
  |_=>.junk)else .own id
 | .vw id lo hi=>.vw id lo hi
 | .val t d=>.val t d
 | .nils=>.nils
 | .aptr id=>.aptr id
 | .ptr id off=>.ptr id off
 | .eptr id i off=>.eptr id i off
 | .rptr t d off=>.rptr t d off
 | .clos f caps=>.clos f caps
 | .junk=>.junk
def Whk(objs:Waj)(ids:List Nat):AVal->AVal
 | .s (.one c)=>.s (.one (WkR objs ids c))
 | .s (.agg cs)=>.s (.agg (cs.map (WkR objs ids)))
 | .tup xs=>.tup xs
def Wsk:Cell->List Nat
 | .own id=>[id]
 | .vw _ _ _=>[]
 | .val _ _=>[]
 | .nils=>[]
 | .aptr _=>[]
 | .ptr _ _=>[]
 | .eptr _ _ _=>[]
 | .rptr _ _ _=>[]
 | .clos _ _=>[]
 | .junk=>[]
def Ws3:AVal->List Nat
 | .s (.one c)=>Wsk c
 | .s (.agg cs)=>cs.flatMap Wsk
 | .tup _=>[]
def Wt1:Ty->List Cell->List Nat
 | .prod a b,cs=>Wt1 a (cs.take a.size)++Wt1 b (cs.drop a.size)
 | .slice _,cs=>match cs with
  |c::_=>Wsk c
  | []=>[]
 | .own _,_=>[]
 | .int _,_=>[]
 | .bool,_=>[]
 | .str,_=>[]
def Whm(e:Ty):AVal->List Nat
 | .s (.one c)=>Wt1 e [c]
 | .s (.agg cs)=>Wt1 e cs
 | .tup _=>[]
def Wf6(objs:Waj)(p v:AVal):List Nat:=match p with
 | .s (.one (.eptr id _ _))=>match look objs id with
  |some (.arr e _)=>bif e.data then Ws3 v else Whm e v
  |_=>[]
 |_=>[]
def WlJ(ps:List (Nat×AVal)):List Nat:=ps.flatMap λp=>Ws3 p.2
def WdP(objs:Waj)(l:List Nat):Waj:=kill objs l
def Wkr(objs:Waj)(ps:List (Nat×AVal)):List (Nat×AVal):=ps.map λp=>(p.1,Whk objs (WlJ ps) p.2)
def Wnv{R:Type}(sg:Sig)(st:St)(xs:List AVal)(k:KV R):Option R:=
 bif sg.fresh then WfD sg st xs k else match Wai sg.ps xs st.objs with
  |some A=>match A.lent with
   | []=>WfD sg st xs k
   |_=>WfD sg {env:=st.env,objs:=kill st.objs A.lent,nx:=st.nx} (xs.map (Whk st.objs A.lent)) k
  |none=>none
def St.new(st:St)(dst:Option Tmp)(ob:Ob)(x:AVal):St:=
 {env:=st.env,objs:=(st.nx,ob)::st.objs,nx:=st.nx+1:St}.put dst x
def St.turn(st:St)(id:Nat)(ob:Ob):St:={st with objs:=(id,ob)::st.objs}
def WgT:AVal->Option (List Cell)
 | .s (.one c)=>some [c]
 | .s (.agg cs)=>some cs
 | .tup _=>none
def Wc1(T:Tab)(st:St)(t:TypeId)(x v:AVal):Option St:=
 match look T t,x,WgT v with
 |some te,.s (.one (.ptr id off)),some ds=>match look st.objs id with
  |some (.box cs)=>if decide (te.ty.size=ds.length)&&te.plain&&decide (off+ds.length<=cs.length)then some (st.turn id (.box (Wej cs off ds)))else none
  |_=>none
 |some te,.s (.one (.eptr id i off)),some ds=>match look st.objs id with
  |some (.arr e xs)=>
   if decide (te.ty.size=ds.length)&&te.plain&&decide (off+ds.length<=e.size)&&e.data then
    match WaB e (Wej (split e (xs.getD i e.dflt)) off ds) st.objs with
    |some (d,[],[])=>some (st.turn id (.arr e (xs.set i d)))
    |_=>none
   else if decide (te.ty.size=ds.length)&&te.plain&&decide (off=0)&&decide (ds.length=e.size)then
    match WaB e ds st.objs with
    |some (d,m,[])=>if WbF (id::m)then some {env:=st.env,objs:=(id,.arr e (xs.set i d))::kill st.objs m,nx:=st.nx}else none
    |_=>none
   else none
  |_=>none
 |_,_,_=>none
def WvM(st:St)(e:Ty):AVal->Option (List e.den)
 | .s (.one (.val (.slice e') d))=>Wgp e' e d
 | .s (.one .nils)=>some []
 | .s (.one (.own id))=>match look st.objs id with
  |some (.arr e' xs)=>Wgp e' e xs
  |_=>none
 | .s (.one (.vw id lo hi))=>match look st.objs id with
  |some (.arr e' xs)=>(Wgp e' e xs).map λys=>(ys.take hi).drop lo
  |_=>none
 |_=>none
def WtM(st:St)(e:Ty):AVal->Option (List e.den×List Nat)
 | .s (.one .nils)=>some ([],[])
 | .s (.one (.own id))=>match look st.objs id with
  |some (.arr e' xs)=>(Wgp e' e xs).map λys=>(ys,[id])
  |_=>none
 |_=>none
def WxG(st:St):AVal->Option Ty
 | .s (.one (.own id))=>match look st.objs id with
  |some (.arr e _)=>some e
  |_=>none
 |_=>none
def WeX{R:Type}(st:St)(te:Ty)(s x:AVal)(k:KV R):Option R:=
 match s with
 | .s (.one .nils)=>match WxG st x with
  |some e=>if e.ro=te then match WtM st e x with
    |some (l,m)=>bif WN l.length then k (.s (.one (.own st.nx))) ((st.nx,.arr e l)::kill st.objs m) (st.nx+1)else none
    |none=>none
   else none
  |none=>none
 | .s (.one (.own id))=>match look st.objs id with
  |some (.arr e xs)=>if e.ro=te then match WtM st e x with
    |some (l,m)=>if WbF (id::m)then(bif WN (xs.length+l.length)then k (.s (.one (.own st.nx))) ((st.nx,.arr e (Xf xs l))::kill st.objs (id::m)) (st.nx+1)else none)else none
    |none=>none
   else none
  |_=>none
 |_=>none
def Wua(st:St):AVal->AVal->Bool
 | .s (.one (.own id)),_=>match look st.objs id with
  |some (.arr e _)=>e.data
  |_=>true
 | .s (.one .nils),.s (.one (.own id))=>match look st.objs id with
  |some (.arr e _)=>e.data
  |_=>true
 |_,_=>true
def WdZ{R:Type}(T:Tab)(st:St)(t t2:TypeId)(s x:AVal)(k:KV R):Option R:=
 match look T t,look T t2 with
 |some ⟨_,false,.slice et⟩,some _=>match look T et with
  |some te=>
   if t=t2/\te.plain/\te.ty.data then
    bif !Wua st s x then WeX st te.ty s x k else
    match s,WvM st te.ty x with
    | .s (.one .nils),some l=>bif WN l.length then k (.s (.one (.own st.nx))) ((st.nx,.arr te.ty l)::st.objs) (st.nx+1)else none
    | .s (.one (.own id)),some l=>match look st.objs id with
     |some (.arr e xs)=>match WmM (.own e) (.own te.ty) xs with
      |some ys=>bif WN (Xa ys+l.length)then k (.s (.one (.own st.nx))) ((st.nx,.arr te.ty (Xf ys l))::(id,.dead)::st.objs) (st.nx+1)else none
      |none=>none
     |_=>none
    | .s (.one (.vw id 0 hi)),some l=>match look st.objs id with
     |some (.arr e xs)=>match WmM (.own e) (.own te.ty) xs with
      |some ys=>bif WN (hi+l.length)then k (.s (.one (.own st.nx))) ((st.nx,.arr te.ty (Xf (ys.take hi) l))::(id,.dead)::st.objs) (st.nx+1)else none
      |none=>none
     |_=>none
    |_,_=>none
   else none
  |none=>none
 |_,_=>none
def WmP(T:Tab)(fs:List (Nat×TypeId)):List (Nat×AVal)->List Cell->Option (List Cell)
 | [],cs=>some cs
 |(i,x)::ps,cs=>match fs[i]? with
  |some (off,ft)=>match look T ft,WgT x with
   |some te,some ds=>if decide (te.ty.size=ds.length)&&decide (off+ds.length<=cs.length)then WmP T fs ps (Wej cs off ds)else none
   |_,_=>none
  |none=>none
def WqU(e:Ty)(objs:Waj):List (Nat×AVal)->List e.den->Option (List e.den)
 | [],xs=>some xs
 |(i,x)::ps,xs=>match WgT x with
  |some ds=>match WaB e ds objs with
   |some (d,[],[])=>if i<xs.length then WqU e objs ps (xs.set i d)else none
   |_=>none
  |none=>none
def WcI(st:St):List (Nat×Operand)->Option (List (Nat×AVal))
 | []=>some []
 |(i,o)::l=>match ev st o,WcI st l with
  |some x,some xs=>some ((i,x)::xs)
  |_,_=>none
inductive An where
 |nest (e:Ty)
 |view
 |opn
def Ww6(A:List (Nat×An))(o:Oper):Option An:=match o.dst with
 |some d=>look A d
 |none=>none
def Wdt{R:Type}(st:St)(e:Ty)(ps:List (Nat×AVal))(k:KV R):Option R:=
 match ps with
 | [p]=>if p.1=0 then match WgT (Whk st.objs (Whm e p.2) p.2)with
  |some ds=>match WaB e ds (WdP st.objs (Whm e p.2))with
   |some (d,m,[])=>if WbF m then k (.s (.one (.own st.nx))) ((st.nx,.arr e [d])::kill (WdP st.objs (Whm e p.2)) m) (st.nx+1)else none
   |_=>none
  |none=>none
  else none
 |_=>none
def Wfx{R:Type}(st:St)(te:Ty)(id:Nat)(l h:Option Int)(k:KV R):Option R:=
 match look st.objs id with
 |some (.arr e xs)=>if te=e.ro then bif (WcS (Xa xs) l h).1 then k (.s (.one (.vw id (WcS (Xa xs) l h).2.1 (WcS (Xa xs) l h).2.2))) st.objs st.nx else none else none
 |_=>none
def WsA(o:Option Ob)(n:Nat):Bool:=match o with
 |some (.box cs)=>Xbo cs.length n
 |_=>false
def rxe{R:Type}(T:Tab)(Γ:Ctx)(A:List (Nat×An))(o:Oper)(st:St)(k:KV R):Option R:=
 match o.op with
 | .alloc t=>match look T t with
  |some ⟨e,true,.arr n _⟩=>if e.data&&WN n then k (.s (.one (.aptr st.nx))) ((st.nx,.arr e (Xt n e.dflt))::st.objs) (st.nx+1)else none
  |some te=>if te.plain then k (.s (.one (.ptr st.nx 0))) ((st.nx,.box (We2 te.ty))::st.objs) (st.nx+1)else none
  |none=>none
 | .box t x=>match look T t,(ev st x).bind WgT with
  |some _,some cs=>k (.s (.one (.ptr st.nx 0))) ((st.nx,.box cs)::st.objs) (st.nx+1)
  |_,_=>none
 | .build t parts=>match look T t,WcI st parts.toList with
  |some ⟨ty,true,.struct fs⟩,some ps=>
   if fs.all (λf=>match look T f.2 with|some te=>te.plain|none=>false)then
    match WmP T fs ps (We2 ty)with
    |some cs=>k (.s (.agg cs)) st.objs st.nx
    |none=>none
   else none
  |_,_=>none
 | .buildSlice t n parts=>match look T t,WcI st parts.toList with
  |some ⟨_,false,.slice et⟩,some ps=>match look T et with
   |some te=>match Ww6 A o with
    |some (.nest e)=>if decide (n=1)&&decide (e.ro=te.ty)&&te.plain&&decide (te.ty.size<=16777216)then Wdt st e ps k else none
    |_=>match WqU te.ty (WdP st.objs (WlJ ps)) (Wkr st.objs ps) (Xt n te.ty.dflt)with
    |some xs=>if decide (n*te.ty.size<=16777216)&&te.ty.data&&te.plain then k (.s (.one (.own st.nx))) ((st.nx,.arr te.ty xs)::WdP st.objs (WlJ ps)) (st.nx+1)else none
    |none=>none
   |none=>none
  |_,_=>none
 | .makeSlice t n c=>match look T t,(ev st n).bind asI,(ev st c).bind asI with
  |some ⟨_,false,.slice et⟩,some n',some c'=>match look T et with
   |some te=>match Ww6 A o with
    |some (.nest e)=>if decide (e.ro=te.ty)&&te.plain then(bif decide (0<=n')&&decide (n'<=c')&&WN c'.toNat then k (.s (.one (.own st.nx))) ((st.nx,.arr e (Xt n'.toNat e.dflt))::st.objs) (st.nx+1)else none)else none
    |_=>if te.ty.data&&te.plain then(bif decide (0<=n')&&decide (n'<=c')&&WN c'.toNat then k (.s (.one (.own st.nx))) ((st.nx,.arr te.ty (Xt n'.toNat te.ty.dflt))::st.objs) (st.nx+1)else none)else none
   |none=>none
  |_,_,_=>none
 | .store t a x=>match ev st a,ev st x with
  |some p,some v=>match Wc1 T {env:=st.env,objs:=WdP st.objs (Wf6 st.objs p v),nx:=st.nx} t p (Whk st.objs (Wf6 st.objs p v) v)with
   |some af=>match o.dst with
    |none=>k (.tup []) af.objs af.nx
    |some _=>none
   |none=>none
  |_,_=>none
 | .slice t x lo hi none=>match ev st x with
  |some (.s (.one (.own id)))=>match look T t,WlT st lo,WlT st hi with
   |some ⟨_,false,.slice et⟩,some l,some h=>match look T et with
    |some te=>match Ww6 A o with
     |some .view=>if te.plain then Wfx st te.ty id l h k else none
     |_=>match l,h,look st.objs id with
      |none,some h,some (.arr e xs)=>if te.ty=e.ro/\te.plain then(bif decide (0<=h)&&decide (h<=(xs.length:Int))then k (.s (.one (.own st.nx))) ((st.nx,.arr e (xs.take h.toNat))::(id,.dead)::st.objs) (st.nx+1)else none)else none
      |none,some h,some (.hole e xs i p)=>if te.ty=e.ro/\te.plain/\WsA (look st.objs p) e.size then(bif decide (0<=h)&&decide (h<=(xs.length:Int))&&decide (h<=(i:Int))then k (.s (.one (.own st.nx))) ((st.nx,.arr e (xs.take h.toNat))::(id,.dead)::(p,.dead)::st.objs) (st.nx+1)else none)else none
      |_,_,_=>none
    |none=>none
   |_,_,_=>none
  |_=>match Wam T st o.op with
   |some (c,v)=>bif c then k v st.objs st.nx else none
   |none=>none
 | .call c=>match c.callee,c.args.toList,c.argTypes.toList with
  | .builtin .append,[s,x],[t,t2]=>match ev st s,ev st x with
   |some sv,some xv=>WdZ T st t t2 sv xv k
   |_,_=>none
  | .builtin .clear,[x],[t]=>match ev st x with
   |some (.s (.one (.vw id lo hi)))=>match look T t,look st.objs id with
    |some ⟨_,false,.slice et⟩,some (.arr e xs)=>match look T et with
     |some te=>if te.ty=e/\te.plain/\e.data then k (.tup []) ((id,.arr e (xs.take lo++Xt (hi-lo) e.dflt++xs.drop hi))::st.objs) st.nx else none
     |none=>none
    |_,_=>none
   |_=>none
  | .builtin _,_,_=>match Wam T st o.op with
   |some (c,v)=>bif c then k v st.objs st.nx else none
   |none=>none
  | .value f,args,_=>match ev st f,evs st args with
   |some (.s (.one (.clos g caps))),some xs=>match look Γ g with
    |some sg=>Wnv sg st (xs++Wko caps) k
    |none=>none
   |_,_=>none
  |_,_,_=>none
 |op=>match Wam T st op with
  |some (c,v)=>bif c then k v st.objs st.nx else none
  |none=>none
def rx1{R:Type}(T:Tab)(Γ:Ctx)(A:List (Nat×An))(o:Oper)(st:St)(k:St->Option R):Option R:=
 rxe T Γ A o st λx objs nx=>k (({env:=st.env,objs:=objs,nx:=nx}:St).put o.dst x)
def rxg{R:Type}(T:Tab)(Γ:Ctx)(A:List (Nat×An))(ops:Array Oper)(o:Oper)(st:St)(k:St->Option R):Option R:=
 match o.guard with
 |none=>rx1 T Γ A o st k
 |some (j,want)=>match(ops[j]?).bind (·.dst)with
  |some t=>match look st.env t with
   |some (.tup [])=>k (st.put o.dst (.tup []))
   |some x=>match asB x with
    |some b=>bif b
     then(if want then rx1 T Γ A o (st.put (some t) (one .bool true)) k else k ((st.put (some t) (one .bool true)).put o.dst (.tup [])))
     else(if want then k ((st.put (some t) (one .bool false)).put o.dst (.tup []))else rx1 T Γ A o (st.put (some t) (one .bool false)) k)
    |none=>none
   |none=>none
  |none=>none
inductive Ex where
 |normal|exit (id:Nat)|ret
def Wol{R:Type}(f:St->(Ex->St->Option R)->Option R):Nat->St->(Ex->St->Option R)->Option R
 |0,_,_=>none
 |n+1,st,k=>f st λe af=>match e with
  | .normal=>Wol f n af k
  | .exit id=>k (.exit id) af
  | .ret=>k .ret af
inductive Ghost where
 |canon (slots:List Nat)
 |adopt (slot:Nat) (e:Ty)
 |freeze (slot:Nat)
 |adoptC (slot off:Nat) (e:Ty)
 |freezeC (slot off:Nat)
 |nest (dst:Nat) (e:Ty)
 |view (dst:Nat)
 |opn (dst:Nat)
 |unfE (slot:Nat)
 |unfS (slot:Nat) (ix:Option Nat)
 |unfC (slot off:Nat) (ix:Option Nat)
 |empt (slot:Nat) (e:Ty)
 |refold (slot:Nat)
 |solo (slot:Nat)
 |soloC (slot off:Nat)
def Wm3:List Ghost->List (Nat×An)
 | []=>[]
 | .nest d e::l=>(d,.nest e)::Wm3 l
 | .view d::l=>(d,.view)::Wm3 l
 | .opn d::l=>(d,.opn)::Wm3 l
 | .canon _::l=>Wm3 l
 | .adopt _ _::l=>Wm3 l
 | .freeze _::l=>Wm3 l
 | .adoptC _ _ _::l=>Wm3 l
 | .freezeC _ _::l=>Wm3 l
 | .unfE _::l=>Wm3 l
 | .unfS _ _::l=>Wm3 l
 | .unfC _ _ _::l=>Wm3 l
 | .refold _::l=>Wm3 l
 | .empt _ _::l=>Wm3 l
 | .solo _::l=>Wm3 l
 | .soloC _ _::l=>Wm3 l
def Wbo:Cell->List Nat
 | .own id| .aptr id| .ptr id _| .eptr id _ _| .vw id _ _=>[id]
 | .clos _ caps=>caps
 |_=>[]
def Wfs:AV->List Nat
 | .one c=>Wbo c
 | .agg cs=>cs.flatMap Wbo
def Wbb:AVal->List Nat
 | .s x=>Wfs x
 | .tup xs=>xs.flatMap Wfs
def WkU:Nat->List Nat->List Nat->Waj->List Nat
 |0,_,acc,_=>acc
 |n+1,todo,acc,objs=>match todo with
  | []=>acc
  |i::l=>if Wcz i acc then WkU n l acc objs else
   match look objs i with
   |some (.box cs)=>WkU n (l++cs.flatMap Wbo) (acc++ [i]) objs
   |some (.arr _ _)=>WkU n l (acc++ [i]) objs
   |some (.hole _ _ _ p)=>WkU n (l++ [p]) (acc++ [i]) objs
   |_=>WkU n l acc objs
def Wrz(i:Nat):List Nat->Option Nat
 | []=>none
 |j::l=>if Xbo i j then some 0 else(Wrz i l).map (· +1)
def Wmb(m:List Nat):List Nat->Option (List Nat)
 | []=>some []
 |i::l=>match Wrz i m,Wmb m l with
  |some j,some r=>some (j::r)
  |_,_=>none
def WcX(m:List Nat):Cell->Cell
 | .own id=>match Wrz id m with|some j=>.own j|none=>.junk
 | .vw id lo hi=>match Wrz id m with|some j=>.vw j lo hi|none=>.junk
 | .aptr id=>match Wrz id m with|some j=>.aptr j|none=>.junk
 | .ptr id off=>match Wrz id m with|some j=>.ptr j off|none=>.junk
 | .eptr id i off=>match Wrz id m with|some j=>.eptr j i off|none=>.junk
 | .clos f caps=>match Wmb m caps with|some js=>.clos f js|none=>.junk
 | .val t d=>.val t d
 | .nils=>.nils
 | .rptr t d off=>.rptr t d off
 | .junk=>.junk
def Wvy(m:List Nat):AV->AV
 | .one c=>.one (WcX m c)
 | .agg cs=>.agg (cs.map (WcX m))
def WnO(m:List Nat):AVal->AVal
 | .s x=>.s (Wvy m x)
 | .tup xs=>.tup (xs.map (Wvy m))
def Wrm(m:List Nat):Ob->Ob
 | .box cs=>.box (cs.map (WcX m))
 | .arr e xs=>.arr e xs
 | .hole e xs i p=>match Wrz p m with|some j=>.hole e xs i j|none=>.dead
 | .dead=>.dead
def WfV(env:List (Nat×AVal)):List Nat->List (Nat×AVal)
 | []=>[]
 |i::l=>match look env i with
  |some x=>(i,x)::WfV env l
  |none=>WfV env l
def Weg(m:List Nat)(objs:Waj):Nat->List Nat->Waj
 |_,[]=>[]
 |j,i::l=>match look objs i with
  |some ob=>(j,Wrm m ob)::Weg m objs (j+1) l
  |none=>Weg m objs (j+1) l
def canon(slots:List Nat)(st:St):St:=
 let env:=WfV st.env slots
 let m:=WkU 400 (env.flatMap λp=>Wbb p.2) [] st.objs
 {env:=env.map λp=>(p.1,WnO m p.2),objs:=Weg m st.objs 0 m,nx:=m.length}
def Wl1(st:St)(r i:Nat):Option St:=
 match look st.objs r with
 |some (.arr e xs)=>
  let x:=unfold e (xs.getD i e.dflt) (st.nx+1)
  some {env:=st.env,objs:=(r,.hole e xs i st.nx)::(st.nx,.box x.1)::(x.2.1++st.objs),nx:=x.2.2}
 |_=>none
def Wu0(st:St)(r:Nat):Option Nat->Option (Bool×Nat)
 |none=>match look st.objs r with
  |some (.arr _ xs)=>some (inb (W6 .i64 (Wj xs) 1) (Xa xs),(W6 .i64 (Wj xs) 1).toNat)
  |_=>none
 |some s=>match look st.objs r,(look st.env s).bind asI with
  |some (.arr _ xs),some n=>some (inb n (Xa xs),n.toNat)
  |_,_=>none
def Wpf(st:St)(r:Nat)(ix:Option Nat):Option (Bool×St):=
 match Wu0 st r ix with
 |some (c,i)=>(Wl1 st r i).map λaf=>(c,af)
 |none=>none
def Wl4(p:Nat):Waj->Option Nat
 | []=>none
 |(r,.hole _ _ _ p')::l=>if Xbo p p' then some r else Wl4 p l
 |(_,.box _)::l=>Wl4 p l
 |(_,.arr _ _)::l=>Wl4 p l
 |(_,.dead)::l=>Wl4 p l
def WnY(st:St)(p:Nat):Option St:=
 match Wl4 p st.objs with
 |some r=>match look st.objs r,look st.objs p with
  |some (.hole e xs i p'),some (.box cs)=>match WaB e cs st.objs with
   |some (d,m,[])=>if Xbo p p'&&WbF (r::p::m)then some {env:=st.env,objs:=(r,.arr e (xs.set i d))::kill st.objs (p::m),nx:=st.nx}else none
   |_=>none
  |_,_=>none
 |none=>none
def Wf7(g:Ghost)(st:St):Option (Bool×St):=
 match g with
 | .canon slots=>some (true,canon slots st)
 | .adopt slot e=>match look st.env slot with
  |some (.s (.one .nils))=>some (true,st.new (some slot) (.arr e []) (.s (.one (.own st.nx))))
  |some (.s (.one (.own _)))=>some (true,st)
  |_=>none
 | .freeze slot=>match look st.env slot with
  |some (.s (.one (.own id)))=>match look st.objs id with
   |some (.arr e xs)=>some (true,(st.turn id .dead).put (some slot) (one (.slice e.ro) (WcE e xs)))
   |_=>none
  |_=>none
 | .adoptC slot off e=>match look st.env slot with
  |some (.s (.one (.ptr id 0)))=>match look st.objs id with
   |some (.box cs)=>match cs[off]? with
    |some .nils=>some (true,{env:=st.env,objs:=(id,.box (cs.set off (.own st.nx)))::(st.nx,.arr e [])::st.objs,nx:=st.nx+1})
    |some (.own _)=>some (true,st)
    |_=>none
   |_=>none
  |_=>none
 | .freezeC slot off=>match look st.env slot with
  |some (.s (.one (.ptr id 0)))=>match look st.objs id with
   |some (.box cs)=>match cs[off]? with
    |some (.own j)=>match look st.objs j with
     |some (.arr e xs)=>some (true,{st with objs:=(id,.box (cs.set off (.val (.slice e.ro) (WcE e xs))))::(j,.dead)::st.objs})
     |_=>none
    |some (.val _ _)=>some (true,st)
    |some .nils=>some (true,st)
    |_=>none
   |_=>none
  |_=>none
 | .nest _ _=>some (true,st)
 | .view _=>some (true,st)
 | .opn _=>some (true,st)
 | .unfE slot=>match look st.env slot with
  |some (.s (.one (.eptr r i 0)))=>(Wl1 st r i).map λaf=>(true,af.put (some slot) (.s (.one (.ptr st.nx 0))))
  |_=>none
 | .unfS slot ix=>match look st.env slot with
  |some (.s (.one (.own r)))=>Wpf st r ix
  |_=>none
 | .unfC slot off ix=>match look st.env slot with
  |some (.s (.one (.ptr id o)))=>match look st.objs id with
   |some (.box cs)=>match cs[o+off]? with
    |some (.own r)=>Wpf st r ix
    |_=>none
   |_=>none
  |_=>none
 | .refold slot=>match look st.env slot with
  |some (.s (.one (.ptr p _)))=>(WnY st p).map λaf=>(true,af)
  |_=>none
 | .empt slot e=>match look st.env slot with
  |some (.s (.one (.own id)))=>match look st.objs id with
   |some (.arr e' [])=>if e.size=e'.size/\e.ro=e'.ro then some (true,st.turn id (.arr e []))else none
   |_=>none
  |_=>none
 | .solo slot=>match look st.env slot with
  |some (.s (.one (.vw id lo hi)))=>match look st.objs id with
   |some (.arr e xs)=>some (true,(st.turn id .dead).new (some slot) (.arr e ((xs.take hi).drop lo)) (.s (.one (.own st.nx))))
   |_=>none
  |some (.s (.one (.own _)))=>some (true,st)
  |_=>none
 | .soloC slot off=>match look st.env slot with
  |some (.s (.one (.ptr id o)))=>match look st.objs id with
   |some (.box cs)=>match cs[o+off]? with
    |some (.vw j lo hi)=>match look st.objs j with
     |some (.arr e xs)=>some (true,{env:=st.env,objs:=(id,.box (cs.set (o+off) (.own st.nx)))::(st.nx,.arr e ((xs.take hi).drop lo))::(j,.dead)::st.objs,nx:=st.nx+1})
     |_=>none
    |some (.own _)=>some (true,st)
    |_=>none
   |_=>none
  |_=>none
def Wel:List Ghost->St->Option (Bool×St)
 | [],st=>some (true,st)
 |g::l,st=>match Wf7 g st with
  |some (c,af)=>match Wel l af with
   |some (c',ci)=>some (c&&c',ci)
   |none=>none
  |none=>none
def opG(A:List (Nat×An))(o:Oper)(st:St):Option (Bool×St):=match Ww6 A o,o.dst with
 |some .opn,some d=>match look st.env d with
  |some (.tup [])=>some (true,st)
  |_=>Wf7 (.unfE d) st
 |some .view,_=>some (true,st)
 |some (.nest _),_=>some (true,st)
 |none,_=>some (true,st)
 |some .opn,none=>some (true,st)
def rxs{R:Type}(T:Tab)(Γ:Ctx)(A:List (Nat×An))(ops:Array Oper):List Oper->St->(St->Option R)->Option R
 | [],st,k=>k st
 |o::l,st,k=>rxg T Γ A ops o st λaf=>match opG A o af with
  |some (c,ci)=>bif c then rxs T Γ A ops l ci k else none
  |none=>none
def WfY:Code->Option Nat
 | .region id _ _=>some id
 | .seq a b=>match WfY a with
  |some i=>some i
  |none=>WfY b
 | .cond _ a b=>match WfY a with
  |some i=>some i
  |none=>WfY b
 | .block _ c=>WfY c
 | .loop c=>(WfY c).map (· +100000)
 |_=>none
def Wf5(c:Code):Nat:=match WfY c with
 |some i=>i+100000
 |none=>99999
def Wjy{R:Type}(gs:List Ghost)(f:St->(Ex->St->Option R)->Option R)(st:St)(k:Ex->St->Option R):Option R:=
 f st λe af=>match e with
  | .normal=>match Wel gs af with
   |some (c,ci)=>bif c then k .normal ci else none
   |none=>none
  | .exit id=>k (.exit id) af
  | .ret=>k .ret af
def Wag:Op->List Operand
 | .move x| .assign x| .box _ x| .load _ x| .nilCheck x| .unOp _ _ x| .convert _ _ x| .fieldAddr _ x _| .field _ x _| .extract x _=>[x]
 | .pick c a b=>[c,a,b]
 | .build _ ps| .buildSlice _ _ ps=>ps.toList.map (·.2)
 | .store _ a v| .binOp _ _ a v _| .makeSlice _ a v| .indexAddr _ a v| .index _ a v=>[a,v]
 | .makeFunc _ first captured=>first.toList++captured.toList
 | .slice _ x l h m=>x::(l.toList++(h.toList++m.toList))
 | .call c=>(match c.callee with| .value f=>[f]|_=>[])++c.args.toList
 |_=>[]
def Wa5(o:Oper):Bool:=match o.op with
 | .alloc _| .box _ _| .buildSlice _ _ _| .makeSlice _ _ _| .store _ _ _| .slice _ _ _ _ _=>true
 | .call c=>match c.callee with
  | .builtin .append=>true
  | .builtin .clear=>true
  | .builtin _=>false
  |_=>true
 |_=>false
def Wv7:Op->Bool
 | .load _ _| .nilCheck _| .binOp _ _ _ _ _| .convert _ _ _| .fieldAddr _ _ _| .indexAddr _ _ _| .call _=>true
 |_=>false
def WeM(st:St):List Operand->List Nat
 | []=>[]
 |x::l=>match ev st x with
  |some v=>Wbb v++WeM st l
  |none=>WeM st l
def Wda(o:Oper)(st:St):List Nat:=bif Wv7 o.op then WeM st (Wag o.op)else []
def Whu(l:Waj):List Nat:=l.map (·.1)
def Wsq(a b:Waj):List Nat:=Whu (b.take (b.length-a.length))
def Ww4(x:Nat)(l:List Nat):List Nat:=bif Wcz x l then l else x::l
def WmA:List Nat->List Nat->List Nat
 | [],l=>l
 |x::m,l=>WmA m (Ww4 x l)
def WnB(o:Oper):List Nat:=(o.after.toList.filter (Region.binds .any)).map (·.on)
def Wlu(acc:List (List Nat)):List Nat->List Nat->List Nat
 | [],l=>l
 |j::ds,l=>Wlu acc ds (WmA (acc.getD j []) (Ww4 j l))
def WeR:List Oper->List (List Nat)->List (List Nat)
 | [],acc=>acc
 |o::l,acc=>WeR l (acc++ [Wlu acc (WnB o) []])
def Wdh(B:List (List Nat))(j i:Nat):Bool:=Wcz j (B.getD i [])
def Wtu:List Oper->Nat->Bool
 | [],_=>true
 |o::l,n=>(WnB o).all (λd=>Xga d n)&&Wtu l (n+1)
def Wq8:Operand->List Nat
 | .tmp t=>[t]
 |_=>[]
def Wds(ops:Array Oper)(o:Oper):List Nat:=(Wag o.op).flatMap Wq8++(match o.guard with
 |some (j,_)=>((ops[j]?).bind (·.dst)).toList
 |none=>[])
def Whz:List Oper->Nat->List (Nat×Nat)
 | [],_=>[]
 |o::l,i=>match o.dst with
  |some d=>(d,i)::Whz l (i+1)
  |none=>Whz l (i+1)
def WkB(ops:Array Oper)(B:List (List Nat))(D:List (Nat×Nat)):List Oper->Nat->Bool
 | [],_=>true
 |o::l,i=>(Wds ops o).all (λt=>D.all λp=>!Xbo p.1 t||Xbo p.2 i||Wdh B p.2 i||Wdh B i p.2)&&WkB ops B D l (i+1)
def WvS(ops:Array Oper)(B:List (List Nat)):Bool:=
 Wtu ops.toList 0&&WbF ((Whz ops.toList 0).map (·.1))&&WkB ops B (Whz ops.toList 0) ops.toList 0
def WhH:List Oper->Nat->List Nat
 | [],_=>[]
 |o::l,i=>bif Wa5 o then i::WhH l (i+1)else WhH l (i+1)
def WvC(B:List (List Nat)):Nat->List Nat->List (List Nat)
 |0,_=>[[]]
 |n+1,rem=>match rem with
  | []=>[[]]
  |_=>(rem.filter λm=>rem.all λm'=>!Wdh B m' m).flatMap λm=>(WvC B n (rem.filter λx=>!Xbo x m)).map (m:: ·)
def WuN(ops:List Oper)(B:List (List Nat))(done:List Nat)(σ:List Nat):Nat->Option Nat:=λi=>match ops with
 | []=>none
 |o::l=>bif !Wcz i done&&(B.getD i []).all (λj=>Wcz j done)&&(!Wa5 o||(match σ with|m::_=>Xbo m i| []=>false))then some i else WuN l B done σ (i+1)
def WkY(ops:List Oper)(B:List (List Nat)):Nat->List Nat->List Nat->List Nat
 |0,_,_=>[]
 |n+1,done,σ=>match WuN ops B done σ 0 with
  |some i=>i::WkY ops B n (i::done) (match σ with|m::σ'=>bif Xbo m i then σ' else σ| []=>[])
  |none=>[]
def Wjx(ops:Array Oper):List Nat->List Nat->Bool
 | [],done=>Xbo done.length ops.size
 |i::l,done=>!Wcz i done&&(match ops[i]? with|some o=>(WnB o).all (λd=>Wcz d done)|none=>false)&&Wjx ops l (i::done)
def WgQ{α:Type}:List Nat->(List Nat->α)->α
 | [],k=>k []
 |x::l,k=>WgQ l λl'=>k (x::l')
def Wpl{α:Type}:List (List Nat)->(List (List Nat)->α)->α
 | [],k=>k []
 |x::l,k=>WgQ x λx'=>Wpl l λl'=>k (x'::l')
def rdx{R:Type}(T:Tab)(Γ:Ctx)(A:List (Nat×An))(ops:Array Oper)(B:List (List Nat)):List Nat->List (Nat×List Nat)->List (Nat×List Nat)->St->(St->Option R)->Option R
 | [],_,_,st,k=>k st
 |i::l,fl,mu,st,k=>match ops[i]? with
  |some o=>bif Wa5 o
   then rxg T Γ A ops o st λaf=>WgQ (Wsq st.objs af.objs) λids=>
    bif fl.all (λp=>Wdh B p.1 i||Wg3 p.2 ids)then rdx T Γ A ops B l fl ((i,ids)::mu) af k else none
   else WgQ (Wda o st) λids=>
    bif mu.all (λp=>Wdh B p.1 i||Wg3 ids p.2)then rxg T Γ A ops o st λaf=>rdx T Γ A ops B l ((i,ids)::fl) mu af k else none
  |none=>none
def WD{α β:Type}(x:α)(f:α->β):β:=f x
open Classical in
noncomputable def Wgc{α:Type}(a b:Option α):Option α:=if a=b then a else none
noncomputable def Wwx{R:Type}(T:Tab)(Γ:Ctx)(A:List (Nat×An))(ops:Array Oper)(B:List (List Nat))(st:St)(k:St->Option R):List (List Nat)->Option R
 | []=>none
 |σ::l=>
  let a:=WgQ (WkY ops.toList B ops.size [] σ) λL=>bif Wjx ops L []&&eqN (L.filter λi=>Wcz i σ) σ then rdx T Γ A ops B L [] [] st k else none
  match l with
  | []=>a
  |_=>Wgc a (Wwx T Γ A ops B st k l)
noncomputable def Wu4{R:Type}(T:Tab)(Γ:Ctx)(A:List (Nat×An))(ops:Array Oper)(st:St)(k:St->Option R):Option R:=
 Wpl (WeR ops.toList []) λB=>bif WvS ops B then Wwx T Γ A ops B st k (WvC B ops.size (WhH ops.toList 0))else none
noncomputable def sx{R:Type}(T:Tab)(Γ:Ctx)(ann:Nat->List Ghost)(N:Nat):Code->St->(Ex->St->Option R)->Option R
 | .skip,st,k=>k .normal st
 | .region id ops draw,st,k=>
  bif draw then Wu4 T Γ (Wm3 (ann id)) ops st λaf=>match Wel (ann id) af with
   |some (c,ci)=>bif c then k .normal ci else none
   |none=>none
  else rxs T Γ (Wm3 (ann id)) ops ops.toList st λaf=>match Wel (ann id) af with
   |some (c,ci)=>bif c then k .normal ci else none
   |none=>none
 | .seq a b,st,k=>sx T Γ ann N a st λe af=>match e with
  | .normal=>sx T Γ ann N b af k
  | .exit id=>k (.exit id) af
  | .ret=>k .ret af
 | .cond c x y,st,k=>match(ev st c).bind asB with
  |some b=>bif b then sx T Γ ann N x st k else sx T Γ ann N y st k
  |none=>none
 | .block id c,st,k=>sx T Γ ann N c st λe af=>match e with
  | .exit bK=>if bK=id then k .normal af else k (.exit bK) af
  | .normal=>k .normal af
  | .ret=>k .ret af
 | .loop c,st,k=>match Wel (ann (Wf5 c)) st with
  |some (b,af)=>bif b then Wol (Wjy (ann (Wf5 c)) λst k=>sx T Γ ann N c st k) N af k else none
  |none=>none
 | .exit id,st,k=>k (.exit id) st
 | .ret,st,k=>k .ret st
 |_,_,_=>none
def WsR:List AVal->List Nat
 | []=>[]
 | .s (.one (.ptr id 0))::l=>id::WsR l
 |_::l=>WsR l
def WU:(ps:List PTy)->WfA ps->Waj->Nat->List AVal×Waj×Nat
 | [],_,objs,nx=>([],objs,nx)
 | .v t agg::ps,d,objs,nx=>
  let x:=unfold t d.1 nx
  let y:=WU ps d.2 (x.2.1++objs) x.2.2
  (.s (WwW agg x.1)::y.1,y.2)
 | .box t::ps,d,objs,nx=>
  let x:=unfold t d.1 (nx+1)
  let y:=WU ps d.2 ((nx,.box x.1)::(x.2.1++objs)) x.2.2
  (.s (.one (.ptr nx 0))::y.1,y.2)
 | .mut e::ps,d,objs,nx=>
  let y:=WU ps d.2 ((nx,.arr e d.1)::objs) (nx+1)
  (.s (.one (.own nx))::y.1,y.2)
 | .clos g n::ps,d,objs,nx=>
  let y:=WU ps d objs nx
  (.s (.one (.clos g (WsR (y.1.take n))))::y.1.drop n,y.2)
 | .kv t agg::ps,d,objs,nx=>
  let x:=unfold t d.1 nx
  let y:=WU ps d.2 (x.2.1++objs) x.2.2
  (.s (WwW agg x.1)::y.1,y.2)
 | .rp t::ps,d,objs,nx=>
  let y:=WU ps d.2 objs nx
  (.s (.one (.rptr t d.1 0))::y.1,y.2)
 | .vj _::ps,d,objs,nx=>
  let y:=WU ps d objs nx
  (.tup []::y.1,y.2)
 | .boxal t lf::ps,d,objs,nx=>
  let x:=unfold t d.1 (nx+1)
  let y:=WU ps d.2.2 ((nx,.box x.1)::(x.2.1++objs)) x.2.2
  (.s (.one (.ptr nx 0)):: .s (.one (.eptr (nx+1+lf) d.2.1 0))::y.1,y.2)
def Whb:Nat->List AVal->List (Nat×AVal)
 |_,[]=>[]
 |i,x::xs=>(i,x)::Whb (i+1) xs
def We0(T:Tab)(st:St):List ResultVar->Option (List AVal)
 | []=>some []
 | .tmp t::rs=>match look st.env t,We0 T st rs with
  |some x,some xs=>some (x::xs)
  |_,_=>none
 | .cell a t::rs=>match(look st.env a).bind (Wht T st t),We0 T st rs with
  |some x,some xs=>some (x::xs)
  |_,_=>none
structure Outs(α:Type) where
 d:α
 moved:List Nat
 lent:List Nat
def Wbk:(rs:List PTy)->List AVal->Waj->Option (Outs (Whd rs))
 | [],xs,_=>match xs with
  | []=>some ⟨(),[],[]⟩
  |_=>none
 | .v t agg::rs,xs,objs=>match xs with
  |x::xs=>match(cellsOf agg x).bind λcs=>WaB t cs objs,Wbk rs xs objs with
   |some (d,m,l),some A=>some ⟨(d,A.d),m++A.moved,l++A.lent⟩
   |_,_=>none
  |_=>none
 | .box t::rs,xs,objs=>match xs with
  | .s (.one (.ptr id 0))::xs=>match look objs id with
   |some (.box cs)=>match WaB t cs objs,Wbk rs xs objs with
    |some (d,m,l),some A=>some ⟨(d,A.d),id::(m++A.moved),l++A.lent⟩
    |_,_=>none
   |_=>none
  |_=>none
 | .mut _::_,_,_=>none
 | .clos _ _::_,_,_=>none
 | .kv _ _::_,_,_=>none
 | .rp _::_,_,_=>none
 | .vj t::rs,xs,objs=>match xs with
  | .s (.agg cs)::xs=>if cs.length=t.size+1 then(match WaB t (cs.take t.size) objs,Wbk rs xs objs with
   |some (d,m,l),some A=>some ⟨(d,A.d),m++A.moved,l++A.lent⟩
   |_,_=>none)else none
  |_=>none
 | .boxal _ _::_,_,_=>none
structure OutK(α:Type) where
 d:α
 kept:List Nat
 moved:List Nat
 lent:List Nat
def Wy:List PTy->Nat->Nat->St->List AVal
 | [],_,_,_=>[]
 |_::ps,i,k+1,st=>Wy ps i k st
 | .v _ _::ps,i,0,st=>.tup []::Wy ps (i+1) 0 st
 | .box _::ps,i,0,st=>(look st.env i).getD (.tup [])::Wy ps (i+1) 0 st
 | .mut _::ps,i,0,st=>(look st.env i).getD (.tup [])::Wy ps (i+1) 0 st
 | .clos _ n::ps,i,0,st=>(look st.env i).getD (.tup [])::Wy ps (i+1) n st
 | .kv _ _::ps,i,0,st=>(look st.env i).getD (.tup [])::Wy ps (i+1) 0 st
 | .rp _::ps,i,0,st=>.tup []::Wy ps (i+1) 0 st
 | .vj _::ps,i,0,st=>.tup []::Wy ps (i+1) 0 st
 | .boxal _ _::ps,i,0,st=>(look st.env i).getD (.tup []):: .tup []::Wy ps (i+2) 0 st
def W4:(ps:List PTy)->List AVal->Waj->Option (OutK (Wgd ps))
 | [],_,_=>some ⟨(),[],[],[]⟩
 | .v _ _::ps,xs,objs=>(W4 ps xs.tail objs).map λA=>⟨A.d,A.kept,A.moved,A.lent⟩
 | .box t::ps,xs,objs=>match xs with
  | .s (.one (.ptr id 0))::xs=>match look objs id with
   |some (.box cs)=>match WaB t cs objs,W4 ps xs objs with
    |some (d,m,l),some A=>some ⟨(d,A.d),id::A.kept,m++A.moved,l++A.lent⟩
    |_,_=>none
   |_=>none
  |_=>none
 | .mut e::ps,xs,objs=>match xs with
  | .s (.one (.own id))::xs=>match look objs id with
   |some (.arr e' ys)=>match Wgp e' e ys,W4 ps xs objs with
    |some d,some A=>some ⟨(d,A.d),id::A.kept,A.moved,A.lent⟩
    |_,_=>none
   |_=>none
  |_=>none
 | .clos g n::ps,xs,objs=>match xs with
  | .s (.one (.clos g' caps))::xs=>if g'=g/\caps.length=n then(W4 ps (Wko caps++xs) objs).map λA=>⟨A.d,A.kept,A.moved,A.lent⟩else none
  |_=>none
 | .kv t agg::ps,xs,objs=>match xs with
  |x::xs=>match(cellsOf agg x).bind λcs=>WaB t cs objs,W4 ps xs objs with
   |some (d,m,l),some A=>if WmH objs t m x then some ⟨(d,A.d),m++A.kept,A.moved,l++A.lent⟩else none
   |_,_=>none
  |_=>none
 | .rp _::ps,xs,objs=>(W4 ps xs.tail objs).map λA=>⟨A.d,A.kept,A.moved,A.lent⟩
 | .vj _::_,_,_=>none
 | .boxal t _::ps,xs,objs=>match xs with
  | .s (.one (.ptr id 0))::_::xs=>match look objs id with
   |some (.box cs)=>match WaB t cs objs,W4 ps xs objs with
    |some (d,m,l),some A=>some ⟨(d,A.d),id::A.kept,m++A.moved,l++A.lent⟩
    |_,_=>none
   |_=>none
  |_=>none
def Wxw{R:Type}(T:Tab)(sg:Sig)(rv:List ResultVar)(k:Wgd sg.ps×Whd sg.rs->Option R)(e:Ex)(st:St):Option R:=
 match e with
 | .exit _=>none
 |_=>match We0 T st rv with
  |some xs=>match Wbk sg.rs xs st.objs,W4 sg.ps (Wy sg.ps 0 0 st) st.objs with
   |some A,some B=>if WbF (B.kept++(B.moved++A.moved))&&Wg3 (A.lent++B.lent) (B.kept++(B.moved++A.moved))then k (B.d,A.d)else none
   |_,_=>none
  |none=>none
noncomputable def den{R:Type}(T:Tab)(Γ:Ctx)(ann:Nat->List Ghost)(N:Nat)(sg:Sig)(f:Func)(d:WfA sg.ps)(k:Wgd sg.ps×Whd sg.rs->Option R):Option R:=
 let x:=WU sg.ps d [] 0
 match f.body,Wel (ann 1000000) {env:=Whb 0 x.1,objs:=x.2.1,nx:=x.2.2}with
 |some c,some (b,st)=>bif b then sx T Γ ann N c st (Wxw T sg f.results.toList k)else none
 |_,_=>none
def Wem:List PTy->Nat->Nat->List Nat
 | [],_,_=>[]
 |_::ps,i,k+1=>Wem ps i k
 | .v _ _::ps,i,0=>Wem ps (i+1) 0
 | .box _::ps,i,0=>i::Wem ps (i+1) 0
 | .mut _::ps,i,0=>i::Wem ps (i+1) 0
 | .clos _ n::ps,i,0=>i::Wem ps (i+1) n
 | .kv _ _::ps,i,0=>i::Wem ps (i+1) 0
 | .rp _::ps,i,0=>Wem ps (i+1) 0
 | .vj _::ps,i,0=>Wem ps (i+1) 0
 | .boxal _ _::ps,i,0=>i::Wem ps (i+2) 0
def WbZ:List PTy->Nat
 | []=>0
 | .v _ _::ps=>WbZ ps+1
 | .box _::ps=>WbZ ps+1
 | .mut _::ps=>WbZ ps+1
 | .clos _ _::ps=>WbZ ps+1
 | .kv _ _::ps=>WbZ ps+1
 | .rp _::ps=>WbZ ps+1
 | .vj _::ps=>WbZ ps+1
 | .boxal _ _::ps=>WbZ ps+2
def Wkd:List PTy->Nat->Bool
 |_,0=>true
 | .box _::ps,n+1=>Wkd ps n
 |_,_+1=>false
def WcC:List PTy->Bool
 | []=>true
 | .clos _ n::ps=>Wkd ps n&&WcC ps
 | .v _ _::ps=>WcC ps
 | .box _::ps=>WcC ps
 | .mut _::ps=>WcC ps
 | .kv _ _::ps=>WcC ps
 | .rp _::ps=>WcC ps
 | .vj _::ps=>WcC ps
 | .boxal _ _::ps=>WcC ps
end Go.Sx
namespace Go.Sx
set_option linter.unusedVariables false
theorem EncL_len{α:Type}{R:α->List Value->Prop}{n:Nat}(h:∀x c,R x c->c.length=n):
  ∀(l:List α) (cs:List Value),EncL R l cs->cs.length=l.length*n
 | [],cs,e=>by grind [EncL]
 |x::l,cs,e=>by
  obtain⟨c1,c2,rfl,h1,h2⟩:=e;have:=EncL_len h l c2 h2;rw[Xz,h _ _ h1,this,Xs,Xbv,Xcu]
theorem Wmk{α:Type}{R R':α->List Value->Prop}(h:∀x c,R x c->R' x c):
  ∀(l:List α) (cs:List Value),EncL R l cs->EncL R' l cs
 | [],_,e=>e
 |_::l,_,⟨c1,c2,he,h1,h2⟩=>⟨c1,c2,he,h _ _ h1,Wmk h l c2 h2⟩
theorem Wd9{α:Type}{R:α->List Value->Prop}:∀(l l':List α) (cs cs':List Value),EncL R l cs->EncL R l' cs'->EncL R (l++l') (cs++cs')
 | [],_,cs,cs',e,e'=>by grind [EncL]
 |x::l,l',_,cs',⟨c1,c2,he,h1,h2⟩,e'=>⟨c1,c2++cs',by simp[he],h1,Wd9 l l' c2 cs' h2 e'⟩
theorem EncL_nth{α:Type}{R:α->List Value->Prop}{n:Nat}(h:∀x c,R x c->c.length=n):
  ∀(l:List α) (cs:List Value) (i:Nat) (x:α),EncL R l cs->l[i]?=some x->R x ((cs.drop (i*n)).take n)
 | [],_,_,_,_,hi=>by simp at hi
 |y::l,cs,0,x,⟨c1,c2,he,h1,_⟩,hi=>by
  grind
 |y::l,cs,i+1,x,⟨c1,c2,he,h1,h2⟩,hi=>by
  have hl:=h _ _ h1;have:=EncL_nth h l c2 i x h2 (by simp_all);rw[he,Xbv,Xcu,←Xdm,List.drop_left' hl];exact this
theorem WeA{α:Type}{R:α->List Value->Prop}{n:Nat}(h:∀x c,R x c->c.length=n):
  ∀(l:List α) (cs:List Value) (m:Nat),EncL R l cs->EncL R (l.take m) (cs.take (m*n))
 | [],cs,m,e=>by grind [EncL]
 |x::l,cs,0,_=>by simp[EncL]
 |x::l,cs,m+1,⟨c1,c2,he,h1,h2⟩=>by
  have hl:=h _ _ h1;refine⟨c1,c2.take (m*n),?_,h1,WeA h l c2 m h2⟩;rw[he,Xbv,Xcu,←hl,Xfe]
theorem Weu{α:Type}{R:α->List Value->Prop}{n:Nat}(h:∀x c,R x c->c.length=n):
  ∀(l:List α) (cs:List Value) (m:Nat),EncL R l cs->EncL R (l.drop m) (cs.drop (m*n))
 | [],cs,m,e=>by grind [EncL]
 |x::l,cs,0,e=>by grind
 |x::l,cs,m+1,⟨c1,c2,he,h1,h2⟩=>by
  have hl:=h _ _ h1;have:=Weu h l c2 m h2
  grind [EncL,Xbv,Xcu,Xdm,Xfz]
theorem Wkw{α:Type}{R:α->List Value->Prop}{n:Nat}(h:∀x c,R x c->c.length=n):
  ∀(l:List α) (cs:List Value) (i:Nat) (x:α) (ds:List Value),EncL R l cs->i<l.length->R x ds->
   EncL R (l.set i x) (cs.take (i*n)++ds++cs.drop (i*n+n))
 | [],_,_,_,_,_,hi,_=>by simp at hi
 |y::l,cs,0,x,ds,⟨c1,c2,he,h1,h2⟩,_,hx=>by
  have hl:=h _ _ h1;refine⟨ds,c2,?_,hx,h2⟩;simp_all
 |y::l,cs,i+1,x,ds,⟨c1,c2,he,h1,h2⟩,hi,hx=>by
  have hl:=h _ _ h1;refine⟨c1,_,?_,h1,Wkw h l c2 i x ds h2 (by simp_all) hx⟩;have e1:(i+1)*n=c1.length+i*n:=by rw[Xbv,hl,Xcu]
  rw[he,e1,Xfe,Xay,←Xdm,Xfz];simp
theorem Enc_len{G:GH}:∀(t:Ty) (d:t.den) (cs:List Value),Enc G t d cs->cs.length=t.size
 | .int _,_,_,h=>by grind [Enc,Ty.size]
 | .bool,_,_,h=>by grind [Enc,Ty.size]
 | .str,_,_,h=>by grind [Enc,Ty.size]
 | .slice _,_,_,h=>by obtain⟨v,rfl,_⟩:=h;simp[Ty.size]
 | .own _,_,_,h=>h.elim
 | .prod a b,d,_,h=>by
  obtain⟨c1,c2,rfl,h1,h2⟩:=h;rw[Xz,Enc_len a _ _ h1,Enc_len b _ _ h2,Ty.size]
def GLe(G G':GH):Prop:=∀b o v,G b o=some v->G' b o=some v
theorem WiS{G G':GH}(h:GLe G G'){b o:Nat}{cs:List Value}(hs:WfG G b o cs):WfG G' b o cs:=λj v hj=>h _ _ _ (hs j v hj)
theorem Wbm{G G':GH}(h:GLe G G'):∀(t:Ty) (d:t.den) (cs:List Value),Enc G t d cs->Enc G' t d cs
 | .int _,_,_,e=>e
 | .bool,_,_,e=>e
 | .str,_,_,e=>e
 | .slice e,d,cs,hh=>by
  obtain⟨v,hv,hr⟩:=hh;refine⟨v,hv,?_⟩;rcases hr with hr|⟨b,off,cap,cs',h1,h2,h3,h4,h5⟩|hr
  .exact .inl hr
  rotate_left
  .exact .inr (.inr hr)
  .exact .inr<| .inl ⟨b,off,cap,cs',h1,h2,h3,Wmk (λx c hx=>Wbm h e x c hx) _ _ h4,WiS h h5⟩
 | .own _,_,_,e=>e
 | .prod a b,d,_,⟨c1,c2,he,h1,h2⟩=>⟨c1,c2,he,Wbm h a _ _ h1,Wbm h b _ _ h2⟩
section
variable{G:GH}{ν:Nat->Nu}{nx:Nat}
theorem CellsRel.nil:CellsRel G ν nx [] []:=⟨rfl,λj c v h=>by simp at h⟩
theorem CellsRel.append{cs cs':List Cell}{vs vs':List Value}(h:CellsRel G ν nx cs vs)(h':CellsRel G ν nx cs' vs'):
  CellsRel G ν nx (cs++cs') (vs++vs'):=by
 refine⟨by simp[h.1,h'.1],λj c v hc hv=>?_⟩;rw[Xav]at hc hv;rw[h.1]at hv;split at hc
 .rename_i hlt;rw[Wb hlt]at hv;exact h.2 j c v hc hv
 .rename_i hlt;rw[Wa hlt]at hv;exact h'.2 _ c v hc hv
theorem CellsRel.take{cs:List Cell}{vs:List Value}(h:CellsRel G ν nx cs vs)(n:Nat):CellsRel G ν nx (cs.take n) (vs.take n):=by
 refine⟨by simp[h.1],λj c v hc hv=>?_⟩;rw[Xbl]at hc hv;split at hc
 .rename_i hlt;rw[Wb hlt]at hv;exact h.2 j c v hc hv
 grind
theorem CellsRel.drop{cs:List Cell}{vs:List Value}(h:CellsRel G ν nx cs vs)(n:Nat):CellsRel G ν nx (cs.drop n) (vs.drop n):=by
 refine⟨by simp[h.1],λj c v hc hv=>?_⟩;rw[Xbm]at hc hv;exact h.2 _ c v hc hv
theorem CellsRel.one{c:Cell}{v:Value}(h:CellRel G ν nx c v)(uO:v.oneCell'=true):CellsRel G ν nx [c] [v]:=by
 refine⟨rfl,λj c' v' hc hv=>?_⟩
 grind
theorem WaT:∀(t:Ty) (d:t.den) (vs:List Value),Enc G t d vs->CellsRel G ν nx (split t d) vs
 | .int k,d,vs,h=>by have h':=h;simp only[Enc]at h';subst h';exact CellsRel.one h rfl
 | .bool,d,vs,h=>by have h':=h;simp only[Enc]at h';subst h';exact CellsRel.one h rfl
 | .str,d,vs,h=>by have h':=h;simp only[Enc]at h';subst h';exact CellsRel.one h rfl
 | .slice e,d,vs,h=>by
  obtain⟨v,rfl,hr⟩:=h;refine CellsRel.one ⟨v,rfl,hr⟩ ?_;rcases hr with⟨rfl,_⟩|⟨_,_,_,_,rfl,_⟩|⟨_,_,rfl,_⟩<;>rfl
 | .own _,_,_,h=>h.elim
 | .prod a b,d,vs,⟨c1,c2,he,h1,h2⟩=>by
  subst he;exact(WaT a _ _ h1).append (WaT b _ _ h2)
end
def WsS(nx:Nat)(ν ν':Nat->Nu):Prop:=∀id,id<nx->ν' id=ν id
section
variable{G G':GH}{ν ν':Nat->Nu}{nx ai:Nat}
theorem CellRel.mono(hg:GLe G G')(hn:WsS nx ν ν')(hx:nx<=ai):
  ∀(c:Cell) (v:Value),CellRel G ν nx c v->CellRel G' ν' ai c v
 | .val t d,v,h=>Wbm hg t d _ h
 | .nils,_,h=>h
 | .own id,v,⟨h1,h2⟩=>⟨Xbi h1 hx,by rw[hn id h1];exact h2⟩
 | .vw id lo hi,v,⟨h1,h2⟩=>⟨Xbi h1 hx,by rw[hn id h1];exact h2⟩
 | .aptr id,v,⟨h1,h2⟩=>⟨Xbi h1 hx,by rw[hn id h1];exact h2⟩
 | .ptr id off,v,⟨h1,h2⟩=>⟨Xbi h1 hx,by rw[hn id h1];exact h2⟩
 | .eptr id i off,v,⟨h1,h2⟩=>⟨Xbi h1 hx,by rw[hn id h1];exact h2⟩
 | .rptr t d off,v,⟨b,o,cs,h1,h2,h3⟩=>⟨b,o,cs,h1,Wbm hg t d _ h2,WiS hg h3⟩
 | .clos f caps,v,⟨vs,h1,h2,h3⟩=>⟨vs,h1,h2,λj id u hc hv=>by
   obtain⟨h4,h6,h5⟩:=h3 j id u hc hv;exact⟨Xbi h4 hx,h6,by rw[hn id h4];exact h5⟩⟩
 | .junk,_,_=>trivial
theorem CellsRel.mono(hg:GLe G G')(hn:WsS nx ν ν')(hx:nx<=ai){cs:List Cell}{vs:List Value}(h:CellsRel G ν nx cs vs):CellsRel G' ν' ai cs vs:=
 ⟨h.1,λj c v hc hv=>⟨CellRel.mono hg hn hx c v (h.2 j c v hc hv).1,(h.2 j c v hc hv).2⟩⟩
theorem AvRel.mono(hg:GLe G G')(hn:WsS nx ν ν')(hx:nx<=ai):∀(x:AV) (v:Value),AvRel G ν nx x v->AvRel G' ν' ai x v
 | .one c,v,h=>⟨CellRel.mono hg hn hx c v h.1,h.2⟩
 | .agg cs,v,⟨vs,he,h⟩=>⟨vs,he,h.mono hg hn hx⟩
theorem AValRel.mono(hg:GLe G G')(hn:WsS nx ν ν')(hx:nx<=ai):∀(x:AVal) (v:Value),AValRel G ν nx x v->AValRel G' ν' ai x v
 | .s x,v,h=>AvRel.mono hg hn hx x v h
 | .tup xs,v,⟨vs,he,hl,h⟩=>⟨vs,he,hl,λj x u lz hu=>AvRel.mono hg hn hx x u (h j x u lz hu)⟩
end
theorem WiY(nu:Nu):nu.hdr.oneCell'=true:=by unfold Nu.hdr;split<;>rfl
theorem Wpr(nu:Nu)(lo hi:Nat):(nu.vhdr lo hi).oneCell'=true:=by unfold Nu.vhdr;split<;>rfl
section
variable{α:Type}{R R':α->List Value->List Pc->Prop}
theorem Wba{n:Nat}(h:∀x c p,R x c p->c.length=n):∀(l:List α) (cs:List Value) (ps:List Pc),EncP R l cs ps->cs.length=l.length*n
 | [],cs,ps,e=>by simp[e.1]
 |x::l,cs,ps,⟨c1,c2,p1,p2,he,hp,h1,h2⟩=>by
  rw[he,Xz,h _ _ _ h1,Wba h l c2 p2 h2,Xs,Xbv,Xcu]
theorem WbX{Q:Pc->Prop}(h:∀x c p,(∀q∈p,Q q)->R x c p->R' x c p):∀(l:List α) (cs:List Value) (ps:List Pc),(∀q∈ps,Q q)->EncP R l cs ps->EncP R' l cs ps
 | [],_,_,_,e=>e
 |_::l,_,_,hq,⟨c1,c2,p1,p2,he,hp,h1,h2⟩=>by
  subst hp;exact⟨c1,c2,p1,p2,he,rfl,h _ _ _ (λq hm=>hq q (Xk _ hm)) h1,WbX h l c2 p2 (λq hm=>hq q (Xg _ hm)) h2⟩
theorem WdQ:∀(l l':List α) (cs cs':List Value) (ps qI:List Pc),EncP R l cs ps->EncP R l' cs' qI->EncP R (l++l') (cs++cs') (ps++qI)
 | [],_,cs,cs',ps,qI,e,e'=>by obtain⟨rfl,rfl⟩:=e;exact e'
 |x::l,l',_,cs',_,qI,⟨c1,c2,p1,p2,he,hp,h1,h2⟩,e'=>⟨c1,c2++cs',p1,p2++qI,by simp[he],by simp[hp],h1,WdQ l l' c2 cs' p2 qI h2 e'⟩
theorem WjM:∀(l l':List α) (cs:List Value) (ps:List Pc),EncP R (l++l') cs ps->∃c1 c2 p1 p2,cs=c1++c2/\ps=p1++p2/\EncP R l c1 p1/\EncP R l' c2 p2
 | [],l',cs,ps,e=>⟨[],cs,[],ps,rfl,rfl,⟨rfl,rfl⟩,e⟩
 |x::l,l',cs,ps,⟨c1,c2,p1,p2,he,hp,h1,h2⟩=>by
  obtain⟨d1,d2,q1,q2,g1,g2,g3,g4⟩:=WjM l l' c2 p2 h2;exact⟨c1++d1,d2,p1++q1,q2,by grind,by grind,⟨c1,d1,p1,q1,rfl,rfl,h1,g3⟩,g4⟩
theorem Wo1{x:α}{cs:List Value}{ps:List Pc}:EncP R [x] cs ps↔R x cs ps:=by
 constructor
 .rintro⟨c1,c2,p1,p2,he,hp,h1,h2,h3⟩;simp_all
 .intro h;exact⟨cs,[],ps,[],by simp,by simp,h,rfl,rfl⟩
theorem WeF(l:List α)(cs:List Value)(ps:List Pc)(n:Nat)(h:EncP R l cs ps):∃c1 c2 p1 p2,cs=c1++c2/\ps=p1++p2/\EncP R (l.take n) c1 p1/\EncP R (l.drop n) c2 p2:=
 WjM _ _ _ _ (by simp_all)
theorem Wn0{l:List α}{cs:List Value}{ps:List Pc}{i:Nat}(h:EncP R l cs ps)(d:α)(hi:i<l.length):
  ∃c1 c c2 p1 p p2,cs=c1++(c++c2)/\ps=p1++(p++p2)/\EncP R (l.take i) c1 p1/\R (l.getD i d) c p/\EncP R (l.drop (i+1)) c2 p2:=by
 obtain⟨c1,c',p1,p',h1,h2,h3,h4⟩:=WeF l cs ps i h;have e:l.drop i=l.getD i d::l.drop (i+1):=by
  simp_all
 rw[e]at h4;obtain⟨c,c2,p,p2,h5,h6,h7,h8⟩:=h4
 grind
theorem WoT{l:List α}{c1 c c2:List Value}{p1 p p2:List Pc}{i:Nat}{x:α}(hi:i<l.length)(h1:EncP R (l.take i) c1 p1)(h:R x c p)(h2:EncP R (l.drop (i+1)) c2 p2):
  EncP R (l.set i x) (c1++(c++c2)) (p1++(p++p2)):=by
 have e:l.set i x=l.take i++(x::l.drop (i+1)):=by
  rw[Xeh,Wb hi]
 rw[e];exact WdQ _ _ _ _ _ _ h1 ⟨c,c2,p,p2,rfl,rfl,h,h2⟩
end
section
variable{G G':GH}{w w':World}
theorem WF:∀(t:Ty) (d:t.den) (vs:List Value) (ns:List Pc),TyRel G w t d vs ns->vs.length=t.size
 | .own e,xs,vs,ns,⟨p,_,h,_⟩=>by rw[h];rfl
 | .prod a b,d,vs,ns,⟨v1,v2,n1,n2,h1,h2,h3,h4⟩=>by
  rw[h1,Xz,WF a _ _ _ h3,WF b _ _ _ h4];rfl
 | .int k,d,vs,ns,h=>Enc_len _ _ _ h.2
 | .bool,d,vs,ns,h=>Enc_len _ _ _ h.2
 | .str,d,vs,ns,h=>Enc_len _ _ _ h.2
 | .slice e,d,vs,ns,h=>Enc_len _ _ _ h.2
theorem W9:∀(t:Ty) (d:t.den) (vs:List Value) (ns:List Pc),TyRel G w t d vs ns->ns.length=t.owns
 | .own e,xs,vs,ns,⟨nu,h,_⟩=>by rw[h];rfl
 | .prod a b,d,vs,ns,⟨v1,v2,n1,n2,h1,h2,h3,h4⟩=>by rw[h2,Xz,W9 a _ _ _ h3,W9 b _ _ _ h4];rfl
 | .int k,d,vs,ns,h=>by rw[h.1];rfl
 | .bool,d,vs,ns,h=>by rw[h.1];rfl
 | .str,d,vs,ns,h=>by rw[h.1];rfl
 | .slice e,d,vs,ns,h=>by rw[h.1];rfl
theorem Wbi:∀(t:Ty) (d:t.den) (vs:List Value) (ns:List Pc),t.data=true->(TyRel G w t d vs ns↔Enc G t d vs/\ns= [])
 | .own e,xs,vs,ns,h=>by simp[Ty.data]at h
 | .prod a b,d,vs,ns,h=>by
  simp only[Ty.data,Xi]at h;constructor
  .rintro⟨v1,v2,n1,n2,h1,h2,h3,h4⟩;obtain⟨e1,e2⟩:=(Wbi a _ _ _ h.1).1 h3;obtain⟨e3,e4⟩:=(Wbi b _ _ _ h.2).1 h4;exact⟨⟨v1,v2,h1,e1,e3⟩,by simp_all⟩
  .rintro⟨⟨v1,v2,h1,h2,h3⟩,h4⟩;exact⟨v1,v2,[],[],h1,h4,(Wbi a _ _ _ h.1).2 ⟨h2,rfl⟩,(Wbi b _ _ _ h.2).2 ⟨h3,rfl⟩⟩
 | .int k,d,vs,ns,_=>⟨λh=>⟨h.2,h.1⟩,λh=>⟨h.2,h.1⟩⟩
 | .bool,d,vs,ns,_=>⟨λh=>⟨h.2,h.1⟩,λh=>⟨h.2,h.1⟩⟩
 | .str,d,vs,ns,_=>⟨λh=>⟨h.2,h.1⟩,λh=>⟨h.2,h.1⟩⟩
 | .slice e,d,vs,ns,_=>⟨λh=>⟨h.2,h.1⟩,λh=>⟨h.2,h.1⟩⟩
theorem EncP_data{e:Ty}(he:e.data=true):∀(xs:List e.den) (cs:List Value) (ps:List Pc),EncP (TyRel G w e) xs cs ps↔EncL (Enc G e) xs cs/\ps= []
 | [],cs,ps=>Iff.rfl
 |x::xs,cs,ps=>by
  constructor
  .rintro⟨c1,c2,p1,p2,h1,h2,h3,h4⟩;obtain⟨e1,e2⟩:=(Wbi e _ _ _ he).1 h3;obtain⟨e3,e4⟩:=(EncP_data he xs _ _).1 h4;exact⟨⟨c1,c2,h1,e1,e3⟩,by simp_all⟩
  .rintro⟨⟨c1,c2,h1,h2,h3⟩,h4⟩;exact⟨c1,c2,[],[],h1,h4,(Wbi e _ _ _ he).2 ⟨h2,rfl⟩,(EncP_data he xs _ _).2 ⟨h3,rfl⟩⟩
structure Same(S:CS)(w w':World):Prop where
 row:∀b n,Row w b n->Row w' b n
 cell:∀b o,S b o->w'.cell? ⟨b,o,none⟩=w.cell? ⟨b,o,none⟩
theorem Same.mono{S S':CS}(h:Same S w w')(hl:CS.le S' S):Same S' w w':=⟨h.row,λb o hs=>h.cell b o (hl b o hs)⟩
theorem Mem.same{S:CS}(h:Same S w w'){b o n:Nat}{cs:List Value}(hm:Mem w b o cs)(hn:cs.length<=n)(hs:CS.le (rng b o n) S):Mem w' b o cs:=λj v hj=>by
 have hlt:j<cs.length:=(Xad.1 hj).1;rw[h.cell b (o+j) (hs _ _ ⟨rfl,by omega,by omega⟩)];exact hm j v hj
theorem Wh4{α:Type}{R R':α->List Value->List Pc->Prop}{n:Nat}{nu:Nu}{xs:List α}{S S':CS}(hR:∀x c p,R x c p->c.length=n)(h:Same S w w')(hle:CS.le S S')
  (hm:∀x c p,(∀q∈p,CS.le q.fp S)->R x c p->R' x c p) (ho:OwnL w R n nu xs S):OwnL w' R' n nu xs S':=by
 obtain⟨h1,h2,h3⟩:=ho;refine⟨h1,h2,?_⟩;cases hb:nu.blk with
 |none=>simp_all
 |some b=>
  simp only[hb]at h3;obtain⟨h4,h5,h6,cs,ps,h7,h8,h9,cP⟩:=h3;have hl:=Wba hR _ _ _ h7;have kz:xs.length*n<=nu.cap*n:=Xbf _ h4;exact⟨h4,h5,h.row _ _ h6,cs,ps,WbX (Q:=λq=>CS.le q.fp S) hm _ _ _ (λq hq=>cP _ (Xe _ (Xap hq))) h7,h8.same h (n:=nu.cap*n) (by omega) (cP _ (Xh ..)),h9,λs hs b o hh=>hle b o (cP s hs b o hh)⟩
theorem WaL(hg:GLe G G'):∀(t:Ty) (d:t.den) (vs:List Value) (ns:List Pc),(∀p∈ns,Same p.fp w w')->TyRel G w t d vs ns->TyRel G' w' t d vs ns
 | .own e,xs,vs,ns,hs,⟨p,h1,h2,h3⟩=>by
  subst h1;have jL:=hs p (Xaf.2 rfl);exact⟨p,rfl,h2,Wh4 (λx c q hx=>WF e x c q hx) jL (λ_ _ hh=>hh) (λx c q hq hx=>WaL hg e x c q (λq' lA=>jL.mono (hq q' lA)) hx) h3⟩
 | .prod a b,d,vs,ns,hs,⟨v1,v2,n1,n2,h1,h2,h3,h4⟩=>by
  subst h2;exact⟨v1,v2,n1,n2,h1,rfl,WaL hg a _ _ _ (λp hp=>hs p (Xk _ hp)) h3,WaL hg b _ _ _ (λp hp=>hs p (Xg _ hp)) h4⟩
 | .int k,d,vs,ns,_,h=>⟨h.1,Wbm hg _ _ _ h.2⟩
 | .bool,d,vs,ns,_,h=>⟨h.1,Wbm hg _ _ _ h.2⟩
 | .str,d,vs,ns,_,h=>⟨h.1,Wbm hg _ _ _ h.2⟩
 | .slice e,d,vs,ns,_,h=>⟨h.1,Wbm hg _ _ _ h.2⟩
theorem Same.refl(S:CS)(w:World):Same S w w:=⟨λ_ _ h=>h,λ_ _ _=>rfl⟩
theorem Wc5(hg:GLe G G'){e:Ty}{nu:Nu}{xs:List e.den}{S S':CS}(h:Same S w w')(hle:CS.le S S')(ho:OwnL w (TyRel G w e) e.size nu xs S):OwnL w' (TyRel G' w' e) e.size nu xs S':=
 Wh4 (λx c q hx=>WF e x c q hx) h hle (λx c q hq hx=>WaL hg e x c q (λq' lA=>h.mono (hq q' lA)) hx) ho
theorem WjA(hg:GLe G G'){e:Ty}{nu np:Nu}{xs:List e.den}{i:Nat}{S S':CS}(h:Same S w w')(hle:CS.le S S')(ho:WhM w (TyRel G w e) e.size nu np xs i S):WhM w' (TyRel G' w' e) e.size nu np xs i S':=by
 obtain⟨h1,h2,h3,b,h4,h5,h6,h7,h8,h9,c1,c2,p1,p2,g1,g2,g3,g4,g5,g6⟩:=ho;have l1:=Wba (λx c q hx=>WF e x c q hx) _ _ _ g1;have l2:=Wba (λx c q hx=>WF e x c q hx) _ _ _ g2;rw[Xba,Xca (by omega)]at l1;rw[Xdx]at l2;have kz:(xs.length-(i+1))*e.size<=(nu.cap-(i+1))*e.size:=Xbf _ (by omega);refine⟨h1,h2,h3,b,h4,h5,h6,h7,h8,h.row _ _ h9,c1,c2,p1,p2,?_,?_,?_,?_,g5,λs hs b o hh=>hle b o (g6 s hs b o hh)⟩
 .exact WbX (Q:=λq=>CS.le q.fp S) (λx c q hq hx=>WaL hg e x c q (λq' lA=>h.mono (hq q' lA)) hx) _ _ _ (λq hq=>g6 _ (by grind)) g1
 .exact WbX (Q:=λq=>CS.le q.fp S) (λx c q hq hx=>WaL hg e x c q (λq' lA=>h.mono (hq q' lA)) hx) _ _ _ (λq hq=>g6 _ (by grind)) g2
 .exact g3.same h (n:=i*e.size) (by omega) (g6 _ (Xh ..))
 .exact g4.same h (n:=(nu.cap-(i+1))*e.size) (by omega) (g6 _ (Xe _ (Xh ..)))
theorem WdF(hg:GLe G G'){ν ν':Nat->Nu}{nx ai id:Nat}{S S':CS}(h:Same S w w')(hle:CS.le S S')(hn:WsS nx ν ν')(hx:nx<=ai)(bz:id<nx):
  ∀(ob:Ob),WcG G ν nx w id S ob->WcG G' ν' ai w' id S' ob
 | .dead,_=>trivial
 | .box cs,⟨b,vs,h1,h2,h3,h4,h5⟩=>by
  refine⟨b,vs,by rw[hn id bz];exact h1,by rw[hn id bz];exact h.row _ _ h2,by rw[hn id bz];exact h3.same h (n:=cs.length) (by rw[h4.1];omega) h5,h4.mono hg hn hx,by rw[hn id bz];exactλb o hh=>hle b o (h5 b o hh)⟩
 | .arr e xs,ho=>by
  show OwnL w' (TyRel G' w' e) e.size (ν' id) xs S';rw[hn id bz];exact Wc5 hg h hle ho
 | .hole e xs i p,⟨hp,ho⟩=>by
  show p<ai/\WhM w' (TyRel G' w' e) e.size (ν' id) (ν' p) xs i S';rw[hn id bz,hn p hp];grind [Xbi,WjA]
theorem WhV{ν:Nat->Nu}{nx:Nat}:∀(t:Ty) (d:t.den) (vs:List Value) (ns:List Pc),TyRel G w t d vs ns->CellsRel G ν nx (split t d) vs
 | .own e,d,vs,ns,⟨p,_,h,_⟩=>by rw[h];exact CellsRel.one trivial (WiY _)
 | .prod a b,d,vs,ns,⟨v1,v2,n1,n2,h1,h2,h3,h4⟩=>by
  rw[h1];exact(WhV a _ _ _ h3).append (WhV b _ _ _ h4)
 | .int k,d,vs,ns,h=>WaT _ _ _ h.2
 | .bool,d,vs,ns,h=>WaT _ _ _ h.2
 | .str,d,vs,ns,h=>WaT _ _ _ h.2
 | .slice e,d,vs,ns,h=>WaT _ _ _ h.2
theorem Wry{A A' B B':Type}(hA:A=A')(hB:B=B')(h:(A×B)=(A'×B'))(d:A×B):cast h d=(cast hA d.1,cast hB d.2):=by
 grind
theorem Wtf{A A':Type}(hA:A=A')(h:List A=List A')(x:A)(l:List A):cast h (x::l)=cast hA x::cast h l:=by
 grind
theorem Wt7{A A':Type}(hA:A=A')(h:List A=List A'):cast h ([]:List A)= []:=by
 grind
theorem WnS{A A':Type}(hA:A=A')(h:List A=List A')(l:List A):(cast h l).length=l.length:=by
 grind
theorem Wsu(a b:Ty)(d:(Ty.prod a b).den):WuI (.prod a b) d=(WuI a d.1,WuI b d.2):=Wry (Weh a).symm (Weh b).symm _ d
theorem WqQ(e:Ty)(x:e.den)(l:List e.den):WcE e (x::l)=WuI e x::WcE e l:=Wtf (Weh e).symm _ x l
theorem Wni(e:Ty):WcE e []= []:=Wt7 (Weh e).symm _
theorem Wgf(e:Ty)(l:List e.den):(WcE e l).length=l.length:=WnS (Weh e).symm _ l
theorem WbL:∀t:Ty,t.ro.size=t.size
 | .prod a b=>by simp only[Ty.ro,Ty.size,WbL a,WbL b]
 | .own _| .slice _| .int _| .bool| .str=>rfl
theorem Woi:∀t:Ty,t.ro.data=true
 | .prod a b=>by simp only[Ty.ro,Ty.data,Woi a,Woi b];rfl
 | .own _| .slice _| .int _| .bool| .str=>rfl
def Froz(G:GH)(w:World)(S:CS):Prop:=∀b o v,S b o->w.cell? ⟨b,o,none⟩=some v->G b o=some v
theorem Froz.mono{G:GH}{S S':CS}(h:Froz G w S)(hl:CS.le S' S):Froz G w S':=λb o v hs=>h b o v (hl b o hs)
theorem Mem.stored{b o n:Nat}{cs:List Value}(hm:Mem w b o cs)(hn:cs.length<=n)(hf:Froz G w (rng b o n)):WfG G b o cs:=λj v hj=>by
 have hlt:j<cs.length:=(Xad.1 hj).1;exact hf b (o+j) v ⟨rfl,by omega,by omega⟩ (hm j v hj)
theorem WlG{e:Ty}(hE:∀(x:e.den) (c:List Value) (p:List Pc),(∀q∈p,Froz G' w q.fp)->TyRel G w e x c p->Enc G' e.ro (WuI e x) c):
  ∀(xs:List e.den) (cs:List Value) (ps:List Pc),(∀q∈ps,Froz G' w q.fp)->EncP (TyRel G w e) xs cs ps->EncL (Enc G' e.ro) (WcE e xs) cs
 | [],cs,ps,_,h=>by rw[Wni];exact h.1
 |x::xs,cs,ps,hf,⟨c1,c2,p1,p2,h1,h2,h3,h4⟩=>by
  subst h2;rw[WqQ];exact⟨c1,c2,h1,hE x c1 p1 (λq hq=>hf q (Xk _ hq)) h3,WlG hE xs c2 p2 (λq hq=>hf q (Xg _ hq)) h4⟩
theorem Wr2{e:Ty}(hE:∀(x:e.den) (c:List Value) (p:List Pc),(∀q∈p,Froz G' w q.fp)->TyRel G w e x c p->Enc G' e.ro (WuI e x) c){nu:Nu}{xs:List e.den}{S:CS}
  (hf:Froz G' w S) (h:OwnL w (TyRel G w e) e.size nu xs S):Wjj G' (Enc G' e.ro) (WcE e xs) nu.hdr:=by
 obtain⟨h1,h2,h3⟩:=h;unfold Nu.hdr;cases hb:nu.blk with
 |none=>simp only[hb]at h3;exact .inl ⟨rfl,by rw[h3,Wni]⟩
 |some b=>
  simp only[hb]at h3;obtain⟨h4,h5,h6,cs,ps,h7,h8,h9,cP⟩:=h3;have hl:=Wba (λx c q hx=>WF e x c q hx) _ _ _ h7;have kz:xs.length*e.size<=nu.cap*e.size:=Xbf _ h4;refine .inr (.inl ⟨b,nu.off,nu.cap,cs,by rw[Wgf,h1],by grind [Wgf],h5,WlG hE xs cs ps (λq hq=>hf.mono (cP _ (Xe _ (Xap hq)))) h7,?_⟩);exact h8.stored (n:=nu.cap*e.size) (by omega) (hf.mono (cP _ (Xh ..)))
theorem Wd0(hg:GLe G G'):∀(t:Ty) (d:t.den) (vs:List Value) (ns:List Pc),(∀p∈ns,Froz G' w p.fp)->TyRel G w t d vs ns->Enc G' t.ro (WuI t d) vs
 | .own e,xs,vs,ns,hf,⟨p,h1,h2,h3⟩=>by
  subst h1;exact⟨_,h2,Wr2 (λx c q hq hx=>Wd0 hg e x c q hq hx) (hf p (Xaf.2 rfl)) h3⟩
 | .prod a b,d,vs,ns,hf,⟨v1,v2,n1,n2,h1,h2,h3,h4⟩=>by
  subst h2;rw[Wsu];exact⟨v1,v2,h1,Wd0 hg a _ _ _ (λp hp=>hf p (Xk _ hp)) h3,Wd0 hg b _ _ _ (λp hp=>hf p (Xg _ hp)) h4⟩
 | .int k,d,vs,ns,_,h=>Wbm hg (.int k) _ _ h.2
 | .bool,d,vs,ns,_,h=>Wbm hg .bool _ _ h.2
 | .str,d,vs,ns,_,h=>Wbm hg .str _ _ h.2
 | .slice e,d,vs,ns,_,h=>Wbm hg (.slice e) _ _ h.2
theorem Wja(hg:GLe G G'){e:Ty}{nu:Nu}{xs:List e.den}{S:CS}(hf:Froz G' w S)(h:OwnL w (TyRel G w e) e.size nu xs S):Wjj G' (Enc G' e.ro) (WcE e xs) nu.hdr:=
 Wr2 (λx c q hq hx=>Wd0 hg e x c q hq hx) hf h
theorem Wtj{b:Nat}{vs:Array Value}{T:TypeId}(h:w.heap[b]?=some (Obj.cells vs T (0,0))){o:Nat}{cs:List Value}(hc:∀j v,cs[j]?=some v->vs.toList[o+j]?=some v):Mem w b o cs:=λj v hj=>by
 grind [cell_of_row]
theorem Mem.left{b o:Nat}{c1 c2:List Value}(h:Mem w b o (c1++c2)):Mem w b o c1:=λj v hj=>h j v (by grind)
theorem Mem.right{b o n:Nat}{c1 c2:List Value}(h:Mem w b o (c1++c2))(hn:c1.length=n):Mem w b (o+n) c2:=λj v hj=>by
 have:=h (n+j) v (by grind)
 grind
theorem Mem.app{b o n:Nat}{c1 c2:List Value}(h1:Mem w b o c1)(h2:Mem w b (o+n) c2)(hn:c1.length=n):Mem w b o (c1++c2):=λj v hj=>by
 rw[Xav]at hj;split at hj
 .exact h1 j v hj
 .rename_i hlt;have:=h2 (j-c1.length) v hj
  grind
theorem Ws7{e:Ty}{nu:Nu}{xs:List e.den}{S:CS}{b i:Nat}(h:OwnL w (TyRel G w e) e.size nu xs S)(hb:nu.blk=some b)(hi:i<xs.length):
  ∃c p,TyRel G w e (xs.getD i e.dflt) c p/\Mem w b (nu.off+i*e.size) c:=by
 obtain⟨h1,h2,h3⟩:=h;simp only[hb]at h3;obtain⟨h4,h5,h6,cs,ps,h7,h8,h9,cP⟩:=h3;obtain⟨c1,c,c2,p1,p,p2,g1,g2,g3,g4,g5⟩:=Wn0 h7 e.dflt hi;refine⟨c,p,g4,?_⟩;rw[g1]at h8;have hl:=Wba (λx c q hx=>WF e x c q hx) _ _ _ g3;rw[Xba,Xca (by omega)]at hl;exact(h8.right hl).left
theorem WdJ{e:Ty}(he:e.data=true){nu:Nu}{xs:List e.den}{S:CS}{b:Nat}(h:OwnL w (TyRel G w e) e.size nu xs S)(hb:nu.blk=some b):
  xs.length=nu.len/\xs.length<=nu.cap/\nu.cap<=maxLen/\Row w b (nu.off+nu.cap*e.size)/\∃cs,EncL (Enc G e) xs cs/\Mem w b nu.off cs/\CS.le (rng b nu.off (nu.cap*e.size)) S:=by
 obtain⟨h1,h2,h3⟩:=h
 grind [EncP_data,Xh]
theorem Wmv{e:Ty}(he:e.data=true){nu:Nu}{xs:List e.den}{S:CS}{b:Nat}{cs:List Value}(hb:nu.blk=some b)(h1:xs.length=nu.len)(h2:nu.esz=e.size)(h4:xs.length<=nu.cap)(h5:nu.cap<=maxLen)
  (h6:Row w b (nu.off+nu.cap*e.size)) (h7:EncL (Enc G e) xs cs) (h8:Mem w b nu.off cs) (h9:CS.le (rng b nu.off (nu.cap*e.size)) S):OwnL w (TyRel G w e) e.size nu xs S:=by
 refine⟨h1,h2,?_⟩;simp only[hb];exact⟨h4,h5,h6,cs,[],(EncP_data he xs cs []).2 ⟨h7,rfl⟩,h8,Xy.2 ⟨by simp,List.Pairwise.nil⟩,λs hs=>by simp_all⟩
theorem Wcs{e:Ty}{nu:Nu}{xs:List e.den}{S:CS}(h:OwnL w (TyRel G w e) e.size nu xs S)(hb:nu.blk=none):xs= []:=by
 obtain⟨h1,h2,h3⟩:=h;simp_all
end
end Go.Sx
namespace Go.Sx
set_option linter.unusedVariables false
set_option linter.unusedSimpArgs false
def WbO:Ty->List Value
 | .prod a b=>WbO a++WbO b
 | .int k=>[.int k 0]
 | .bool=>[.bool false]
 | .str=>[.string ⟨#[]⟩]
 | .slice _=>[.slice none 0 0]
 | .own _=>[.pointer none]
def rep{α:Type}(l:List α):Nat->List α
 |0=>[]
 |n+1=>l++rep l n
def TE.cells(te:TE):List Value:=match te.shape with
 | .arr n _=>rep (WbO te.ty) n
 |_=>WbO te.ty
def TE.size(te:TE):Nat:=match te.shape with
 | .arr n _=>n*te.ty.size
 |_=>te.ty.size
structure TEok(P:Program)(T:Tab)(t:TypeId)(te:TE):Prop where
 und:match te.shape with
  | .basic=>te.agg=false/\(match te.ty with
   | .int k=>P.underlying t=some (.int k)
   | .bool=>P.underlying t=some .bool
   | .str=>P.underlying t=some .string
   |_=>False)
  | .slice e=>te.agg=false/\P.underlying t=some (.slice e)/\∃du,look T e=some du/\te.ty= .slice du.ty
  | .struct fs=>te.agg=true/\∃fields:Array Field,P.underlying t=some (.struct fields)/\fields.toList.map (λf=>(f.offset,f.type))=fs/\
    (∀f∈fields,f.name≠ "_")∧P.stoodInHeld t=false∧P.eqGuardType P.depth t=false
  | .ptr e=>te.agg=false/\P.underlying t=some (.pointer e)
  | .arr n e=>te.agg=true/\P.underlying t=some (.array n e)/\∃du,look T e=some du/\du.ty=te.ty/\∀m f,du.shape≠ .arr m f
 info:∃i z,P.info? t=some i/\i.size=te.size/\i.zero=some z/\z.cells.toList=te.cells/\i.bytes<=4096
def Wao(P:Program)(T:Tab):Prop:=∀t te,look T t=some te->TEok P T t te
theorem WbU:∀t:Ty,0<t.size
 | .prod a b=>by have:=WbU a;simp[Ty.size];omega
 | .int _| .bool| .str| .slice _| .own _=>by simp[Ty.size]
section
variable{P:Program}{T:Tab}{w:World}
theorem Wk{t:TypeId}{d:TypeDesc}(h:P.underlying t=some d):(underlying t).run P w= .ok d w:=by
 simp[underlying,h]
theorem WhG{t:TypeId}{i:TypeInfo}(h:P.info? t=some i):(typeInfo t).run P w= .ok i w:=by
 simp[typeInfo,h]
theorem Wqg{t:TypeId}{i:TypeInfo}(h:P.info? t=some i):(sizeOf t).run P w= .ok i.size w:=by
 simp[sizeOf,WhG h]
theorem TEok.sizeOf{t:TypeId}{te:TE}(h:TEok P T t te):(sizeOf t).run P w= .ok te.size w:=by
 obtain⟨i,z,hi,hs,_⟩:=h.info;rw[Wqg hi,hs]
theorem TEok.isAgg{t:TypeId}{te:TE}(h:TEok P T t te):(isAgg t).run P w= .ok te.agg w:=by
 have hu:=h.und;obtain⟨ty,agg,shape⟩:=te;cases shape with
 |basic=>
  obtain⟨ha,hu⟩:=hu;cases ty<;>simp only at hu<;>first|exact hu.elim|simp_all [Go.isAgg,Wk]
 |slice e=>simp_all [Go.isAgg,Wk]
 |struct fs=>obtain⟨ha,f,hu,_⟩:=hu;simp_all [Go.isAgg,Wk]
 |ptr e=>simp_all [Go.isAgg,Wk]
 |arr n e=>simp_all [Go.isAgg,Wk]
end
theorem Wbc(b o j:Nat):(⟨b,o,none⟩:Addr).add j=⟨b,o+j,none⟩:=by
 simp[Addr.add]
section
variable{P:Program}{T:Tab}{w:World}{G:GH}{ν:Nat->Nu}{objs:Waj}{nx:Nat}
theorem W2{te:TE}(h:te.plain=true):te.size=te.ty.size:=by
 unfold TE.plain at h;unfold TE.size;split at h<;>simp_all
theorem Wg7{t:TypeId}{te:TE}(bD:TEok P T t te)(eB:te.plain=true){b o off:Nat}{cs:List Cell}{us:List Value}{x:AVal}
  (hc:CellsRel G ν nx cs us) (hm:∀(j:Nat) (v:Value),us[j]?=some v->w.cell? ⟨b,o+j,none⟩=some v)
  (hs:sub te.agg cs off te.ty.size=some x):
  ∃v,(loadVar t ⟨b,o+off,none⟩).run P w= .ok v w/\AValRel G ν nx x v:=by
 have hsz:te.size=te.ty.size:=W2 eB;unfold sub at hs;simp only[loadVar,Sem.run_bind,bD.isAgg,Result.andThen_ok];cases ha:te.agg with
 |true=>
  simp only[ha,Wav]at hs⊢;split at hs
  .rename_i hle;injection hs with hs;subst hs;have hlen:((us.drop off).take te.ty.size).length=te.ty.size:=by simp[hc.1];omega
   have hr:=run_loadCells_list (P:=P) w ⟨b,o+off,none⟩ ((us.drop off).take te.ty.size) (λj v hj=>by
    grind [Wbc,Xay])
   rw[hlen]at hr;refine⟨.agg ((us.drop off).take te.ty.size).toArray,?_,_,rfl,(hc.drop off).take _⟩;simp[bD.sizeOf,hsz,hr]
  grind
 |false=>
  simp only[ha]at hs⊢;cases bB:cs[off]? with
  |none=>simp_all
  |some c=>
   simp[bB]at hs;subst hs;have hlt:off<us.length:=by rw[hc.1];grind
   have hu:us[off]?=some us[off]:=Xq hlt;refine⟨us[off],?_,hc.2 off c _ bB hu⟩;simp_all
end
section
variable{w0:World}{F:CS}{nt:Slots}{G0 G:GH}{ν:Nat->Nu}{st:St}{a:Act}{w:World}{P:Program}{T:Tab}
theorem WrN{G:GH}:∀(t:Ty) (d:t.den) (v:Value),Enc G t d [v]->v.oneCell'=true
 | .int _,_,_,h=>by grind [Enc,Value.oneCell']
 | .bool,_,_,h=>by grind [Enc,Value.oneCell']
 | .str,_,_,h=>by grind [Enc,Value.oneCell']
 | .slice _,_,_,h=>by
  obtain⟨v,hv,hr⟩:=h;simp at hv;subst hv;rcases hr with⟨rfl,_⟩|⟨_,_,_,_,rfl,_⟩|⟨_,_,rfl,_⟩<;>rfl
 | .own _,_,_,h=>h.elim
 | .prod a b,d,v,h=>by
  have:=Enc_len _ _ _ h
  grind [WbU,Ty.size]
theorem WQ{t:Ty}{d:t.den}{v:Value}(h:Enc G t d [v]):AValRel G ν st.nx (one t d) v:=
 ⟨h,WrN t d v h⟩
theorem Wgi:∀(v:Value) (c:Cell),Was v=some c->CellRel G ν st.nx c v/\v.oneCell'=true
 | .int k n,c,h=>by simp[Was]at h;subst h;exact⟨rfl,rfl⟩
 | .bool b,c,h=>by simp[Was]at h;subst h;exact⟨rfl,rfl⟩
 | .string s,c,h=>by simp[Was]at h;subst h;exact⟨by simp[CellRel,Enc],rfl⟩
 | .slice none 0 0,c,h=>by simp[Was]at h;subst h;exact⟨rfl,rfl⟩
 | .slice none 0 (n+1),c,h=>by simp[Was]at h
 | .slice none (n+1) _,c,h=>by simp[Was]at h
 | .slice (some _) _ _,c,h=>by simp[Was]at h
 | .pointer none,c,h=>by simp[Was]at h;subst h;exact⟨trivial,rfl⟩
 | .nilFunc,c,h=>by simp[Was]at h;subst h;exact⟨trivial,rfl⟩
 | .float _ _,_,h| .complex _ _ _,_,h| .pointer (some _),_,h| .map _,_,h| .chan _,_,h| .func _ _ _,_,h| .iface _ _,_,h| .nilIface,_,h| .agg _,_,h| .tuple _,_,h=>by simp[Was]at h
theorem WpU:∀(vs:List Value) (cs:List Cell),vs.mapM Was=some cs->CellsRel G ν st.nx cs vs
 | [],cs,h=>by grind [CellsRel.nil]
 |v::vs,cs,h=>by
  simp only[Xfb,Option.bind_eq_bind,Option.bind_eq_some_iff]at h;obtain⟨c,hc,ds,hd,he⟩:=h;simp at he;subst he;obtain⟨h1,h2⟩:=Wgi (G:=G) (ν:=ν) (st:=st) v c hc;exact(CellsRel.one h1 h2).append (WpU vs ds hd)
theorem WR(h:Rel w0 F nt G0 G ν st a w):∀(x:Operand) (av:AVal),ev st x=some av->AValRel G ν st.nx av (a.eval x)
 | .tmp t,av,he=>by
  obtain⟨v,hv,hr⟩:=h.env t av he;simpa [Act.eval,hv]using hr
 | .const v,av,he=>by
  simp only[ev,Wsx]at he;split at he
  .rename_i cs;cases hm:cs.toList.mapM Was with
   |none=>simp[hm]at he
   |some l=>
    simp[hm]at he;subst he;exact⟨cs.toList,by simp[Act.eval],WpU _ _ hm⟩
  .cases hm:Was v with
   |none=>simp[hm]at he
   |some c=>
    simp[hm]at he;subst he;obtain⟨h1,h2⟩:=Wgi (G:=G) (ν:=ν) (st:=st) v c hm;exact⟨h1,h2⟩
 | .func f,av,he=>by
  simp[ev]at he;subst he;exact⟨⟨[],rfl,rfl,λj id u hj=>by simp at hj⟩,rfl⟩
 | .global g,av,he=>by simp[ev]at he
theorem WfO(av:AVal)(v:Value)(n:Int)(h:AValRel G ν st.nx av v)(he:asI av=some n):∃k,v= .int k n:=by
 unfold asI at he;split at he
 .rename_i k m;injection he with he;subst he;obtain⟨h1,_⟩:=h;simp[CellRel,Enc]at h1;exact⟨k,h1⟩
 .simp at he
theorem WnP(av:AVal)(v:Value)(b:Bool)(h:AValRel G ν st.nx av v)(he:asB av=some b):v= .bool b:=by
 unfold asB at he;split at he
 .injection he with he;subst he;obtain⟨h1,_⟩:=h;simpa [CellRel,Enc]using h1
 .simp at he
def Gives(P:Program)(G:GH)(ν:Nat->Nu)(st:St)(w:World)(s:Sem Value)(r:AVal):Prop:=∃v,s.run P w= .ok v w/\AValRel G ν st.nx r v
theorem Gives.one{s:Sem Value}{t:Ty}{d:t.den}{v:Value}(hr:s.run P w= .ok v w)(h:Enc G t d [v]):Gives P G ν st w s (Sx.one t d):=⟨v,hr,WQ h⟩
theorem WpV{op:BinOp}{k:IntKind}{x y:Int}{r:AVal}(t:TypeId)(hs:op≠ .shl)(ct:op≠ .shr)(h:Wxo op k x y=some (true,r)):
  Gives P G ν st w (Go.binOp op t (.int k x) (.int k y)) r:=by
 cases op<;>simp[Wxo,inz]at h<;>first
  |exact Wg rfl hs
  |exact Wg rfl ct
  |(subst h;exact⟨_,by simp only[Go.binOp,ne_eq,not_true_eq_false,Waw,↓reduceIte,Op.intArith,Op.intBits,Op.intCmp]<;>rfl,WQ rfl⟩)
  |(obtain⟨hz,rfl⟩:=h;exact⟨_,by simp[Go.binOp,Op.intDiv,hz,Wq6,Whx]<;>rfl,WQ rfl⟩)
theorem Wig{op:BinOp}{k yk:IntKind}{x y:Int}{r:AVal}(t:TypeId)(h:(op= .shl/\(true,r)=(inn y,Sx.one (.int k) (Wxm k x y)))\/(op= .shr/\(true,r)=(inn y,Sx.one (.int k) (WrS k x y)))):
  Gives P G ν st w (Go.binOp op t (.int k x) (.int yk y)) r:=by
 rcases h with⟨rfl,h⟩|⟨rfl,h⟩<;>simp[inn]at h<;>obtain⟨hn,rfl⟩:=h
 .exact⟨_,by simp[Go.binOp,Op.shift,Int.not_lt.2 hn,Wxm]<;>rfl,WQ rfl⟩
 .exact⟨_,by simp[Go.binOp,Op.shift,Int.not_lt.2 hn,WrS]<;>rfl,WQ rfl⟩
theorem Wqm{op:BinOp}{x y:List UInt8}{r:AVal}(t:TypeId)(h:Wxv op x y=some (true,r)):
  Gives P G ν st w (Go.binOp op t (.string ⟨x.toArray⟩) (.string ⟨y.toArray⟩)) r:=by
 cases op<;>simp[Wxv]at h
 .obtain⟨hf,rfl⟩:=h;simp[Wxy]at hf;refine⟨.string ⟨(x++y).toArray⟩,?_,WQ rfl⟩;have e:(ByteArray.mk x.toArray++ByteArray.mk y.toArray)=⟨(x++y).toArray⟩:=by
   apply ByteArray.ext;simp
  have hsz:¬((((ByteArray.mk x.toArray).size+(ByteArray.mk y.toArray).size:Nat):Int)>IntKind.i64.max):=by
   have hm:IntKind.i64.max=9223372036854775807:=by decide
   simp only[ByteArray.size,List.size_toArray,hm];omega
  simp only[Go.binOp,Op.stringOp,Wa hsz,e];rfl
 .subst h;exact⟨_,by simp[Go.binOp,Op.stringOp]<;>rfl,WQ rfl⟩
 .subst h;exact⟨_,by simp[Go.binOp,Op.stringOp]<;>rfl,WQ rfl⟩
theorem Wwc(x y:List UInt8):((ByteArray.mk x.toArray).toList==(ByteArray.mk y.toArray).toList)=seq x y:=by simp[seq]
theorem Wlw{te:TE}{c d:Cell}{b:Bool}{u v:Value}{t:TypeId}(bD:TEok P T t te)(hc:CellRel G ν st.nx c u)(hd:CellRel G ν st.nx d v)
  (h:WlK te c d=some b) (n:Nat):(Op.equalIn (n+1) t u v).run P w= .ok b w/\te.agg=false:=by
 have hu:=bD.und;unfold WlK at h;split at h
 .split at h
  .rename_i hk;subst hk;injection h with h;subst h;simp only[CellRel,Enc,List.cons.injEq,and_true]at hc hd;subst hc hd;exact⟨run_equalIn_int w n t _ _ _ _ hu.2,rfl⟩
  .simp at h
 .injection h with h;subst h;simp only[CellRel,Enc,List.cons.injEq,and_true]at hc hd;subst hc hd;exact⟨run_equalIn_bool' w n t _ _ hu.2,rfl⟩
 .injection h with h;subst h;simp only[CellRel,Enc,List.cons.injEq,and_true]at hc hd;subst hc hd;exact⟨(run_equalIn_string w n t _ _ hu.2).trans (Wl (Result.ok · w) (Wwc _ _)),rfl⟩
 .simp at h
theorem Wpw{t:TypeId}{te:TE}(bD:TEok P T t te)(ha:te.agg=false)(cs:Array Value)(off:Nat)(v:Value)(h:cs[off]?=some v):(part t cs off).run P w= .ok v w:=by
 simp only[part,Sem.run_bind,bD.isAgg,Result.andThen_ok,ha];simp[h]
theorem Wfu(hT:Wao P T)(n:Nat)(xs ys:Array Value):∀(fields:List Field) (k:Nat) (cs ds:List Cell) (b:Bool),
  (∀f∈fields,f.name≠ "_")→fields.map (·.offset)=List.range' k fields.length→
  (∀(j:Nat) (c:Cell),cs[j]?=some c->∃v,xs[k+j]?=some v/\CellRel G ν st.nx c v)->
  (∀(j:Nat) (c:Cell),ds[j]?=some c->∃v,ys[k+j]?=some v/\CellRel G ν st.nx c v)->
  Wc6 T (fields.map (·.type)) cs ds=some b->(Op.eqFields (n+1) xs ys fields).run P w= .ok b w
 | [],k,[],[],b,_,_,_,_,h=>by simp[Wc6]at h;subst h;rfl
 |f::fs,k,c::cs,d::ds,b,hn,ho,hx,hy,h=>by
  simp only[Xak,Wc6]at h;cases hl:look T f.type with
  |none=>simp[hl]at h
  |some te=>
   simp only[hl]at h;cases h1:WlK te c d with
   |none=>simp[h1]at h
   |some p=>
    cases h2:Wc6 T (fs.map (·.type)) cs ds with
    |none=>simp[h1,h2]at h
    |some q=>
     simp[h1,h2]at h;subst h;obtain⟨u,hu,zc⟩:=hx 0 c rfl;obtain⟨v,hv,zd⟩:=hy 0 d rfl;obtain⟨he,ha⟩:=Wlw (w:=w) (hT _ _ hl) zc zd h1 n;simp only[Xak,Xs,List.range'_succ,List.cons.injEq]at ho;have ih:=Wfu hT n xs ys fs (k+1) cs ds q (λf hf=>hn f (Xe _ hf)) ho.2
      (λj c hj=>by have:=hx (j+1) c (by simpa using hj);rwa [Xay,Xcu 1 j])
      (λj c hj=>by have:=hy (j+1) c (by simpa using hj);rwa [Xay,Xcu 1 j]) h2
     simp only[Op.eqFields,Wb (hn f (Xh ..)),Sem.run_bind,ho.1];rw[Xax]at hu hv;rw[Wpw (hT _ _ hl) ha xs k u hu,Result.andThen_ok,Wpw (hT _ _ hl) ha ys k v hv,Result.andThen_ok,he,Result.andThen_ok];cases p
     .simp
     .simpa using ih
 | [],_,_::_,_,_,_,_,_,_,h=>by simp[Wc6]at h
 | [],_,[],_::_,_,_,_,_,_,h=>by simp[Wc6]at h
 |_::_,_,[],_,_,_,_,_,_,h=>by simp[Wc6]at h
 |_::_,_,_::_,[],_,_,_,_,_,h=>by simp[Wc6]at h
theorem WbW{op:BinOp}{t:TypeId}{x y:Operand}{u v:Value}(hu:∀cs,u≠ .agg cs)(hn:u≠ .nilIface):(eqGuard op t x y u v).run P w= .ok () w:=by
 unfold eqGuard;cases op<;>simp<;>cases u<;>cases v<;>first|rfl|exact Wg rfl hn|exact Wg rfl (hu _)
theorem WnN(hT:Wao P T){op:BinOp}{t:TypeId}{x y:AVal}{u v:Value}{r:AVal}(ox oy:Operand)(hx:AValRel G ν st.nx x u)(hy:AValRel G ν st.nx y v)
  (h:Sx.binOp T op t x y=some (true,r)):Gives P G ν st w (do eqGuard op t ox oy u v;Go.binOp op t u v) r:=by
 unfold Sx.binOp at h;split at h
 .rename_i k m k' m';obtain⟨hx,_⟩:=hx;obtain⟨hy,_⟩:=hy;simp only[CellRel,Enc,List.cons.injEq,and_true]at hx hy;subst hx hy;have hg:(eqGuard op t ox oy (.int k m) (.int k' m')).run P w= .ok () w:=WbW (by simp) (by simp)
  suffices hh:Gives P G ν st w (Go.binOp op t (.int k m) (.int k' m')) r by
   obtain⟨z,h1,h2⟩:=hh;exact⟨z,by simp[hg,h1],h2⟩
  split at h
  .injection h with h;exact Wig t (.inl ⟨rfl,h.symm⟩)
  .injection h with h;exact Wig t (.inr ⟨rfl,h.symm⟩)
  .split at h
   .rename_i hk;subst hk;exact WpV t (by assumption) (by assumption) h
   .simp at h
 .rename_i m m';obtain⟨hx,_⟩:=hx;obtain⟨hy,_⟩:=hy;simp only[CellRel,Enc,List.cons.injEq,and_true]at hx hy;subst hx hy;obtain⟨z,h1,h2⟩:=Wqm (w:=w) (P:=P) (G:=G) (ν:=ν) (st:=st) t h;exact⟨z,by simp[WbW,h1],h2⟩
 .rename_i m m';obtain⟨hx,_⟩:=hx;obtain⟨hy,_⟩:=hy;simp only[CellRel,Enc,List.cons.injEq,and_true]at hx hy;subst hx hy;split at h
  .rename_i hl;have hu:=(hT _ _ hl).und;simp only[true_and]at hu;have key:(Op.equalIn 10000 t (.bool m) (.bool m')).run P w= .ok (beq m m') w:=run_equalIn_bool' w 9999 t m m' hu;split at h<;>simp at h
   .subst h;exact⟨.bool (beq m m'),by simp[WbW,Go.binOp,Op.equal,Op.maxDepth,key],WQ rfl⟩
   .subst h;exact⟨.bool (!beq m m'),by simp[WbW,Go.binOp,Op.equal,Op.maxDepth,key],WQ rfl⟩
  .simp at h
 .rename_i cs ds;obtain⟨us,rfl,bB⟩:=hx;obtain⟨vs,rfl,gk⟩:=hy;split at h
  .rename_i fs hl;obtain⟨_,fields,hu,eC,ze,aH,nW⟩:=(hT _ _ hl).und;split at h
   .rename_i hr;have hr:=Wu hr;have xl:P.fieldsOf t=fields:=by simp[Program.fieldsOf,hu]
    have key:∀b,Wc6 T (fs.map (·.2)) cs ds=some b->(Op.equalIn 10000 t (.agg us.toArray) (.agg vs.toArray)).run P w= .ok b w:=λb hb=>by
     rw[run_equalIn_struct w 9999 t _ _ (by rw[xl];exact hu) aH,xl];refine Wfu (G:=G) (ν:=ν) (st:=st) hT 9998 us.toArray vs.toArray fields.toList 0 cs ds b (λf hf=>ze f (by simpa using hf)) ?_ ?_ ?_ ?_
     .rw[←eC]at hr;simpa [List.range_eq_range',Function.comp_def]using hr
     .intro j c hj;have hlt:j<us.length:=by rw[bB.1];exact(Xad.1 hj).1
      exact⟨us[j],by simp[hlt],(bB.2 j c _ hj (Xq hlt)).1⟩
     .intro j c hj;have hlt:j<vs.length:=by rw[gk.1];exact(Xad.1 hj).1
      exact⟨vs[j],by simp[hlt],(gk.2 j c _ hj (Xq hlt)).1⟩
     .rw[←eC]at hb;simpa [Function.comp_def]using hb
    split at h
    .rename_i b hb;simp at h;subst h;exact⟨.bool b,by simp[run_eqGuard_agg w _ t ox oy _ _ nW,run_eql_struct,key b hb],WQ rfl⟩
    .rename_i b hb;simp at h;subst h;exact⟨.bool (!b),by simp[run_eqGuard_agg w _ t ox oy _ _ nW,run_neq_struct,key b hb],WQ rfl⟩
    .simp at h
   .simp at h
  .simp at h
 .simp at h
end
end Go.Sx
namespace Go.Sx
set_option linter.unusedVariables false
set_option linter.unusedSimpArgs false
section
variable{w0:World}{F:CS}{nt:Slots}{G0 G:GH}{ν:Nat->Nu}{st:St}{a:Act}{w:World}{P:Program}{T:Tab}
theorem HRel.g{objs:Waj}{nx:Nat}(h:HRel w0 F G ν objs nx w){b o:Nat}{v:Value}(hg:G b o=some v):w.cell? ⟨b,o,none⟩=some v:=by
 obtain⟨φ,h⟩:=h;exact h.g b o v hg
theorem HRel.obj{objs:Waj}{nx:Nat}(h:HRel w0 F G ν objs nx w){id:Nat}{ob:Ob}(ho:look objs id=some ob):∃S,WcG G ν nx w id S ob:=by
 obtain⟨φ,h⟩:=h;exact⟨φ id,h.ob id ob ho⟩
theorem WgS{k:IntKind}{n:Int}{v:Value}(h:AValRel G ν st.nx (.s (.one (.val (.int k) n))) v):v= .int k n:=by
 obtain⟨h,_⟩:=h
 grind [CellRel,Enc]
theorem WkM{n:Bool}{v:Value}(h:AValRel G ν st.nx (.s (.one (.val .bool n))) v):v= .bool n:=by
 obtain⟨h,_⟩:=h
 grind [CellRel,Enc]
theorem WkO{s:List UInt8}{v:Value}(h:AValRel G ν st.nx (.s (.one (.val .str s))) v):v= .string ⟨s.toArray⟩:=by
 obtain⟨h,_⟩:=h
 grind [CellRel,Enc]
theorem Wqx{op:UnOp}{x:AVal}{u:Value}{r:AVal}(hx:AValRel G ν st.nx x u)(h:Sx.unOp op x=some (true,r)):Gives P G ν st w (Op.unary op u) r:=by
 unfold Sx.unOp at h;split at h
 .have:=WkM hx;subst this;simp at h;subst h;exact⟨_,rfl,WQ rfl⟩
 .have:=WgS hx;subst this;simp at h;subst h;exact⟨_,rfl,WQ rfl⟩
 grind
theorem WvH{id:Nat}{e:Ty}{xs:List e.den}{nx:Nat}{S:CS}(h:WcG G ν nx w id S (.arr e xs)):∃a c,(ν id).hdr= .slice a xs.length c:=by
 obtain⟨hlen,_,au⟩:=h;unfold Nu.hdr;cases hb:(ν id).blk with
 |none=>simp_all
 |some b=>simp_all
theorem Wty{id:Nat}{e:Ty}{xs:List e.den}{i p nx:Nat}{S:CS}(h:WcG G ν nx w id S (.hole e xs i p)):∃a c,(ν id).hdr= .slice a xs.length c:=by
 obtain⟨_,hlen,_,_,b,hb,_⟩:=h;unfold Nu.hdr;simp_all
theorem Wu7{t ty:TypeId}(hu:P.underlying t=some .string)(s:List UInt8):(Builtin.len_ #[t] ty #[.string ⟨s.toArray⟩]).run P w= .ok (.int .i64 (Wj s)) w:=by
 have h1:(Builtin.len_ #[t] ty #[.string ⟨s.toArray⟩]).run P w= .ok (goInt (ByteArray.mk s.toArray).size) w:=by
  simp_all [Builtin.len_,Wk]
 rw[h1];rfl
theorem WnI(hT:Wao P T)(hh:HRel w0 F G ν st.objs st.nx w){t ty:TypeId}{x:AVal}{u:Value}{r:AVal}(hx:AValRel G ν st.nx x u)(h:Wjn T st t x=some (true,r)):
  Gives P G ν st w (Builtin.len_ #[t] ty #[u]) r:=by
 unfold Wjn at h;split at h
 .rename_i te e l _ hl;simp at h;subst h;have hu:=(hT _ _ hl).und.2.1;obtain⟨⟨v,hv,hr⟩,_⟩:=hx;simp at hv;subst hv;rcases hr with⟨rfl,bS⟩|⟨b,off,cap,cs,rfl,_⟩|⟨a,cap,rfl,bS⟩
  rotate_left 2
  .exact⟨_,by simp[Builtin.len_,Wk hu]<;>rfl,WQ (by rw[bS];rfl)⟩
  .exact⟨_,by simp[Builtin.len_,Wk hu]<;>rfl,WQ (by rw[bS];rfl)⟩
  .exact⟨_,by simp[Builtin.len_,Wk hu]<;>rfl,WQ rfl⟩
 .rename_i te e _ hl;simp at h;subst h;have hu:=(hT _ _ hl).und.2.1;obtain⟨hv,_⟩:=hx;simp only[CellRel]at hv;subst hv;exact⟨_,by simp[Builtin.len_,Wk hu]<;>rfl,WQ rfl⟩
 .rename_i te e id hl;have hu:=(hT _ _ hl).und.2.1;obtain⟨⟨_,hv⟩,_⟩:=hx;subst hv;unfold obL at h;split at h
  .rename_i e' xs ho;simp at h;subst h;obtain⟨S,au⟩:=hh.obj ho;obtain⟨a,c,hd⟩:=WvH au;rw[hd];exact⟨.int .i64 (Wj xs),by simp[Builtin.len_,Wk hu]<;>rfl,WQ rfl⟩
  .rename_i e' xs i p ho;simp at h;subst h;obtain⟨S,au⟩:=hh.obj ho;obtain⟨a,c,hd⟩:=Wty au;rw[hd];exact⟨.int .i64 (Wj xs),by simp[Builtin.len_,Wk hu]<;>rfl,WQ rfl⟩
  grind
 .rename_i te e id lo hi hl;simp only[Option.some.injEq,Prod.mk.injEq,true_and]at h;subst h;have hu:=(hT _ _ hl).und.2.1;obtain⟨⟨_,h1,h2,h3,hv⟩,_⟩:=hx;subst hv;unfold Nu.vhdr;cases hb:(ν id).blk with
  |none=>
   have h0:=h3 hb;have e0:hi-lo=0:=by omega
   rw[e0];exact⟨_,by simp[Builtin.len_,Wk hu]<;>rfl,WQ rfl⟩
  |some b=>exact⟨.int .i64 ((hi-lo:Nat):Int),by simp[Builtin.len_,Wk hu]<;>rfl,WQ rfl⟩
 .rename_i s hl;simp at h;subst h;have hu:=(hT _ _ hl).und.2;have:=WkO hx;subst this;exact⟨.int .i64 (Wj (α:=UInt8) s),Wu7 hu s,WQ rfl⟩
 grind
theorem WdU(hT:Wao P T){t:TypeId}{f off:Nat}{te:TE}(h:WgM T t f=some (off,te)):
  ∃(fields:Array Field) (fd:Field),P.underlying t=some (.struct fields)/\fields[f]?=some fd/\fd.offset=off/\TEok P T fd.type te/\te.plain=true:=by
 unfold WgM at h;split at h
 .rename_i fs hl;obtain⟨_,fields,hu,eC,_⟩:=(hT _ _ hl).und;split at h
  .rename_i o ft hf;split at h
   .rename_i du bS;split at h
    .rename_i hp;injection h with h;injection h with h1 h2;subst h1 h2;rw[←eC]at hf;simp only[Xan,Array.getElem?_toList]at hf;cases iP:fields[f]? with
     |none=>simp_all
     |some fd=>
      simp[iP]at hf;obtain⟨h1,h2⟩:=hf;subst h1 h2;exact⟨fields,fd,hu,iP,rfl,hT _ _ bS,hp⟩
    grind
   grind
  grind
 grind
theorem WfU{t:TypeId}{f off:Nat}{te:TE}{b o:Nat}{fields:Array Field}{fd:Field}(hu:P.underlying t=some (.struct fields))(hf:fields[f]?=some fd)(ho:fd.offset=off)
  (bD:TEok P T fd.type te) (hp:te.plain=true):(Instr.fieldAt t (.pointer (some ⟨b,o,none⟩)) f).run P w= .ok (.pointer (some ⟨b,o+off,none⟩)) w:=by
 have hsz:te.size≠0:=by grind [W2,WbU]
 simp[Instr.fieldAt,Wk hu,hf,Instr.sureAddr,fieldPlace,bD.sizeOf,hsz,Wbc,ho]
theorem Wg9(hT:Wao P T)(hh:HRel w0 F G ν st.objs st.nx w){t:TypeId}{f:Nat}{x:AVal}{u:Value}{r:AVal}(hx:AValRel G ν st.nx x u)(h:Wch T st t x f=some (true,r)):
  Gives P G ν st w (Instr.fieldAt t u f) r:=by
 unfold Wch at h;split at h
 .rename_i off te id o hf;obtain⟨fields,fd,hu,iP,ho,bD,hp⟩:=WdU hT hf;split at h
  .simp at h;subst h;obtain⟨⟨h1,b,hb,rfl⟩,_⟩:=hx;exact⟨_,WfU hu iP ho bD hp,⟨h1,b,hb,by rw[Xay]⟩,rfl⟩
  grind
 .rename_i off te id i o hf;obtain⟨fields,fd,hu,iP,ho,bD,hp⟩:=WdU hT hf;split at h
  .simp at h;subst h;obtain⟨⟨h1,h2,b,hb,rfl⟩,_⟩:=hx;exact⟨_,WfU hu iP ho bD hp,⟨h1,h2,b,hb,by rw[Xay,Xay]⟩,rfl⟩
  grind
 .rename_i off te t' d o hf;obtain⟨fields,fd,hu,iP,ho,bD,hp⟩:=WdU hT hf;simp at h;subst h;obtain⟨⟨b,o',cs,rfl,h1,h2⟩,_⟩:=hx;exact⟨_,WfU hu iP ho bD hp,⟨b,o',cs,by rw[Xay],h1,h2⟩,rfl⟩
 grind
theorem Wlt(hT:Wao P T){t:TypeId}{f:Nat}{x:AVal}{u:Value}{r:AVal}(hx:AValRel G ν st.nx x u)(h:Woo T t x f=some (true,r)):
  Gives P G ν st w (Instr.field t u f) r:=by
 unfold Woo at h;split at h
 .rename_i off te cs hf;obtain⟨fields,fd,hu,iP,ho,bD,hp⟩:=WdU hT hf;obtain⟨us,rfl,bB⟩:=hx;cases hs:sub te.agg cs off te.ty.size with
  |none=>simp_all
  |some y=>
   simp[hs]at h;subst h;unfold sub at hs;simp only[Gives,Instr.field,Sem.run_bind,Wk hu,Result.andThen_ok,iP,asAgg,Sem.run_pure,part,bD.isAgg];cases ha:te.agg with
   |true=>
    simp only[ha,Wav]at hs⊢;split at hs
    .rename_i hle;injection hs with hs;subst hs;refine⟨.agg ((us.drop off).take te.ty.size).toArray,?_,_,rfl,(bB.drop off).take _⟩;simp[bD.sizeOf,W2 hp,ho]
    grind
   |false=>
    simp only[ha]at hs⊢;cases hc:cs[off]? with
    |none=>simp_all
    |some c=>
     simp[hc]at hs;subst hs;have hlt:off<us.length:=by rw[bB.1];grind
     refine⟨us[off],?_,bB.2 off c _ hc (Xq hlt)⟩;simp_all
 grind
end
end Go.Sx
namespace Go.Sx
set_option linter.unusedVariables false
set_option linter.unusedSimpArgs false
section
variable{w0:World}{F:CS}{nt:Slots}{G0 G:GH}{ν:Nat->Nu}{st:St}{a:Act}{w:World}{P:Program}{T:Tab}
theorem Wmn{α:Type}{R:α->List Value->Prop}{n:Nat}(h:∀x c,R x c->c.length=n)(l:List α)(cs:List Value)(i:Nat)(d:α)(he:EncL R l cs)(hi:i<l.length):
  R (l.getD i d) ((cs.drop (i*n)).take n):=EncL_nth h l cs i _ he (by simp_all)
theorem WdN{i:Int}{n:Nat}(h:inb i n=true):0<=i/\i<n:=by simpa [inb]using h
theorem Wec{t et:TypeId}{te:TE}{k:IntKind}{n:Int}{b off len cap:Nat}(hu:P.underlying t=some (.slice et))(bD:TEok P T et te)(hp:te.plain=true)(h0:0<=n)(h1:n<len):
  (Instr.indexAt t (.slice (some ⟨b,off,none⟩) len cap) (.int k n)).run P w= .ok (.pointer (some ⟨b,off+n.toNat*te.ty.size,none⟩)) w:=by
 simp[Instr.indexAt,asIntOf,Wk hu,h0,h1,bD.sizeOf,W2 hp,Wbc]
theorem Wss(hT:Wao P T)(hh:HRel w0 F G ν st.objs st.nx w){t et:TypeId}{te:TE}{k:IntKind}{n:Int}{id:Nat}{u:Value}{r:AVal}(hu:P.underlying t=some (.slice et))(bD:TEok P T et te)(hp:te.plain=true)
  (hx:AValRel G ν st.nx (.s (.one (.own id))) u) (h:obI te n id (look st.objs id)=some (true,r)):Gives P G ν st w (Instr.indexAt t u (.int k n)) r:=by
 obtain⟨⟨bz,hv⟩,_⟩:=hx;subst hv;unfold obI at h;split at h
 .rename_i e xs au;split at h
  .rename_i he;simp only[Option.some.injEq,Prod.mk.injEq]at h;obtain⟨hb,rfl⟩:=h;obtain⟨h0,h1⟩:=WdN hb;obtain⟨S,hlen,bW,ho⟩:=hh.obj au;unfold Nu.hdr;cases aZ:(ν id).blk with
   |none=>grind
   |some b=>
    refine⟨.pointer (some ⟨b,(ν id).off+n.toNat*te.ty.size,none⟩),Wec hu bD hp h0 (by omega),⟨bz,by omega,b,aZ,?_⟩,rfl⟩;rw[bW,he,WbL,Xax]
  grind
 .rename_i e xs i p au;split at h
  .rename_i he;simp only[Option.some.injEq,Prod.mk.injEq,Xi]at h;obtain⟨⟨hb,hi⟩,rfl⟩:=h;obtain⟨h0,h1⟩:=WdN hb;have hi:=Xcl hi;obtain⟨S,lX,hlen,bW,hlt,b,aZ,gX,zf,ho⟩:=hh.obj au;unfold Nu.hdr;simp only[aZ];refine⟨.pointer (some ⟨b,(ν id).off+n.toNat*te.ty.size,none⟩),Wec hu bD hp h0 (by omega),⟨lX,b,gX,?_⟩,rfl⟩;rw[zf,he,WbL,Xax,hi]
  grind
 grind
theorem Wql(hT:Wao P T)(hh:HRel w0 F G ν st.objs st.nx w){t et:TypeId}{te:TE}{k:IntKind}{n:Int}{id lo hi:Nat}{u:Value}{r:AVal}(hu:P.underlying t=some (.slice et))(bD:TEok P T et te)(hp:te.plain=true)
  (hx:AValRel G ν st.nx (.s (.one (.vw id lo hi))) u) (h:Wwv te n id lo hi (look st.objs id)=some (true,r)):Gives P G ν st w (Instr.indexAt t u (.int k n)) r:=by
 obtain⟨⟨bz,g1,g2,g3,hv⟩,_⟩:=hx;subst hv;unfold Wwv at h;split at h
 .rename_i e xs au;split at h
  .rename_i he;simp only[Option.some.injEq,Prod.mk.injEq]at h;obtain⟨hb,rfl⟩:=h;obtain⟨h0,h1⟩:=WdN hb;obtain⟨S,hlen,bW,ho⟩:=hh.obj au;unfold Nu.vhdr;cases aZ:(ν id).blk with
   |none=>grind
   |some b=>
    simp only[aZ]at ho;have hne:(ν id).cap≠lo:=by omega
    rw[Wa hne];refine⟨.pointer (some ⟨b,(ν id).off+lo*(ν id).esz+n.toNat*te.ty.size,none⟩),Wec hu bD hp h0 h1,⟨bz,by omega,b,aZ,?_⟩,rfl⟩;rw[bW,he,WbL,Xax,Xcs,Xay]
  grind
 grind
theorem WqL(hT:Wao P T)(hh:HRel w0 F G ν st.objs st.nx w){t et:TypeId}{te:TE}{k:IntKind}{n:Int}{m id:Nat}{u:Value}{r:AVal}(hu:P.underlying t=some (.array m et))(bD:TEok P T et te)(hp:te.plain=true)
  (hx:AValRel G ν st.nx (.s (.one (.aptr id))) u) (h:Wwd te n m id (look st.objs id)=some (true,r)):Gives P G ν st w (Instr.indexAt t u (.int k n)) r:=by
 obtain⟨⟨bz,b,aZ,hv⟩,_⟩:=hx;subst hv;unfold Wwd at h;split at h
 .rename_i e xs au;split at h
  .rename_i he;simp only[Option.some.injEq,Prod.mk.injEq,Xi,Wh]at h;obtain⟨⟨hb,hm⟩,rfl⟩:=h;obtain⟨h0,h1⟩:=WdN hb;obtain⟨S,hlen,bW,ho⟩:=hh.obj au;refine⟨.pointer (some ⟨b,(ν id).off+n.toNat*e.size,none⟩),?_,⟨bz,by omega,b,aZ,by rw[bW,Xax]⟩,rfl⟩;have:((0:Int)<=n/\n<(m:Int)):=⟨h0,h1⟩;simp only[Instr.indexAt,asIntOf,Sem.run_bind,Sem.run_pure,Result.andThen_ok,Wk hu,Instr.sureAddr,Wb this,bD.sizeOf,W2 hp,Wbc,he]
  grind
 grind
theorem Wg0(hT:Wao P T)(hh:HRel w0 F G ν st.objs st.nx w){t:TypeId}{x i:AVal}{u v:Value}{r:AVal}(hx:AValRel G ν st.nx x u)(hi:AValRel G ν st.nx i v)
  (h:Wcf T st t x i=some (true,r)):Gives P G ν st w (Instr.indexAt t u v) r:=by
 unfold Wcf at h;split at h
 .rename_i ty ag et n hl hn;obtain⟨k,rfl⟩:=WfO _ _ _ hi hn;have hu:=(hT _ _ hl).und.2.1;split at h
  .rename_i te hle;split at h
   .rename_i hp;split at h
    .rename_i e l;split at h
     .rename_i he;simp only[Option.some.injEq,Prod.mk.injEq]at h;obtain⟨hb,rfl⟩:=h;obtain⟨h0,h1⟩:=WdN hb;obtain⟨⟨z,hz,hr⟩,_⟩:=hx;simp at hz;subst hz;rcases hr with⟨rfl,bS⟩|⟨b,off,cap,cs,rfl,h2,h3,h4,h5⟩|⟨a,cap,rfl,bS⟩
      rotate_left 2
      .grind
      .grind
      .have hlt:n.toNat<Xa l:=by omega
       refine⟨_,Wec hu (hT _ _ hle) hp h0 h1,⟨b,off+n.toNat*e.size,_,?_,Wmn (λx c hc=>Enc_len e x c hc) l cs n.toNat e.dflt h4 hlt,?_⟩,rfl⟩
       .grind
       .intro j v hj;rw[Xbl]at hj;split at hj
        .rw[Xbm]at hj;rw[Xay];exact h5 _ _ hj
        grind
     grind
    .simp at h
    .exact Wss hT hh hu (hT _ _ hle) hp hx h
    .exact Wql hT hh hu (hT _ _ hle) hp hx h
    grind
   grind
  grind
 .rename_i ty ag m et n hl hn;obtain⟨k,rfl⟩:=WfO _ _ _ hi hn;have hu:=(hT _ _ hl).und.2.1;split at h
  .rename_i te hle;split at h
   .rename_i hp;split at h
    .exact WqL hT hh hu (hT _ _ hle) hp hx h
    grind
   grind
  grind
 grind
theorem Wvj(s:List UInt8)(n:Nat)(h:n<s.length):(ByteArray.mk s.toArray)[n]?=some (s.getD n 0):=by
 grind [ByteArray.getElem?_lt',ByteArray.size,ByteArray.getElem_eq_getElem_data]
theorem WjG{k:IntKind}:∀(cs:List Cell) (us:List Value) (l:List Int),WbS k cs=some l->CellsRel G ν st.nx cs us->l.length=cs.length/\∀j,j<us.length->us[j]?=some (.int k (Xc l j (0:Int)))
 | [],us,l,h,hc=>by
  simp only[WbS]at h;injection h with h;subst h;have:=hc.1;simp_all
 | .val (.int k') d::cs,us,l,h,hc=>by
  simp only[WbS]at h;split at h
  .rename_i hk;subst hk;cases hi:WbS k' cs with
   |none=>simp_all
   |some l'=>
    rw[hi]at h;simp only[Xbx]at h;injection h with h;subst h;cases us with
    |nil=>have:=hc.1;grind
    |cons u us=>
     have h0:=(hc.2 0 _ u rfl rfl).1;have hu:u= .int k' d:=by grind [CellRel,Enc]
     obtain⟨h1,h2⟩:=WjG cs us l' hi ⟨by have:=hc.1;simp_all,λj c v hj hv=>hc.2 (j+1) c v (by simp_all) (by simp_all)⟩
     grind
  .cases h
 | .val .bool d::cs,us,l,h,_=>by simp[WbS]at h
 | .val .str d::cs,us,l,h,_=>by simp[WbS]at h
 | .val (.slice _) d::cs,us,l,h,_=>by simp[WbS]at h
 | .val (.own _) d::cs,us,l,h,_=>by simp[WbS]at h
 | .val (.prod _ _) d::cs,us,l,h,_=>by simp[WbS]at h
 | .nils::cs,us,l,h,_=>by simp[WbS]at h
 | .own _::cs,us,l,h,_=>by simp[WbS]at h
 | .vw _ _ _::cs,us,l,h,_=>by simp[WbS]at h
 | .aptr _::cs,us,l,h,_=>by simp[WbS]at h
 | .ptr _ _::cs,us,l,h,_=>by simp[WbS]at h
 | .eptr _ _ _::cs,us,l,h,_=>by simp[WbS]at h
 | .rptr _ _ _::cs,us,l,h,_=>by simp[WbS]at h
 | .clos _ _::cs,us,l,h,_=>by simp[WbS]at h
 | .junk::cs,us,l,h,_=>by simp[WbS]at h
theorem Wk8(hT:Wao P T){t:TypeId}{x i:AVal}{u v:Value}{r:AVal}(hx:AValRel G ν st.nx x u)(hi:AValRel G ν st.nx i v)
  (h:WnQ T t x i=some (true,r)):Gives P G ν st w (Instr.index t u v) r:=by
 unfold WnQ at h;split at h
 .rename_i s n hl hn;obtain⟨k,rfl⟩:=WfO _ _ _ hi hn;have:=WkO hx;subst this;have hu:=(hT _ _ hl).und.2;simp only[Option.some.injEq,Prod.mk.injEq]at h;obtain⟨hb,rfl⟩:=h;obtain⟨h0,h1⟩:=WdN hb;have hlt:n.toNat<Xa s:=by omega
  refine⟨.int .u8 ((Xc s n.toNat 0).toNat:Int),?_,WQ rfl⟩;simp only[Instr.index,asIntOf,Sem.run_bind,Sem.run_pure,Result.andThen_ok,Wk hu,Wb h0,Wvj s n.toNat hlt]
 .rename_i k ag m et cs n hl hn;split at h
  .rename_i k' hle;split at h
   .rename_i l rE;split at h
    .rename_i hc;obtain⟨rfl,hm⟩:=hc;obtain⟨kk,rfl⟩:=WfO _ _ _ hi hn;obtain⟨us,rfl,bB⟩:=hx;simp only[Option.some.injEq,Prod.mk.injEq]at h;obtain⟨hb,rfl⟩:=h;obtain⟨h0,h1⟩:=WdN hb;obtain⟨hlen,gm⟩:=WjG _ _ _ rE bB;have hu:=(hT _ _ hl).und.2.1;have xm:=hT _ _ hle;have lY:(Go.isAgg et).run P w= .ok false w:=xm.isAgg;have hsz:(Go.sizeOf et).run P w= .ok 1 w:=xm.sizeOf;have hlt:n.toNat<us.length:=by rw[bB.1];omega
     have jM:us[n.toNat]?=some (.int k' (Xc l n.toNat (0:Int))):=gm _ hlt;refine⟨.int k' (Xc l n.toNat (0:Int)),?_,WQ rfl⟩;simp only[Instr.index,asIntOf,Sem.run_bind,Sem.run_pure,Result.andThen_ok,Wk hu,h0,h1,and_self,Wav,hsz,part,lY,Nat.mul_one];simp[jM]
    grind
   grind
  grind
 grind
theorem Wih{k:IntKind}{n:Int}{y:Nat}{c:BoundsCode}(h0:0<=n)(h1:n<=y):(Instr.sliceBound (.int k n) y c).run P w= .ok n.toNat w:=by
 simp[Instr.sliceBound,asIntOf,h0,h1]
inductive BRel:Option Int->Option Value->Prop where
 |none:BRel .none .none
 |some (k:IntKind) (n:Int):BRel (.some n) (.some (.int k n))
theorem Wdo(h:Rel w0 F nt G0 G ν st a w)(o:Option Operand)(r:Option Int)(he:WlT st o=some r):BRel r (o.map a.eval):=by
 cases o with
 |none=>simp[WlT]at he;subst he;exact .none
 |some x=>
  simp only[WlT]at he;cases hv:ev st x with
  |none=>simp_all
  |some av=>
   simp only[hv,Option.bind_some]at he;cases hi:asI av with
   |none=>simp_all
   |some n=>
    simp[hi]at he;subst he;obtain⟨k,hk⟩:=WfO _ _ _ (WR h x av hv) hi;simp only[Xbx,hk];exact .some k n
theorem WcU{isSlice:Bool}{n cap:Nat}{lo hi:Option Int}{vl vh:Option Value}(hl:BRel lo vl)(hh:BRel hi vh)(hc:n<=cap)(hb:(WcS n lo hi).1=true):
  (Instr.sliceBounds isSlice n cap vl vh none).run P w= .ok ((WcS n lo hi).2.1,(WcS n lo hi).2.2,cap) w/\(WcS n lo hi).2.1<=(WcS n lo hi).2.2/\(WcS n lo hi).2.2<=n:=by
 cases hl<;>cases hh<;>simp only[WcS,Xi,Wh]at hb⊢
 .simp[Instr.sliceBounds]
 .grind [Instr.sliceBounds,Sem.run_bind,Sem.run_pure,Result.andThen_ok,Wih]
 .grind [Instr.sliceBounds,Sem.run_bind,Sem.run_pure,Result.andThen_ok,Wih]
 .rename_i k l k' h;obtain⟨⟨⟨h1,h2⟩,h3⟩,h4⟩:=hb;refine⟨?_,by omega,by omega⟩;simp only[Instr.sliceBounds,Sem.run_bind,Sem.run_pure,Result.andThen_ok]
  grind [Wih,Result.andThen_ok]
theorem WlE{α:Type}(l:List α)(lo hi:Option Int):WuR l lo hi=(l.take (WcS l.length lo hi).2.2).drop (WcS l.length lo hi).2.1:=by
 cases lo<;>cases hi<;>simp[WuR,WcS]
theorem Wvr(s:List UInt8)(l h:Nat):(ByteArray.mk s.toArray).extract l h=⟨((s.take h).drop l).toArray⟩:=by
 apply ByteArray.ext;simp[ByteArray.data_extract,List.extract_eq_take_drop,List.drop_take]
theorem WrL{t:TypeId}{lo hi:Option Int}{vl vh:Option Value}(hu:P.underlying t=some .string)(s:List UInt8)(hl:BRel lo vl)(hh:BRel hi vh)(hb:(WcS s.length lo hi).1=true):
  (Instr.sliceAt t (.string ⟨s.toArray⟩) vl vh none).run P w= .ok (.string ⟨(WuR s lo hi).toArray⟩) w:=by
 have hsz:(ByteArray.mk (List.toArray s)).size=Xa s:=by simp[ByteArray.size]
 obtain⟨hr,h3,h4⟩:=WcU (P:=P) (w:=w) (isSlice:=false) (cap:=Xa s) hl hh (Xn _) hb;simp only[Instr.sliceAt,Instr.slice,Sem.run_bind,Wk hu,Result.andThen_ok,Option.isSome_none,Bool.false_eq_true,Waw,Sem.run_pure,hsz,hr,Wvr,WlE]
theorem Wtw{t et:TypeId}{te:TE}{lo hi:Option Int}{vl vh:Option Value}{α:Type}{R:α->List Value->Prop}{n:Nat}(hR:∀x c,R x c->c.length=n)(hu:P.underlying t=some (.slice et))(bD:TEok P T et te)(hp:te.plain=true)(hn:te.ty.size=n)
  (xs:List α) {v:Value} (hx:Wjj G R xs v) (hl:BRel lo vl) (hh:BRel hi vh) (hb:(WcS xs.length lo hi).1=true):
  ∃v',(Instr.sliceAt t v vl vh none).run P w= .ok v' w/\Wjj G R (WuR xs lo hi) v':=by
 rcases hx with⟨rfl,bH⟩|⟨b,off,cap,cs,rfl,h3,h4,h5,h6⟩|⟨a,cap,rfl,bH⟩
 rotate_left 2
 .subst bH;obtain⟨hr,h3,h4⟩:=WcU (P:=P) (w:=w) (isSlice:=true) (cap:=cap) hl hh (Xbk _) hb;have e1:(WcS 0 lo hi).2.2=0:=by omega
  have e2:(WcS 0 lo hi).2.1=0:=by omega
  rw[e1,e2]at hr;refine⟨.slice (some a) 0 cap,?_,.inr (.inr ⟨a,cap,rfl,?_⟩)⟩
  .simp only[Instr.sliceAt,Instr.slice,Sem.run_bind,Wk hu,Result.andThen_ok,hr,bD.sizeOf,Sem.run_pure,Xbx];simp[Addr.add]
  .rw[WlE];simp
 .subst bH;obtain⟨hr,h3,h4⟩:=WcU (P:=P) (w:=w) (isSlice:=true) (cap:=0) hl hh (Xn _) hb;refine⟨.slice none 0 0,?_,.inl ⟨rfl,?_⟩⟩
  .have e1:(WcS 0 lo hi).2.2=0:=by omega
   have e2:(WcS 0 lo hi).2.1=0:=by omega
   rw[e1,e2]at hr;simp[Instr.sliceAt,Instr.slice,Wk hu,hr,bD.sizeOf]
  .rw[WlE];simp
 .obtain⟨hr,h7,h8⟩:=WcU (P:=P) (w:=w) (isSlice:=true) (cap:=cap) hl hh h3 hb;have zg:=WlE xs lo hi;generalize (WcS xs.length lo hi).2.1=p at*;generalize (WcS xs.length lo hi).2.2=q at*;have hsz:te.size=n:=by rw[W2 hp,hn]
  have hlen:(WuR xs lo hi).length=q-p:=by simp_all
  refine⟨.slice (some (if cap=p then⟨b,off,none⟩else⟨b,off+p*n,none⟩)) (q-p) (cap-p),?_,.inr (.inl ?_)⟩
  .simp only[Instr.sliceAt,Instr.slice,Sem.run_bind,Wk hu,Result.andThen_ok,hr,bD.sizeOf,Sem.run_pure,hsz,Xbx,Wbc];split<;>rfl
  .by_cases hc:cap=p
   .have h0:WuR xs lo hi= []:=Xaa (by omega);refine⟨b,off,cap-p,[],?_,by omega,by omega,?_,λj v hj=>by simp at hj⟩
    .rw[Wb hc];rw[hlen]
    .rw[h0];rfl
   .refine⟨b,off+p*n,cap-p,(cs.take (q*n)).drop (p*n),?_,by omega,by omega,?_,?_⟩
    .rw[Wa hc,hlen]
    .grind [Weu,WeA]
    .intro j v hj;rw[Xbm,Xbl]at hj;split at hj
     .rw[Xay];exact h6 _ _ hj
     grind
theorem Wlq(hT:Wao P T){t:TypeId}{x:AVal}{u:Value}{vl vh:Option Value}{lo hi:Option Operand}{r:AVal}(hx:AValRel G ν st.nx x u)
  (hl:∀l,WlT st lo=some l->BRel l vl) (hh:∀l,WlT st hi=some l->BRel l vh)
  (h:WlH T st t x lo hi=some (true,r)):Gives P G ν st w (Instr.sliceAt t u vl vh none) r:=by
 unfold WlH at h;split at h
 .rename_i s l h' ub h1 h2;have:=WkO hx;subst this;simp only[Option.some.injEq,Prod.mk.injEq]at h;obtain⟨hb,rfl⟩:=h;exact⟨_,WrL (hT _ _ ub).und.2 s (hl _ h1) (hh _ h2) hb,WQ rfl⟩
 .rename_i ty ag et e xs l h' ub h1 h2;have hu:=(hT _ _ ub).und.2.1;split at h
  .rename_i te hle;split at h
   .rename_i zh;obtain⟨he,hp⟩:=zh;simp only[Option.some.injEq,Prod.mk.injEq]at h;obtain⟨hb,rfl⟩:=h;obtain⟨⟨z,hz,hr⟩,_⟩:=hx;simp at hz;subst hz;obtain⟨v',h3,h4⟩:=Wtw (P:=P) (T:=T) (w:=w) (λx c hc=>Enc_len e x c hc) hu (hT _ _ hle) hp (by rw[he]) xs hr (hl _ h1) (hh _ h2) hb;exact⟨v',h3,WQ ⟨v',rfl,h4⟩⟩
   grind
  grind
 grind
end
end Go.Sx
namespace Go.Sx
set_option linter.unusedVariables false
set_option linter.unusedSimpArgs false
section
variable{w0:World}{F:CS}{nt:Slots}{G0 G:GH}{ν:Nat->Nu}{st:St}{a:Act}{w:World}{P:Program}{T:Tab}
theorem WiB{k:IntKind}:∀(l:List Int) (cs:List Value),EncL (Enc G (.int k)) l cs->cs=l.map (Value.int k)
 | [],cs,h=>h
 |x::l,cs,⟨c1,c2,he,h1,h2⟩=>by
  have:=WiB l c2 h2
  grind [Enc]
theorem WnC{t e:TypeId}{dst:TypeId}(hs:P.underlying t=some (.slice e))(he:P.underlying e=some (.int .u8))(hd:P.underlying dst=some .string){b off cap:Nat}(l:List Int)
  (hm:∀j v,(l.map (Value.int .u8))[j]?=some v->w.cell? ⟨b,off+j,none⟩=some v):
  (convert t dst (.slice (some ⟨b,off,none⟩) l.length cap)).run P w= .ok (.string ⟨(WtN l).toArray⟩) w:=by
 rw[run_convert_bytes_string w t dst e _ _ _ hs he hd];have h1:=run_loadCells_list (P:=P) w ⟨b,off,none⟩ (l.map (Value.int .u8)) (λj v hj=>by grind [Wbc]);rw[Xae]at h1;rw[run_bytesToString w _ _ _ l h1,foldl_push_bytes];simp[ByteArray.ext,WtN]
theorem Wi0{t e:TypeId}{dst:TypeId}(hs:P.underlying t=some (.slice e))(he:P.underlying e=some (.int .u8))(hd:P.underlying dst=some .string)(l c:Nat):
  (convert t dst (.slice none l c)).run P w= .ok (.string ⟨#[]⟩) w:=by
 rw[run_convert_bytes_string w t dst e _ _ _ hs he hd];rfl
theorem WqF{t e:TypeId}{dst:TypeId}(hs:P.underlying t=some (.slice e))(he:P.underlying e=some (.int .u8))(hd:P.underlying dst=some .string)(a:Addr)(c:Nat):
  (convert t dst (.slice (some a) 0 c)).run P w= .ok (.string ⟨#[]⟩) w:=by
 rw[run_convert_bytes_string w t dst e _ _ _ hs he hd];have h1:=run_loadCells_list (P:=P) w a ([].map (Value.int .u8)) (λj v hj=>by simp at hj);simp only[Xbp,List.length_nil]at h1;rw[run_bytesToString w _ _ _ [] (by simp_all),foldl_push_bytes];rfl
theorem WlZ(hT:Wao P T)(hh:HRel w0 F G ν st.objs st.nx w){src dst:TypeId}{x:AVal}{u:Value}{r:AVal}(hx:AValRel G ν st.nx x u)
  (h:WjB T st src dst x=some (true,r)):Gives P G ν st w (convert src dst u) r:=by
 unfold WjB WwI at h;split at h
 .rename_i k0 k k1 n h1 h2;have:=WgS hx;subst this;have hs:=(hT _ _ h1).und.2;have hd:=(hT _ _ h2).und.2;simp at h;subst h;exact⟨.int k (k.wrap n),by simp_all [convert,Wk,Conv.intToInt],WQ rfl⟩
 .rename_i s h1 h2;have:=WkO hx;subst this;have hs:=(hT _ _ h1).und.2;have hd:=(hT _ _ h2).und.2;simp at h;subst h;exact⟨_,by simp[convert,Wk hs,Wk hd]<;>rfl,WQ rfl⟩
 .rename_i ty ag et c h1 h2;have hs:=(hT _ _ h1).und.2.1;have hd:=(hT _ _ h2).und.2;split at h
  .rename_i h3;have he:=(hT _ _ h3).und.2;split at h
   .rename_i l;simp at h;subst h;obtain⟨⟨z,hz,hr⟩,_⟩:=hx;simp at hz;subst hz;rcases hr with⟨rfl,bH⟩|⟨b,off,cap,cs,rfl,h4,h5,h6,h7⟩|⟨a,cap,rfl,bH⟩
    rotate_left 2
    .refine⟨_,WqF hs he hd a _,WQ ?_⟩;rw[bH];rfl
    .refine⟨_,Wi0 hs he hd _ _,WQ ?_⟩;rw[bH];rfl
    .have bB:=WiB _ _ h6;exact⟨_,WnC hs he hd l (λj v hj=>hh.g (h7 j v (by simp_all))),WQ rfl⟩
   .simp at h;subst h;obtain⟨hv,_⟩:=hx;simp only[CellRel]at hv;subst hv;exact⟨_,Wi0 hs he hd _ _,WQ rfl⟩
   .rename_i id;split at h
    .rename_i xs au;simp at h;subst h;obtain⟨⟨bz,hv⟩,_⟩:=hx;subst hv;obtain⟨S,ho⟩:=hh.obj au;unfold Nu.hdr;cases aZ:(ν id).blk with
     |none=>
      have hn:=Wcs ho aZ;refine⟨_,Wi0 hs he hd _ _,WQ ?_⟩;rw[hn];rfl
     |some b=>
      obtain⟨hlen,h4,h5,h6,cs,h7,h8,h9⟩:=WdJ (e:=.int .u8) rfl ho aZ;have bB:=WiB _ _ h7;simp only[←hlen];exact⟨_,WnC hs he hd xs (λj v hj=>h8 j v (by simp_all)),WQ rfl⟩
    grind
   grind
  grind
 grind
theorem Wu3{x:Operand}{o:Oper}(ho:o.op= .nilCheck x){ρ:Operand->Value}{p:Addr}(h:ρ x= .pointer (some p)):(execOp ρ o).run P w= .ok (.value (.pointer (some p))) w:=by
 simp[execOp,ho,h]
theorem WrQ{x r:AVal}{u:Value}(hx:AValRel G ν st.nx x u)(h:WqJ st x=some (true,r)):r=x/\∃p,u= .pointer (some p):=by
 unfold WqJ at h;split at h
 .simp at h;subst h;obtain⟨⟨b,o,cs,rfl,_⟩,_⟩:=hx;simp_all
 .split at h
  .simp at h;subst h;obtain⟨⟨_,b,_,rfl⟩,_⟩:=hx;simp_all
  grind
 .split at h
  .simp at h;subst h;obtain⟨⟨_,_,b,_,rfl⟩,_⟩:=hx;simp_all
  grind
 .split at h
  .simp at h;subst h;obtain⟨⟨_,b,_,rfl⟩,_⟩:=hx;simp_all
  grind
 grind
theorem Wkj(hr:Rel w0 F nt G0 G ν st a w):∀(l:List Operand) (ids:List Nat),WgC st l=some ids->
  ids.length=l.length/\∀(j id:Nat) (u:Value),ids[j]?=some id->(l.map a.eval)[j]?=some u->id<st.nx/\u.oneCell'=true/\∃b,(ν id).blk=some b/\u= .pointer (some ⟨b,(ν id).off+0,none⟩)
 | [],ids,h=>by simp[WgC]at h;simp_all
 |o::l,ids,h=>by
  simp only[WgC]at h;split at h
  .rename_i id r h1 h2;injection h with h;subst h;obtain⟨h3,h4⟩:=Wkj hr l r h2;refine⟨by simp[h3],λj i u hj hu=>?_⟩;cases j with
   |zero=>
    simp at hj hu;subst hj hu;obtain⟨⟨g1,g2⟩,g3⟩:=WR hr o _ h1;simp_all
   |succ j=>grind
  grind
theorem Whr(hT:Wao P T)(hh:HRel w0 F G ν st.objs st.nx w){t:TypeId}{x:AVal}{u:Value}{r:AVal}(hx:AValRel G ν st.nx x u)(h:Wht T st t x=some r):
  Gives P G ν st w (Instr.loadAt t u) r:=by
 unfold Wht at h;split at h
 .rename_i te hl;split at h
  .rename_i hp;split at h
   .rename_i id off;split at h
    .rename_i cs au;obtain⟨⟨_,b,hb,rfl⟩,_⟩:=hx;obtain⟨S,b',vs,hb',hrow,hmem,bB,_⟩:=hh.obj au;rw[hb]at hb';injection hb' with hb';subst hb';obtain⟨v,h3,h4⟩:=Wg7 (hT _ _ hl) hp bB (o:=(ν id).off) hmem h;exact⟨v,by grind [Instr.loadAt,Instr.sureAddr],h4⟩
    grind
   .rename_i id i off;split at h
    .rename_i e xs au;obtain⟨⟨_,hlt,b,hb,rfl⟩,_⟩:=hx;obtain⟨S,ho⟩:=hh.obj au;have bW:=ho.2.1;obtain⟨c,p,h1,h2⟩:=Ws7 ho hb (by rw[ho.1];exact hlt);obtain⟨v,h9,cP⟩:=Wg7 (hT _ _ hl) hp (WhV (ν:=ν) (nx:=st.nx) e _ _ _ h1) (w:=w) (b:=b) (o:=(ν id).off+i*e.size) h2 h;exact⟨v,by grind [Instr.loadAt,Instr.sureAddr,Xay],cP⟩
    grind
   .rename_i t' d off;obtain⟨⟨b,o,cs,rfl,h1,h2⟩,_⟩:=hx;obtain⟨v,h9,cP⟩:=Wg7 (hT _ _ hl) hp (WaT (G:=G) (ν:=ν) (nx:=st.nx) t' d _ h1) (w:=w) (b:=b) (o:=o) (λj v hj=>hh.g (h2 j v hj)) h;exact⟨v,by grind [Instr.loadAt,Instr.sureAddr],cP⟩
   grind
  grind
 grind
theorem Wpe{G:GH}{k:IntKind}:∀(xs:List Int) (cs:List Value),EncL (Enc G (.int k)) xs cs->cs=xs.map λx=>Value.int k x
 | [],cs,h=>h
 |x::xs,cs,⟨c1,c2,h1,h2,h3⟩=>by
  have:c1= [.int k x]:=h2;rw[h1,this,Wpe xs c2 h3];rfl
theorem WoZ{k:IntKind}{xs:List Int}:∀(n i j:Nat),(WuB k xs i n)[j]?=if j<n then some (.val (.int k) (xs.getD (i+j) (0:Int)))else none
 |0,i,j=>by simp[WuB]
 |n+1,i,j=>by
  cases j with
  |zero=>simp[WuB]
  |succ j=>
   rw[WuB,List.getElem?_cons_succ,WoZ n (i+1) j,show i+1+j=i+(j+1) by omega];simp_all
theorem WpG{k:IntKind}{xs:List Int}:∀(n i:Nat),(WuB k xs i n).length=n
 |0,i=>rfl
 |n+1,i=>by rw[WuB,Xs,WpG n (i+1)]
theorem WkS(hT:Wao P T)(hh:HRel w0 F G ν st.objs st.nx w){t:TypeId}{x:AVal}{u:Value}{r:AVal}(hx:AValRel G ν st.nx x u)(h:WfK T st t x=some (true,r)):
  Gives P G ν st w (Instr.loadAt t u) r:=by
 unfold WfK at h;split at h
 .rename_i k n et hl;split at h
  .rename_i id;split at h
   .rename_i k' xs au;change List Int at xs;split at h
    .rename_i hk;subst hk;simp only[Option.some.injEq,Prod.mk.injEq,Wh]at h;obtain⟨hn,rfl⟩:=h;obtain⟨⟨_,b,hb,rfl⟩,_⟩:=hx;obtain⟨S,ho⟩:=hh.obj au;obtain⟨hlen,h4,h5,h6,cs,h7,h8,h9⟩:=WdJ (e:=.int k') rfl ho hb;have bB:=Wpe _ _ h7;have bD:=hT _ _ hl;have lY:(Go.isAgg t).run P w= .ok true w:=bD.isAgg;have hsz:(Go.sizeOf t).run P w= .ok n w:=by have:=bD.sizeOf (w:=w);grind [TE.size,Ty.size]
     have hcl:cs.length=n:=by rw[bB,Xae];exact hn
     have hr:=run_loadCells_list (P:=P) w ⟨b,(ν id).off,none⟩ cs (λj v hj=>by rw[Wbc];exact h8 j v hj);rw[hcl]at hr;refine⟨.agg cs.toArray,?_,cs,rfl,?_,λj c v hj hv=>?_⟩
     .simp_all [Instr.loadAt,Instr.sureAddr,Sem.run_bind,Sem.run_pure,Result.andThen_ok,loadVar,Wav]
     .rw[WpG,hcl]
     .rw[WoZ]at hj;split at hj
      .rename_i uP;injection hj with hj;subst hj;rw[bB,Xan]at hv;have xn:j<Xa xs:=Nat.lt_of_lt_of_eq uP hn.symm;rw[Xq xn]at hv;simp only[Xbx]at hv;injection hv with hv;subst hv;refine⟨?_,rfl⟩;simp[CellRel,Enc,xn]
      .cases hj
    grind
   grind
  grind
 grind
end
section
variable{w0:World}{F:CS}{nt:Slots}{G0 G:GH}{ν:Nat->Nu}{st:St}{a:Act}{w:World}{P:Program}{T:Tab}
theorem Wcc{o:Oper}{s:Sem Value}{r:AVal}(he:execOp a.eval o=(do pure (.value (←s))))(h:Gives P G ν st w s r):
  ∃v,(execOp a.eval o).run P w= .ok (.value v) w/\AValRel G ν st.nx r v:=by
 obtain⟨v,h1,h2⟩:=h;simp_all
theorem Wcq{α β:Type}{x:Option α}{f:α->Option (Bool×β)}{r:β}(h:x.bind f=some (true,r)):∃y,x=some y/\f y=some (true,r):=by
 cases x with
 |none=>simp at h
 |some y=>simp_all
theorem Wop(hT:Wao P T)(hh:HRel w0 F G ν st.objs st.nx w){op:BinOp}{t:TypeId}{x y:AVal}{u v:Value}{r:AVal}(ox oy:Operand)(hx:AValRel G ν st.nx x u)(hy:AValRel G ν st.nx y v)
  (h:Wqb T st op t x y=some (true,r)):Gives P G ν st w (do eqGuard op t ox oy u v;Go.binOp op t u v) r:=by
 unfold Wqb at h;split at h
 .rename_i id;split at h
  .rename_i te e hl;have hu:=(hT _ _ hl).und.2.1;obtain⟨⟨_,hv⟩,_⟩:=hx;subst hv;obtain⟨hn,_⟩:=hy;simp only[CellRel]at hn;subst hn;split at h
   .rename_i e' xs ho;have key:∀n:Nat,Xga 0 xs.length=true->(Op.equalIn (n+1) t (ν id).hdr (.slice none 0 0)).run P w= .ok false w:=λn hb=>by
     have hne:xs≠ []:=by rintro rfl;simp at hb
     obtain⟨S,au⟩:=hh.obj ho;have hd:∃g,(ν id).hdr= .slice (some g) (ν id).len (ν id).cap:=by
      unfold Nu.hdr;obtain⟨hlen,_,au⟩:=au;cases hb:(ν id).blk with
      |none=>simp_all
      |some g=>simp_all
     obtain⟨g,hd⟩:=hd;simp_all [Op.equalIn,Wk]
    have hg:∀op,(eqGuard op t ox oy (ν id).hdr (.slice none 0 0)).run P w= .ok () w:=λop=>WbW (λcs=>by unfold Nu.hdr;split<;>exactλh=>nomatch h) (by unfold Nu.hdr;split<;>exactλh=>nomatch h);split at h
    .simp only[Option.some.injEq,Prod.mk.injEq]at h;obtain⟨h1,rfl⟩:=h;exact⟨.bool false,by simp[hg,Go.binOp,Op.equal,Op.maxDepth,show(Op.equalIn 10000 t (ν id).hdr (.slice none 0 0)).run P w= .ok false w from key 9999 h1],WQ rfl⟩
    .simp only[Option.some.injEq,Prod.mk.injEq]at h;obtain⟨h1,rfl⟩:=h;exact⟨.bool true,by simp[hg,Go.binOp,Op.equal,Op.maxDepth,show(Op.equalIn 10000 t (ν id).hdr (.slice none 0 0)).run P w= .ok false w from key 9999 h1],WQ rfl⟩
    grind
   grind
  grind
 grind
theorem Wqc(hT:Wao P T)(hr:Rel w0 F nt G0 G ν st a w){o:Oper}{r:AVal}(h:Wam T st o.op=some (true,r)):
  ∃v,(execOp a.eval o).run P w= .ok (.value v) w/\AValRel G ν st.nx r v:=by
 obtain⟨dst,op,type,pos,after,guard⟩:=o;simp only at h;unfold Wam at h;split at h
 .rename_i x;cases hx:ev st x with
  |none=>simp_all
  |some v=>simp[hx]at h;subst h;exact⟨_,rfl,WR hr x _ hx⟩
 .rename_i x;cases hx:ev st x with
  |none=>simp_all
  |some v=>simp[hx]at h;subst h;exact⟨_,rfl,WR hr x _ hx⟩
 .rename_i c x y;split at h
  .rename_i p h1;cases hc:ev st c with
   |none=>simp_all
   |some cv=>
    simp[hc]at h1;have e1:=WnP _ _ _ (WR hr c _ hc) h1;split at h
    .rename_i m n h2 h3;simp at h;subst h;have e2:=WkM (WR hr x _ h2);have e3:=WkM (WR hr y _ h3);refine⟨.bool (bif p then m else n),?_,WQ rfl⟩;simp only[execOp,e1,e2,e3,asBool];cases p<;>rfl
    .cases p with
     |true=>
      cases hx:ev st x with
      |none=>simp_all
      |some v=>simp[hx]at h;subst h;exact⟨a.eval x,by simp_all [execOp,asBool],WR hr x _ hx⟩
     |false=>
      cases hx:ev st y with
      |none=>simp_all
      |some v=>simp[hx]at h;subst h;exact⟨a.eval y,by simp_all [execOp,asBool],WR hr y _ hx⟩
  grind
 .rename_i t x;obtain⟨y,hy,h⟩:=Wcq h;cases ha:WfK T st t y with
  |some z=>rw[ha]at h;simp only[]at h;injection h with h;subst h;exact Wcc rfl (WkS hT hr.h (WR hr x _ hy) ha)
  |none=>
   rw[ha]at h;cases hl:Wht T st t y with
   |none=>simp_all
   |some z=>simp[hl]at h;subst h;exact Wcc rfl (Whr hT hr.h (WR hr x _ hy) hl)
 .rename_i x;obtain⟨y,hy,h⟩:=Wcq h;obtain⟨rfl,p,hp⟩:=WrQ (WR hr x _ hy) h;exact⟨_,Wu3 rfl hp,by grind [WR]⟩
 .rename_i op t x y _;split at h
  .rename_i u v h1 h2;split at h
   .rename_i z hz;injection h with h;subst h;exact Wcc rfl (Wop hT hr.h x y (WR hr x _ h1) (WR hr y _ h2) hz)
   .exact Wcc rfl (WnN hT x y (WR hr x _ h1) (WR hr y _ h2) h)
  grind
 .rename_i op t x;obtain⟨y,hy,h⟩:=Wcq h;exact Wcc rfl (Wqx (WR hr x _ hy) h)
 .rename_i src dst x;obtain⟨y,hy,h⟩:=Wcq h;exact Wcc rfl (WlZ hT hr.h (WR hr x _ hy) h)
 .rename_i t x lo hi;obtain⟨y,hy,h⟩:=Wcq h;exact Wcc rfl (Wlq hT (WR hr x _ hy) (λl hl=>Wdo hr lo l hl) (λl hl=>Wdo hr hi l hl) h)
 .rename_i s x f;obtain⟨y,hy,h⟩:=Wcq h;exact Wcc rfl (Wg9 hT hr.h (WR hr x _ hy) h)
 .rename_i s x f;obtain⟨y,hy,h⟩:=Wcq h;exact Wcc rfl (Wlt hT (WR hr x _ hy) h)
 .rename_i t x i;split at h
  .rename_i u v h1 h2;exact Wcc rfl (Wg0 hT hr.h (WR hr x _ h1) (WR hr i _ h2) h)
  grind
 .rename_i t x i;split at h
  .rename_i u v h1 h2;exact Wcc rfl (Wk8 hT (WR hr x _ h1) (WR hr i _ h2) h)
  grind
 .rename_i t ix;split at h
  .rename_i xs h1;cases hx:xs[ix]? with
   |none=>simp_all
   |some y=>
    simp[hx]at h;subst h;obtain⟨vs,hv,hl,fw⟩:=WR hr t _ h1;have hlt:ix<vs.length:=by grind
    exact Wcc rfl ⟨vs[ix],by simp[hv,Instr.extract,hlt],fw ix y _ hx (Xq hlt)⟩
  grind
 .rename_i f first captured
  split at h
  .rename_i hf;cases hc:WgC st captured.toList with
   |none=>simp_all
   |some ids=>
    simp[hc]at h;subst h;obtain⟨h1,h2⟩:=Wkj hr _ _ hc;have mZ:first= #[]:=by simp_all
    subst mZ;refine Wcc rfl ⟨.func (.func f) #[] (captured.map a.eval),by simp[Instr.makeFunc],⟨captured.toList.map a.eval,?_,?_,h2⟩,rfl⟩
    .apply Wl
     grind
    grind
  grind
 .rename_i c;obtain⟨callee,args,argTypes⟩:=c;obtain⟨args⟩:=args;obtain⟨argTypes⟩:=argTypes;simp only at h;split at h
  .rename_i x t;obtain⟨y,hy,h⟩:=Wcq h;obtain⟨v,h1,h2⟩:=WnI (ty:=type) hT hr.h (WR hr x _ hy) h;refine⟨v,?_,h2⟩;simp only[execOp,resolve,invoke,builtin,Sem.run_bind,Sem.run_pure,Result.andThen_ok,Xdq,Xak,Xbp,h1]
  .rename_i x y _ _;split at h
   .rename_i k m k' n h1 h2;split at h
    .rename_i hk;subst hk;simp at h;subst h;have e1:=WgS (WR hr x _ h1);have e2:=WgS (WR hr y _ h2);refine⟨.int k (WxB m n),?_,WQ rfl⟩;simp only[execOp,resolve,invoke,builtin,Sem.run_bind,Sem.run_pure,Result.andThen_ok,Xdq,Xak,Xbp,e1,e2,Builtin.min_];rfl
    grind
   grind
  .rename_i x y _ _;split at h
   .rename_i k m k' n h1 h2;split at h
    .rename_i hk;subst hk;simp at h;subst h;have e1:=WgS (WR hr x _ h1);have e2:=WgS (WR hr y _ h2);refine⟨.int k (Wv9 m n),?_,WQ rfl⟩;simp only[execOp,resolve,invoke,builtin,Sem.run_bind,Sem.run_pure,Result.andThen_ok,Xdq,Xak,Xbp,e1,e2,Builtin.max_];rfl
    grind
   grind
  grind
 grind
end
end Go.Sx
namespace Go.Sx
set_option linter.unusedVariables false
set_option linter.unusedSimpArgs false
section
variable{w0:World}{F:CS}{nt:Slots}{G0 G G':GH}{ν ν':Nat->Nu}{φ φ':Nat->CS}{objs objs':Waj}{nx ai:Nat}{w w':World}{P:Program}{T:Tab}
theorem Live.of{id:Nat}{ob:Ob}(h:look objs id=some ob)(hd:ob≠ .dead):Live objs id:=⟨ob,h,hd⟩
theorem WH{α:Type}(k:Nat)(v:α)(l:List (Nat×α))(i:Nat):look ((k,v)::l) i=if k=i then some v else look l i:=by
 simp only[look];by_cases h:k=i
 .subst h;simp
 .have:Xbo k i=false:=by
   grind [Xbo,absurd,Xcl]
  rw[this,Wa h]
theorem WbN{α:Type}:∀(l m:List (Nat×α)) (i:Nat),look (l++m) i=match look l i with
  |some x=>some x
  |none=>look m i
 | [],m,i=>rfl
 |(k,v)::l,m,i=>by
  rw[List.cons_append,WH,WH];split
  .rfl
  .exact WbN l m i
theorem HR.blk_lt_g(h:HR w0 F G ν φ objs nx w){b o:Nat}{v:Value}(hg:G b o=some v):b<w.heap.size:=block_lt_of_cell (h.g b o v hg)
theorem WLe.refl(S:CS)(w:World):WLe S w w:=⟨Xn _,λ_ vs _ h=>⟨vs,h,rfl⟩,λ_ _ _ _=>rfl,λ_ _ _=>rfl,rfl,rfl,rfl⟩
theorem WLe.mono{S S':CS}(h:WLe S w w')(hl:CS.le S S'):WLe S' w w':=
 ⟨h.size,h.row,λb o hb hn=>h.cell b o hb (λhs=>hn (hl b o hs)),λb hb hn=>h.whole b hb (λo hs=>hn o (hl b o hs)),h.os,h.output,h.tape⟩
theorem WLe.same{S S':CS}(h:WLe S w w')(hd:CS.disj S S')(hb:∀b o,S' b o->b<w.heap.size):Same S' w w':=
 ⟨λb n ⟨vs,T,h1,h2⟩=>by obtain⟨vs',h3,h4⟩:=h.row b vs T h1;exact⟨vs',T,h3,by omega⟩,λb o hs=>h.cell b o (hb b o hs) (λct=>hd b o ct hs)⟩
theorem WLe.rows{S:CS}(h:WLe S w w'):Same (λ_ _=>False) w w':=
 ⟨λb n ⟨vs,T,h1,h2⟩=>by obtain⟨vs',h3,h4⟩:=h.row b vs T h1;exact⟨vs',T,h3,by omega⟩,λ_ _ hs=>hs.elim⟩
theorem WLe.trans{S S':CS}{w1 w2 w3:World}(h:WLe S w1 w2)(h':WLe S' w2 w3)(hs:∀b o,S' b o->w1.heap.size<=b\/S b o):WLe S w1 w3 where
 size:=Xco h.size h'.size
 row b vs T hb:=by
  obtain⟨vs',h1,h2⟩:=h.row b vs T hb;obtain⟨vs2,h3,h4⟩:=h'.row b vs' T h1;simp_all
 cell b o hb hn:=by
  rw[h'.cell b o (Xbi hb h.size) (λct=>by grind)];exact h.cell b o hb hn
 whole b hb hn:=by
  rw[h'.whole b (Xbi hb h.size) (λo ct=>by grind)];exact h.whole b hb hn
 os:=h'.os.trans h.os
 output:=h'.output.trans h.output
 tape:=h'.tape.trans h.tape
theorem WLe.alloc(S:CS)(wd:World)(o:Obj)(hh:wd.heap=w.heap)(qJ:wd.os=w.os)(fK:wd.output=w.output)(fx:wd.tape=w.tape):WLe S w (wd.alloc o) where
 size:=by simp[hh]
 row b vs T hb:=by
  have hlt:b<w.heap.size:=(Array.getElem?_eq_some_iff.1 hb).1;exact⟨vs,by grind [heap_alloc_old],rfl⟩
 cell b o' hb _:=World.cell?_of_block (by show(wd.alloc o).heap[b]?=w.heap[b]?;rw[heap_alloc_old wd o (by simp_all),hh])
 whole b hb _:=by rw[heap_alloc_old wd o (by simp_all),hh]
 os:=qJ
 output:=fK
 tape:=fx
theorem WLe.setRow{S:CS}{b:Nat}{vs us:Array Value}{T:TypeId}(h:w.heap[b]?=some (Obj.cells vs T (0,0)))(hsz:us.size=vs.size)(hc:∀o,¬S b o->us[o]?=vs[o]?):WLe S w (w.setRow b us) where
 size:=by simp
 row k vs' T' hk:=by
  by_cases e:k=b
  .grind [setRow_heap]
  .exact⟨vs',by grind [setRow_other],rfl⟩
 cell k o hk hn:=by
  by_cases e:k=b
  .subst e;rw[cell_of_row _ k o us T (0,0) (setRow_heap w k vs us T (0,0) h),cell_of_row w k o vs T (0,0) h]
   grind
  grind [World.cell?_of_block,setRow_other]
 whole k hk hn:=by
  by_cases e:k=b
  .subst e;have:us=vs:=Array.ext_getElem? λo=>hc o (hn o);rw[setRow_heap w k vs us T (0,0) h,h,this]
  grind [setRow_other]
 os:=rfl
 output:=rfl
 tape:=rfl
def Wvg(φ:Nat->CS)(objs:Waj):CS:=λb o=>∃id,Live objs id/\φ id b o
theorem HR.step(h:HR w0 F G ν φ objs nx w)(hw:WLe (Wvg φ objs) w w')
  (au:∀id ob,look objs' id=some ob->ob≠ .dead->WcG G ν' ai w' id (φ' id) ob)
  (hlt:∀id,Live objs' id->id<ai)
  (cZ:∀id b o,Live objs' id->φ' id b o->Wvg φ objs b o\/w.heap.size<=b)
  (hbl:∀id b o,Live objs' id->φ' id b o->b<w'.heap.size)
  (uQ:∀id bK b o,Live objs' id->Live objs' bK->φ' id b o->φ' bK b o->id=bK):
  HR w0 F G ν' φ' objs' ai w' where
 g b o v hg:=by
  rw[hw.cell b o (h.blk_lt_g hg) (λ⟨id,hl,hp⟩=>by rw[h.gf id b o hl hp]at hg;cases hg)];exact h.g b o v hg
 ob id ob ho:=by
  by_cases hd:ob= .dead
  .subst hd;trivial
  simp_all
 gf id b o hl hp:=by
  rcases cZ id b o hl hp with⟨uR,hl0,gY⟩|fy
  .exact h.gf uR b o hl0 gY
  .cases hg:G b o with
   |none=>rfl
   |some v=>have:=h.blk_lt_g hg;omega
 inj:=uQ
 own id b o hl hp:=by
  rcases cZ id b o hl hp with⟨uR,hl0,gY⟩|fy
  .exact h.own uR b o hl0 gY
  .exact .inl (Xco h.le.size fy)
 lt:=hlt
 bl:=hbl
 le:=h.le.trans hw (λb o ⟨id,hl,hp⟩=>h.own id b o hl hp)
def Wwu(φ:Nat->CS)(i:Nat)(S:CS):Nat->CS:=λj=>if j=i then S else φ j
theorem WiD(φ:Nat->CS)(i:Nat)(S:CS):Wwu φ i S i=S:=by simp[Wwu]
theorem WfM(φ:Nat->CS){i j:Nat}(S:CS)(h:j≠i):Wwu φ i S j=φ j:=by simp[Wwu,h]
theorem WeT:∀(l:List Nat) (id:Nat) (ob:Ob),look (kill objs l) id=some ob->ob≠ .dead->look objs id=some ob/\id∉l
 | [],id,ob,h,_=>⟨h,by simp⟩
 |i::l,id,ob,h,hd=>by
  simp only[kill]at h;rw[WH]at h;split at h
  .simp_all
  .rename_i hne;obtain⟨h1,h2⟩:=WeT l id ob h hd
   grind
theorem WdK{l:List Nat}{id:Nat}(h:Live (kill objs l) id):Live objs id/\id∉l:=by
 obtain⟨ob,h1,h2⟩:=h;obtain⟨h3,h4⟩:=WeT l id ob h1 h2;exact⟨⟨ob,h3,h2⟩,h4⟩
def Ww2(φ:Nat->CS)(objs:Waj)(t:Nat)(m:List Nat):CS:=λb o=>∃i,(i=t\/i∈m)/\Live objs i/\φ i b o
theorem HR.put(h:HR w0 F G ν φ objs nx w){t:Nat}{m:List Nat}{ob:Ob}{S:CS}(hn:WsS nx ν ν')(hx:nx<=ai)(ht:t<ai)
  (hw:WLe (Ww2 φ objs t m) w w') (hS:∀b o,S b o->Ww2 φ objs t m b o\/(w.heap.size<=b/\b<w'.heap.size))
  (cT:ob≠ .dead->WcG G ν' ai w' t S ob):HR w0 F G ν' (Wwu φ t S) ((t,ob)::kill objs m) ai w':=by
 have hl:∀id cA,look ((t,ob)::kill objs m) id=some cA->cA≠ .dead->(id=t/\cA=ob)\/(id≠t/\id∉m/\look objs id=some cA):=λid cA ho hd=>by
  grind [WH,WeT]
 have lB:∀id,Live ((t,ob)::kill objs m) id->(id=t)\/(id≠t/\id∉m/\Live objs id):=λid ⟨cA,ho,hd⟩=>by
  rcases hl id cA ho hd with⟨h1,h2⟩|⟨h1,h2,h3⟩
  .omega
  .exact .inr ⟨h1,h2,cA,h3,hd⟩
 refine h.step (hw.mono λb o ⟨i,_,h1,h2⟩=>⟨i,h1,h2⟩) (λid cA ho hd=>?_) (λid az=>?_) (λid b o az hp=>?_) (λid b o az hp=>?_) (λid bK b o az gt hp dv=>?_)
 .rcases hl id cA ho hd with⟨h1,h2⟩|⟨h1,h2,h3⟩
  .grind [WiD]
  .rw[WfM φ S h1];have az:Live objs id:=⟨cA,h3,hd⟩;refine WdF (λ_ _ _ hh=>hh) (hw.same (λb o ⟨i,hi,uS,zi⟩ hp=>?_) (λb o hp=>h.bl id b o az hp)) (λ_ _ hh=>hh) hn hx (h.lt id az) cA (h.ob id cA h3);have:=h.inj i id b o uS az zi hp;simp_all
 .rcases lB id az with h1|⟨_,_,h3⟩
  .omega
  .exact Xbi (h.lt id h3) hx
 .rcases lB id az with h1|⟨h1,_,h3⟩
  .subst h1;rw[WiD]at hp;rcases hS b o hp with⟨i,_,h4,h5⟩|h4
   .exact .inl ⟨i,h4,h5⟩
   omega
  .rw[WfM φ S h1]at hp;exact .inl ⟨id,h3,hp⟩
 .rcases lB id az with h1|⟨h1,_,h3⟩
  .subst h1;rw[WiD]at hp;rcases hS b o hp with⟨i,_,h4,h5⟩|h4
   .exact Xbi (h.bl i b o h4 h5) hw.size
   omega
  .rw[WfM φ S h1]at hp;exact Xbi (h.bl id b o h3 hp) hw.size
 .have key:∀bK,bK≠t->bK∉m->Live objs bK->φ bK b o->S b o->False:=λbK h1 h2 h3 h4 h5=>by
   rcases hS b o h5 with⟨i,hi,h6,h7⟩|h6
   .have:=h.inj i bK b o h6 h3 h7 h4;simp_all
   .have:=h.bl bK b o h3 h4;omega
  rcases lB id az with h1|⟨h1,h2,h3⟩<;>rcases lB bK gt with iQ|⟨iQ,jN,cU⟩
  .rw[h1,iQ]
  .simp_all [WiD,WfM]
  .simp_all [WiD,WfM]
  .rw[WfM φ S h1]at hp;rw[WfM φ S iQ]at dv;exact h.inj id bK b o h3 cU hp dv
theorem HR.drew(h:HR w0 F G ν φ objs nx w):HR w0 F G ν φ objs nx w.drew:=by
 have hw:WLe (Wvg φ objs) w w.drew:=⟨Xn _,λ_ vs _ h=>⟨vs,h,rfl⟩,λ_ _ _ _=>rfl,λ_ _ _=>rfl,rfl,rfl,rfl⟩;exact h.step hw (λid ob ho _=>WdF (w:=w) (w':=w.drew) (S:=φ id) (λ_ _ _ hh=>hh) ⟨λ_ _ hh=>hh,λ_ _ _=>rfl⟩ (λ_ _ hh=>hh) (λ_ _=>rfl) (Xn _) (h.lt id ⟨ob,ho,by assumption⟩) ob (h.ob id ob ho))
  h.lt (λid b o hl hp=>.inl ⟨id,hl,hp⟩) (λid b o hl hp=>h.bl id b o hl hp) h.inj
theorem HRel.drew(h:HRel w0 F G ν objs nx w):HRel w0 F G ν objs nx w.drew:=by
 obtain⟨φ,h⟩:=h;exact⟨φ,h.drew⟩
end
section
variable{w0:World}{F:CS}{nt:Slots}{G0 G G':GH}{ν ν':Nat->Nu}{st:St}{a:Act}{w w':World}{P:Program}{T:Tab}
theorem Rel.put(h:Rel w0 F nt G0 G ν st a w){dst:Option Tmp}(hd:∀d,dst=some d->nt.Ok d){x:AVal}{v:Value}(hx:AValRel G ν st.nx x v):Rel w0 F nt G0 G ν (st.put dst x) (a.put dst v) w:=by
 cases dst with
 |none=>exact h
 |some d=>
  have hlt:d<a.tmps.size:=by rw[h.ntm];exact(hd d rfl).1
  refine⟨h.defers,by simpa [Act.put]using h.ntm,λp hp=>?_,λi y hy=>?_,h.h,h.gx⟩
  .simp only[Act.put];rw[Xes (λe=>(hd d rfl).2 p hp e.symm)];exact h.par p hp
  simp only[St.put]at hy;rw[WH]at hy;split at hy
  .rename_i e;subst e;injection hy with hy;subst hy;exact⟨v,by simp[Act.put,hlt],hx⟩
  .rename_i hne;obtain⟨u,hu,hr⟩:=h.env i y hy;exact⟨u,by grind [Act.put,Xes],hr⟩
theorem Rel.on(h:Rel w0 F nt G0 G ν st a w){objs':Waj}{ai:Nat}(hg:GLe G G')(hn:WsS st.nx ν ν')(hx:st.nx<=ai)
  (hh:HRel w0 F G' ν' objs' ai w') (gx:GExt w0.heap.size F G0 G'):Rel w0 F nt G0 G' ν' {env:=st.env,objs:=objs',nx:=ai} a w':=
 ⟨h.defers,h.ntm,h.par,λi y hy=>by
  obtain⟨u,hu,hr⟩:=h.env i y hy
  grind [AValRel.mono],hh,gx⟩
def upd(ν:Nat->Nu)(i:Nat)(n:Nu):Nat->Nu:=λj=>if j=i then n else ν j
theorem Wfw(ν:Nat->Nu)(i:Nat)(n:Nu):WsS i ν (upd ν i n):=λj hj=>by simp[upd];omega
theorem WbH(ν:Nat->Nu)(i:Nat)(n:Nu):upd ν i n i=n:=by simp[upd]
theorem Rel.lay(h:Rel w0 F nt G0 G ν st a w){dst:Option Tmp}(hd:∀d,dst=some d->nt.Ok d){objs':Waj}{ai:Nat}(hn:WsS st.nx ν ν')(hx:st.nx<=ai)
  (hh:HRel w0 F G ν' objs' ai w') {x:AVal} {v:Value} (hv:AValRel G ν' ai x v):Rel w0 F nt G0 G ν' (({env:=st.env,objs:=objs',nx:=ai}:St).put dst x) (a.put dst v) w':=
 (h.on (λ_ _ _ hh=>hh) hn hx hh h.gx).put hd hv
theorem Rel.fresh(h:Rel w0 F nt G0 G ν st a w){dst:Option Tmp}(hd:∀d,dst=some d->nt.Ok d)(m:List Nat)(ob:Ob)(nu:Nu)(S:(Nat->CS)->CS)(x:AVal)(v:Value)
  (hw:∀φ,HR w0 F G ν φ st.objs st.nx w->WLe (Ww2 φ st.objs st.nx m) w w') (hS:∀φ,HR w0 F G ν φ st.objs st.nx w->∀b o,S φ b o->Ww2 φ st.objs st.nx m b o\/(w.heap.size<=b/\b<w'.heap.size))
  (cT:∀φ,HR w0 F G ν φ st.objs st.nx w->WcG G (upd ν st.nx nu) (st.nx+1) w' st.nx (S φ) ob)
  (hv:AValRel G (upd ν st.nx nu) (st.nx+1) x v):
  Rel w0 F nt G0 G (upd ν st.nx nu) (({env:=st.env,objs:=(st.nx,ob)::kill st.objs m,nx:=st.nx+1}:St).put dst x) (a.put dst v) w':=by
 obtain⟨φ,hφ⟩:=h.h;exact h.lay hd (Wfw ν st.nx nu) (Xdd _) ⟨_,hφ.put (Wfw ν st.nx nu) (Xdd _) (Xbq _) (hw φ hφ) (hS φ hφ) (λ_=>cT φ hφ)⟩ hv
theorem Rel.new(h:Rel w0 F nt G0 G ν st a w){dst:Option Tmp}(hd:∀d,dst=some d->nt.Ok d)(ob:Ob)(nu:Nu)(x:AVal)(v:Value)
  (hw:WLe (λ_ _=>False) w w')
  (cT:WcG G (upd ν st.nx nu) (st.nx+1) w' st.nx (λb _=>w.heap.size<=b/\b<w'.heap.size) ob)
  (hv:AValRel G (upd ν st.nx nu) (st.nx+1) x v):
  Rel w0 F nt G0 G (upd ν st.nx nu) (st.new dst ob x) (a.put dst v) w':=
 h.fresh hd [] ob nu (λ_ b _=>w.heap.size<=b/\b<w'.heap.size) x v (λφ _=>hw.mono λ_ _ hh=>hh.elim) (λφ _ b o hs=>.inr hs) (λφ _=>cT) hv
end
end Go.Sx
namespace Go.Sx
set_option linter.unusedVariables false
set_option linter.unusedSimpArgs false
theorem WrW{v:Value}(h:v.oneCell'=true):v.cells= #[v]:=by
 cases v<;>first|rfl|simp[Value.oneCell']at h
section
variable{w0:World}{F:CS}{nt:Slots}{G0 G:GH}{ν:Nat->Nu}{objs:Waj}{nx:Nat}{st:St}{a:Act}{w w':World}{P:Program}{T:Tab}
theorem Wxp:∀(t:Ty),t.data=true->Enc G t t.dflt (WbO t)
 | .int _,_=>rfl
 | .bool,_=>rfl
 | .str,_=>rfl
 | .slice e,_=>⟨_,rfl,.inl ⟨rfl,rfl⟩⟩
 | .own _,h=>by simp[Ty.data]at h
 | .prod a b,h=>by
  simp only[Ty.data,Xi]at h;exact⟨_,_,rfl,Wxp a h.1,Wxp b h.2⟩
theorem Ww3:∀(t:Ty),CellsRel G ν nx (We2 t) (WbO t)
 | .int _=>CellsRel.one rfl rfl
 | .bool=>CellsRel.one rfl rfl
 | .str=>CellsRel.one rfl rfl
 | .slice e=>CellsRel.one rfl rfl
 | .own _=>CellsRel.one trivial rfl
 | .prod a b=>(Ww3 a).append (Ww3 b)
theorem WbE:∀(t:Ty),(WbO t).length=t.size
 | .int _| .bool| .str| .slice _| .own _=>rfl
 | .prod a b=>by simp[WbO,WbE a,WbE b,Ty.size]
theorem WlO{α:Type}(l:List α):∀n,(rep l n).length=n*l.length
 |0=>by simp[rep]
 |n+1=>by rw[rep,Xz,WlO l n,Xbv,Xcu]
theorem Whg{e:Ty}(h:e.data=true):∀n,EncL (Enc G e) (Xt n e.dflt) (rep (WbO e) n)
 |0=>rfl
 |n+1=>⟨_,_,rfl,Wxp e h,Whg h n⟩
theorem Wfc{t:TypeId}{te:TE}(bD:TEok P T t te):∃z,(zeroValue t).run P w= .ok z w/\z.cells.toList=te.cells:=by
 obtain⟨i,z,hi,_,hz,hc,_⟩:=bD.info;simp_all [zeroValue,WhG]
theorem WbM{te:TE}(h:te.plain=true):te.cells=WbO te.ty:=by
 unfold TE.plain at h;unfold TE.cells;split at h<;>simp_all
theorem Wlb(w:World)(o:Obj):(w.alloc o).heap[w.heap.size]?=some o:=heap_alloc_new w o
theorem zty:∀(t:Ty),∃ps,TyRel G w t t.dflt (WbO t.ro) ps/\∀p∈ps,p.fp= λ_ _=>False
 | .int _=>⟨[],⟨rfl,rfl⟩,by simp⟩
 | .bool=>⟨[],⟨rfl,rfl⟩,by simp⟩
 | .str=>⟨[],⟨rfl,rfl⟩,by simp⟩
 | .slice e=>⟨[],⟨rfl,_,rfl,.inl ⟨rfl,rfl⟩⟩,by simp⟩
 | .own e=>⟨[⟨⟨none,0,0,0,e.size⟩,λ_ _=>False⟩],⟨_,rfl,rfl,rfl,rfl,rfl⟩,by simp⟩
 | .prod a b=>by
  obtain⟨p1,h1,h2⟩:=zty a;obtain⟨p2,h3,h4⟩:=zty b;refine⟨p1++p2,⟨_,_,p1,p2,rfl,rfl,h1,h3⟩,λp hp=>?_⟩
  grind
theorem WuD(e:Ty):∀n,∃ps,EncP (TyRel G w e) (Xt n e.dflt) (rep (WbO e.ro) n) ps/\∀p∈ps,p.fp= λ_ _=>False
 |0=>⟨[],⟨rfl,rfl⟩,by simp⟩
 |n+1=>by
  obtain⟨p1,h1,h2⟩:=zty (G:=G) (w:=w) e;obtain⟨p2,h3,h4⟩:=WuD e n;refine⟨p1++p2,⟨_,_,p1,p2,rfl,rfl,h1,h3⟩,λp hp=>?_⟩
  grind
theorem WmY:∀(ps:List Pc),(∀p∈ps,p.fp= λ_ _=>False)->Sep (ps.map Pc.fp)
 | [],_=>List.Pairwise.nil
 |p::ps,h=>Xy.2 ⟨λs _ b o hb _=>by simp_all,WmY ps λq hq=>h q (Xe _ hq)⟩
theorem Wrd(h:Rel w0 F nt G0 G ν st a w){dst:Option Tmp}(hd:∀d,dst=some d->nt.Ok d){cs:List Cell}{vs:Array Value}{t:TypeId}(hc:CellsRel G ν st.nx cs vs.toList):
  ∃ν',Rel w0 F nt G0 G ν' (st.new dst (.box cs) (.s (.one (.ptr st.nx 0)))) (a.put dst (.pointer (some ⟨w.heap.size,0,none⟩))) (w.alloc (.cells vs t)):=by
 refine⟨upd ν st.nx ⟨some w.heap.size,0,0,0,0⟩,h.new hd (.box cs) _ _ _ (WLe.alloc _ w _ rfl rfl rfl rfl) ?_ ?_⟩
 .have hl:vs.size=cs.length:=by have:=hc.1;omega
  refine⟨w.heap.size,vs.toList,by rw[WbH],⟨vs,t,Wlb w _,by grind [WbH]⟩,?_,hc.mono (λ_ _ _ hh=>hh) (Wfw _ _ _) (Xdd _),λb o ⟨hb,_⟩=>by simp_all⟩;rw[WbH];exact Wtj (Wlb w _) (λj v hj=>by simp_all)
 .exact⟨⟨Xbq _,w.heap.size,by rw[WbH],by rw[WbH]⟩,rfl⟩
def FromL(φ:Nat->CS)(objs:Waj)(m:List Nat):CS:=λb o=>∃i∈m,Live objs i/\φ i b o
theorem Wh6(h:Rel w0 F nt G0 G ν st a w){dst:Option Tmp}(hd:∀d,dst=some d->nt.Ok d)(m:List Nat){e:Ty}{xs:List e.den}{cap:Nat}{vs:Array Value}{t:TypeId}{cs:List Value}(hx:xs.length<=cap)(gZ:cap<=maxLen)
  (hsz:vs.size=cap*e.size) (hc:∀φ,HR w0 F G ν φ st.objs st.nx w->∃ps,EncP (TyRel G w e) xs cs ps/\Sep (ps.map Pc.fp)/\∀p∈ps,CS.le p.fp (FromL φ st.objs m)) (hp:cs<+:vs.toList)
  (wd:World) (ud:wd.heap=w.heap) (qJ:wd.os=w.os) (fK:wd.output=w.output) (fx:wd.tape=w.tape):
  (∃ν',Rel w0 F nt G0 G ν' (({env:=st.env,objs:=(st.nx,.arr e xs)::kill st.objs m,nx:=st.nx+1}:St).put dst (.s (.one (.own st.nx)))) (a.put dst (.slice (some ⟨w.heap.size,0,none⟩) xs.length cap)) (wd.alloc (.cells vs t)))/\
  (∃ν',Rel w0 F nt G0 G ν' (({env:=st.env,objs:=(st.nx,.arr e xs)::kill st.objs m,nx:=st.nx+1}:St).put dst (.s (.one (.aptr st.nx)))) (a.put dst (.pointer (some ⟨w.heap.size,0,none⟩))) (wd.alloc (.cells vs t))):=by
 have m6:(wd.alloc (.cells vs t)).heap[w.heap.size]?=some (Obj.cells vs t (0,0)):=by grind [Wlb]
 have key:∀(x:AVal) (v:Value),AValRel G (upd ν st.nx ⟨some w.heap.size,0,xs.length,cap,e.size⟩) (st.nx+1) x v->
   ∃ν',Rel w0 F nt G0 G ν' (({env:=st.env,objs:=(st.nx,.arr e xs)::kill st.objs m,nx:=st.nx+1}:St).put dst x) (a.put dst v) (wd.alloc (.cells vs t)):=λx v hv=>by
  refine⟨upd ν st.nx ⟨some w.heap.size,0,xs.length,cap,e.size⟩,h.fresh hd m (.arr e xs) _ (λφ b o=>FromL φ st.objs m b o\/b=w.heap.size) x v (λφ _=>WLe.alloc _ wd _ ud qJ fK fx) (λφ hφ b o hs=>?_) (λφ hφ=>?_) hv⟩
  .rcases hs with⟨i,hi,h1,h2⟩|hs
   .exact .inl ⟨i,.inr hi,h1,h2⟩
   simp_all
  .obtain⟨ps,h1,h2,h3⟩:=hc φ hφ;have hbl:∀p∈ps,∀b o,p.fp b o->b<w.heap.size:=λp dv b o hh=>by
    obtain⟨i,_,g1,g2⟩:=h3 p dv b o hh;exact hφ.bl i b o g1 g2
   show OwnL (wd.alloc (.cells vs t)) (TyRel G _ e) e.size (upd ν st.nx ⟨some w.heap.size,0,xs.length,cap,e.size⟩ st.nx) xs _;rw[WbH];refine⟨rfl,rfl,hx,gZ,⟨vs,t,m6,by simp_all⟩,cs,ps,?_,?_,Xy.2 ⟨λs hs b o ⟨hb,_⟩ gu=>?_,h2⟩,λs hs b o gu=>?_⟩
   .refine WbX (Q:=λp=>∀b o,p.fp b o->b<w.heap.size) (λx c p dv hh=>?_) _ _ _ hbl h1;exact WaL (λ_ _ _ hh=>hh) e x c p (λq hq=>(WLe.alloc (λ_ _=>False) wd _ ud qJ fK fx).same (λ_ _ hh _=>hh) (dv q hq)) hh
   .obtain⟨tl,ub⟩:=hp;exact Wtj m6 (λj v hj=>by grind)
   .obtain⟨p,dv,rfl⟩:=Xw.1 hs
    grind
   .rcases Xr.1 hs with rfl|hs
    .exact .inr gu.1
    .obtain⟨p,dv,rfl⟩:=Xw.1 hs;exact .inl (h3 p dv b o gu)
 refine⟨key _ _ ⟨⟨Xbq _,?_⟩,rfl⟩,key _ _ ⟨⟨Xbq _,w.heap.size,by rw[WbH],by rw[WbH]⟩,rfl⟩⟩;rw[WbH];rfl
theorem WnF(h:Rel w0 F nt G0 G ν st a w){dst:Option Tmp}(hd:∀d,dst=some d->nt.Ok d){e:Ty}(he:e.data=true){xs:List e.den}{cap:Nat}{vs:Array Value}{t:TypeId}{cs:List Value}(hx:xs.length<=cap)(gZ:cap<=maxLen)
  (hsz:vs.size=cap*e.size) (hc:EncL (Enc G e) xs cs) (hp:cs<+:vs.toList) (wd:World) (ud:wd.heap=w.heap) (qJ:wd.os=w.os) (fK:wd.output=w.output) (fx:wd.tape=w.tape):
  (∃ν',Rel w0 F nt G0 G ν' (st.new dst (.arr e xs) (.s (.one (.own st.nx)))) (a.put dst (.slice (some ⟨w.heap.size,0,none⟩) xs.length cap)) (wd.alloc (.cells vs t)))/\
  (∃ν',Rel w0 F nt G0 G ν' (st.new dst (.arr e xs) (.s (.one (.aptr st.nx)))) (a.put dst (.pointer (some ⟨w.heap.size,0,none⟩))) (wd.alloc (.cells vs t))):=
 Wh6 h hd [] hx gZ hsz (λφ _=>⟨[],(EncP_data he xs cs []).2 ⟨hc,rfl⟩,List.Pairwise.nil,by simp⟩) hp wd ud qJ fK fx
theorem WdI{x:AVal}{v:Value}{cs:List Cell}(hx:AValRel G ν nx x v)(hb:WgT x=some cs):CellsRel G ν nx cs v.cells.toList/\∀u∈v.cells.toList,u.oneCell'=true:=by
 cases x with
 |tup xs=>simp[WgT]at hb
 |s y=>
  cases y with
  |one c=>
   simp[WgT]at hb;subst hb;obtain⟨h1,h2⟩:=hx
   grind [WrW,CellsRel.one]
  |agg ds=>
   simp[WgT]at hb;subst hb;obtain⟨vs,rfl,h1⟩:=hx;refine⟨by grind [Value.cells],λu hu=>?_⟩;simp[Value.cells]at hu;obtain⟨j,hj⟩:=List.getElem?_of_mem hu;have hlt:j<ds.length:=by rw[←h1.1];grind
   exact(h1.2 j _ u (Xq hlt) hj).2
theorem WcV(t:TypeId)(vs:Array Value):(newRow t vs).run P w= .ok ⟨w.heap.size,0,none⟩ (w.alloc (.cells vs t)):=rfl
theorem We9{cs ds:List Cell}{off:Nat}(h:off+ds.length<=cs.length):(Wej cs off ds).length=cs.length:=by
 simp[Wej];omega
theorem Wfa{cs ds:List Cell}{vs us:List Value}{off:Nat}(hc:CellsRel G ν nx cs vs)(hd:CellsRel G ν nx ds us):
  CellsRel G ν nx (Wej cs off ds) (vs.take off++us++vs.drop (off+us.length)):=by
 rw[hd.1];exact((hc.take off).append hd).append (hc.drop _)
theorem Win(us:List Value):∀(off k:Nat) (cs:Array Value),off+k+us.length<=cs.size->
  ((us.zipIdx k).foldl (λcs (c,j)=>cs.setIfInBounds (off+j) c) cs).toList=cs.toList.take (off+k)++us++cs.toList.drop (off+k+us.length):=by
 induction us with
 |nil=>simp_all
 |cons u us ih=>
  intro off k cs h;simp only[List.zipIdx_cons,List.foldl_cons,Xs]at h⊢;rw[ih off (k+1) _ (by simp;omega)];have hlt:off+k<cs.toList.length:=by simp;omega
  simp only[Array.toList_setIfInBounds];generalize cs.toList=l at*;have e1:(l.set (off+k) u).take (off+(k+1))=l.take (off+k)++ [u]:=by
   rw[←Xay,List.take_succ_eq_append_getElem (by simp_all),List.take_set_of_le (Xn _)];simp
  grind [List.drop_set_of_lt]
end
end Go.Sx
namespace Go.Sx
set_option linter.unusedVariables false
set_option linter.unusedSimpArgs false
section
variable{w0:World}{F:CS}{nt:Slots}{G0 G:GH}{ν:Nat->Nu}{objs:Waj}{nx:Nat}{st af:St}{a:Act}{w w':World}{P:Program}{T:Tab}
def Done(P:Program)(w0:World)(F:CS)(nt:Slots)(G0:GH)(o:Oper)(a:Act)(w:World)(af:St):Prop:=
 ∃n v w' G' ν',(execOp a.eval o).run P w= .ok n w'/\(n= .value v\/(n= .skip/\v=undef))/\Rel w0 F nt G0 G' ν' af (a.put o.dst v) w'
theorem Wgn(hr:Rel w0 F nt G0 G ν st a w):∀(l:List (Nat×Operand)) (ps:List (Nat×AVal)),WcI st l=some ps->
  ps.length=l.length/\∀(j:Nat) (p:Nat×AVal) (q:Nat×Operand),ps[j]?=some p->l[j]?=some q->p.1=q.1/\AValRel G ν st.nx p.2 (a.eval q.2)
 | [],ps,h=>by simp[WcI]at h;simp_all
 |(i,x)::l,ps,h=>by
  simp only[WcI]at h;split at h
  .rename_i y ys h1 h2;injection h with h;subst h;obtain⟨h3,h4⟩:=Wgn hr l ys h2;refine⟨by simp[h3],λj p q hp hq=>?_⟩;cases j with
   |zero=>simp at hp hq;subst hp hq;exact⟨rfl,WR hr x _ h1⟩
   |succ j=>grind
  grind
theorem WjZ(hT:Wao P T){fs:List (Nat×TypeId)}{place:Nat->Option (Nat×Nat)}
  (eB:∀(i off:Nat) (ft:TypeId) (te:TE),fs[i]?=some (off,ft)->look T ft=some te->place i=some (off,te.size)) (hP:∀(i off:Nat) (ft:TypeId) (te:TE),fs[i]?=some (off,ft)->look T ft=some te->te.plain=true):
  ∀(l:List (Nat×AVal)) (ps:List (Nat×Value)) (cs cs':List Cell) (vs:Array Value),CellsRel G ν nx cs vs.toList->ps.length=l.length->
   (∀(j:Nat) (p:Nat×AVal) (q:Nat×Value),l[j]?=some p->ps[j]?=some q->p.1=q.1/\AValRel G ν nx p.2 q.2)->WmP T fs l cs=some cs'->
   ∃vs',Instr.fill place vs ps=some vs'/\CellsRel G ν nx cs' vs'.toList
 | [],[],cs,cs',vs,hc,_,_,h=>by simp[WmP]at h;subst h;exact⟨vs,rfl,hc⟩
 |(i,x)::l,[],_,_,_,_,hl,_,_=>by simp at hl
 | [],_::_,_,_,_,_,hl,_,_=>by simp at hl
 |(i,x)::l,(i',v)::ps,cs,cs',vs,hc,hl,hp,h=>by
  obtain⟨he,hx⟩:=hp 0 _ _ rfl rfl;simp only at he hx;subst he;simp only[WmP]at h;split at h
  .rename_i off ft hf;split at h
   .rename_i te ds bD gk;split at h
    .rename_i bo;simp only[Xi,Wh]at bo;obtain⟨h1,h2⟩:=bo;obtain⟨h3,_⟩:=WdI hx gk;have hsz:v.cells.size=ds.length:=by have:=h3.1;omega
     have fw:vs.size=cs.length:=by have:=hc.1;omega
     have zj:=hP _ _ _ _ hf bD;have dK:=Win v.cells.toList off 0 vs (by simp;omega);simp only[Xax,Xas]at dK;have hQ:CellsRel G ν nx (Wej cs off ds) (v.cells.toList.zipIdx.foldl (λcs (c,j)=>cs.setIfInBounds (off+j) c) vs).toList:=by
      rw[dK];have:=Wfa (off:=off) hc h3;omega
     obtain⟨vs',h4,h5⟩:=WjZ hT eB hP l ps _ cs' _ hQ (by simp_all) (λj p q hj hq=>hp (j+1) p q (by simp_all) (by simp_all)) h;refine⟨vs',?_,h5⟩;simp only[Instr.fill,eB _ _ _ _ hf bD];rw[Wa (by grind [W2])];rw[←h4];congr 1;rw[←Array.foldl_toList];simp
    grind
   grind
  grind
theorem WgN{α β:Type}(f:α->Sem β)(g:α->β):∀(l:List α),(∀x∈l,(f x).run P w= .ok (g x) w)->(l.mapM f).run P w= .ok (l.map g) w
 | [],_=>by simp
 |x::l,h=>by
  simp only[Xfb,Sem.run_bind,h x (Xh ..),Result.andThen_ok,WgN f g l (λy hy=>h y (Xe _ hy)),Sem.run_pure,Xak]
theorem Wns{α β:Type}(f:α->Sem β)(g:α->β)(l:Array α)(h:∀x∈l,(f x).run P w= .ok (g x) w):(l.mapM f).run P w= .ok (l.map g) w:=by
 rw[Array.mapM_eq_mapM_toList];simp only[Sem.run_map,WgN f g l.toList (λx hx=>h x (by simp_all)),Result.andThen_ok];congr 1
 grind
theorem Wqu(hT:Wao P T)(hr:Rel w0 F nt G0 G ν st a w){o:Oper}(hd:∀d,o.dst=some d->nt.Ok d){t:TypeId}{parts:Array (Nat×Operand)}(ho:o.op= .build t parts)
  {ty:Ty} {fs:List (Nat×TypeId)} {ps:List (Nat×AVal)} {cs:List Cell} (hl:look T t=some ⟨ty,true,.struct fs⟩) (ca:WcI st parts.toList=some ps) (hf:WmP T fs ps (We2 ty)=some cs)
  (eB:∀f∈fs,∃te,look T f.2=some te/\te.plain=true):
  Done P w0 F nt G0 o a w (st.put o.dst (.s (.agg cs))):=by
 have bD:=hT _ _ hl;obtain⟨_,fields,hu,eC,_⟩:=bD.und;obtain⟨z,hz,dC⟩:=Wfc (w:=w) bD;obtain⟨h1,h2⟩:=Wgn hr _ _ ca;have hsz:∀f∈fields,∃te,look T f.type=some te/\te.plain=true:=λf hf=>eB (f.offset,f.type) (by grind)
 let sz:Field->Nat:=λf=>match look T f.type with|some te=>te.size|none=>0
 have hrun:(fields.mapM λf=>(do pure (f.offset,←sizeOf f.type):Sem (Nat×Nat))).run P w= .ok (fields.map λf=>(f.offset,sz f)) w:=by
  refine Wns _ (λf=>(f.offset,sz f)) fields (λf hf=>?_);obtain⟨te,bS,_⟩:=hsz f hf;simp[sz,(hT _ _ bS).sizeOf,bS]
 have nX:∀(i off:Nat) (ft:TypeId) (te:TE),fs[i]?=some (off,ft)->look T ft=some te->(fields.map λf=>(f.offset,sz f))[i]?=some (off,te.size):=λi off ft te hi bS=>by
  grind
 have rF:CellsRel G ν st.nx (We2 ty) z.cells.toList:=by
  rw[dC];exact Ww3 ty
 obtain⟨vs',h3,h4⟩:=WjZ hT nX (λi off ft te hi bS=>by
   obtain⟨du,h5,h6⟩:=eB _ (List.mem_of_getElem? hi);simp_all) ps (parts.toList.map λp=>(p.1,a.eval p.2)) _ cs z.cells rF (by simp[h1]) (λj p q hp hq=>by
   grind) hf
 refine⟨.value (.agg vs'),.agg vs',w,G,ν,?_,.inl rfl,hr.put hd ⟨vs'.toList,by simp,h4⟩⟩;simp only[execOp,ho,Instr.build,Sem.run_bind,hz,Result.andThen_ok,Wk hu,hrun];have:(parts.map λx=>match x with|(i,x)=>(i,a.eval x)).toList=parts.toList.map λp=>(p.1,a.eval p.2):=by simp
 rw[this,h3];rfl
theorem Wp4(hT:Wao P T)(hr:Rel w0 F nt G0 G ν st a w){o:Oper}(hd:∀d,o.dst=some d->nt.Ok d){t:TypeId}(ho:o.op= .alloc t){te:TE}(hl:look T t=some te)(hp:te.plain=true):
  Done P w0 F nt G0 o a w (st.new o.dst (.box (We2 te.ty)) (.s (.one (.ptr st.nx 0)))):=by
 obtain⟨z,hz,dC⟩:=Wfc (w:=w) (hT _ _ hl);obtain⟨ν',h⟩:=Wrd (t:=t) (vs:=z.cells) hr hd (cs:=We2 te.ty) (by grind [WbM,Ww3]);refine⟨_,_,_,G,ν',?_,.inl rfl,h⟩;simp_all [execOp,Instr.alloc,Sem.run_bind,Result.andThen_ok,newVar,WcV,Sem.run_pure]
theorem Wlg(hT:Wao P T)(hr:Rel w0 F nt G0 G ν st a w){o:Oper}(hd:∀d,o.dst=some d->nt.Ok d){t:TypeId}(ho:o.op= .alloc t){e:Ty}{n:Nat}{et:TypeId}(hl:look T t=some ⟨e,true,.arr n et⟩)(aV:e.data=true)(ar:WN n=true):
  Done P w0 F nt G0 o a w (st.new o.dst (.arr e (Xt n e.dflt)) (.s (.one (.aptr st.nx)))):=by
 obtain⟨z,hz,dC⟩:=Wfc (w:=w) (hT _ _ hl);have hn:n<=maxLen:=by grind [WN,maxLen]
 have hlen:z.cells.size=n*e.size:=by
  grind [Xas,TE.cells,WlO,WbE]
 obtain⟨_,ν',h⟩:=WnF (t:=t) (vs:=z.cells) hr hd (e:=e) aV (xs:=Xt n e.dflt) (cap:=n) (cs:=rep (WbO e) n) (by simp) hn hlen (Whg aV n) (by rw[dC];exact List.prefix_refl _) w rfl rfl rfl rfl;refine⟨_,_,_,G,ν',?_,.inl rfl,h⟩;simp_all [execOp,Instr.alloc,Sem.run_bind,Result.andThen_ok,newVar,WcV,Sem.run_pure]
theorem Wt3(hr:Rel w0 F nt G0 G ν st a w){o:Oper}(hd:∀d,o.dst=some d->nt.Ok d){t:TypeId}{x:Operand}(ho:o.op= .box t x){v:AVal}{cs:List Cell}(hv:ev st x=some v)(hb:WgT v=some cs):
  Done P w0 F nt G0 o a w (st.new o.dst (.box cs) (.s (.one (.ptr st.nx 0)))):=by
 obtain⟨h1,_⟩:=WdI (WR hr x _ hv) hb;obtain⟨ν',h⟩:=Wrd (t:=t) hr hd h1;refine⟨_,_,_,G,ν',?_,.inl rfl,h⟩;simp only[execOp,ho,Instr.box,Sem.run_bind,Result.andThen_ok,newVar,WcV,Sem.run_pure]
theorem WrJ(hT:Wao P T)(hr:Rel w0 F nt G0 G ν st a w){o:Oper}(hd:∀d,o.dst=some d->nt.Ok d){r:AVal}(h:Wam T st o.op=some (true,r)):Done P w0 F nt G0 o a w (st.put o.dst r):=by
 obtain⟨v,h1,h2⟩:=Wqc hT hr h;exact⟨_,v,w,G,ν,h1,.inl rfl,hr.put hd h2⟩
end
end Go.Sx
namespace Go.Sx
set_option linter.unusedVariables false
set_option linter.unusedSimpArgs false
theorem Wf2{t t':Ty}{d:t.den}{d':t'.den}(h:WmM t t' d=some d'):∃e:t=t',e▸d=d':=by
 grind [WmM]
theorem WaC{e e':Ty}{d:List e.den}{d':List e'.den}(h:Wgp e e' d=some d'):∃he:e=e',he▸d=d':=by
 grind [Wgp]
theorem Wtd{A A':Type}(hA:A=A')(h:List A=List A')(l:List A)(i:Nat):cast h (l.take i)=(cast h l).take i:=by
 grind
theorem Wru{A A':Type}(hA:A=A')(h:List A=List A')(l:List A)(i:Nat):cast h (l.drop i)=(cast h l).drop i:=by
 grind
theorem Wqy(e:Ty)(l:List e.den)(i:Nat):WcE e (l.take i)=(WcE e l).take i:=Wtd (Weh e).symm _ l i
theorem WqD(e:Ty)(l:List e.den)(i:Nat):WcE e (l.drop i)=(WcE e l).drop i:=Wru (Weh e).symm _ l i
section
variable{w0:World}{F:CS}{G G':GH}{ν:Nat->Nu}{φ:Nat->CS}{objs:Waj}{nx:Nat}{w:World}
def Lent(G':GH)(w:World)(φ:Nat->CS)(objs:Waj)(l:List Nat):Prop:=∀id∈l,Live objs id->Froz G' w (φ id)
theorem Lent.mono{l m:List Nat}(h:Lent G' w φ objs m)(hs:∀i∈l,i∈m):Lent G' w φ objs l:=λid bz=>h id (hs id bz)
theorem CellsRel.single{c:Cell}{vs:List Value}(h:CellsRel G ν nx [c] vs):∃v,vs= [v]/\CellRel G ν nx c v/\v.oneCell'=true:=by
 obtain⟨h1,h2⟩:=h
 match vs,h1 with
 | [v],_=>exact⟨v,rfl,h2 0 c v rfl rfl⟩
theorem WgA{t:Ty}{c:Cell}{d:t.den}{v:Value}(hg:GLe G G')(h:CellRel G ν nx c v)(hf:Wjm t c=some d):Enc G' t d [v]:=by
 unfold Wjm at hf;split at hf
 .obtain⟨e,hd⟩:=Wf2 hf;subst e;simp only at hd;subst hd;exact Wbm hg _ _ _ h
 grind
theorem FromL.mono{m m':List Nat}(h:∀i∈m,i∈m'):CS.le (FromL φ objs m) (FromL φ objs m'):=λb o ⟨i,hi,h1⟩=>⟨i,h i hi,h1⟩
theorem FromL.one{i:Nat}{m:List Nat}(hi:i∈m)(hl:Live objs i):CS.le (φ i) (FromL φ objs m):=λb o h=>⟨i,hi,hl,h⟩
theorem FromL.disj(h:HR w0 F G ν φ objs nx w){m m':List Nat}(hd:∀i∈m,i∉m'):CS.disj (FromL φ objs m) (FromL φ objs m'):=λb o ⟨i,hi,h1,h2⟩ ⟨j,hj,h3,h4⟩=>by
 have:=h.inj i j b o h1 h3 h2 h4;simp_all
theorem CS.disj.mono{A B A' B':CS}(h:CS.disj A B)(h1:CS.le A' A)(h2:CS.le B' B):CS.disj A' B':=λb o ha hb=>h b o (h1 b o ha) (h2 b o hb)
theorem CS.disj.symm{A B:CS}(h:CS.disj A B):CS.disj B A:=λb o ha hb=>h b o hb ha
theorem WnJ{l m:List CS}{A B:CS}(h1:Sep l)(h2:Sep m)(ha:∀s∈l,CS.le s A)(hb:∀s∈m,CS.le s B)(hd:CS.disj A B):Sep (l++m):=
 Xah.2 ⟨h1,h2,λs hs t ht=>hd.mono (ha s hs) (hb t ht)⟩
theorem Wny{l1 l2 l3:List CS}(nY:Sep (l1++l3))(h2:Sep l2)(hd:∀s∈l2,∀t∈l1++l3,CS.disj s t):Sep (l1++(l2++l3)):=by
 obtain⟨h1,h3,h4⟩:=Xah.1 nY;refine Xah.2 ⟨h1,Xah.2 ⟨h2,h3,λs hs t ht=>hd s hs t (Xg _ ht)⟩,λs hs t ht=>?_⟩;rcases Xm.1 ht with ht|ht
 .exact(hd t ht s (Xk _ hs)).symm
 simp_all
theorem Wgl{b off i n cap:Nat}(hi:i<cap){S:CS}(h1:CS.le (rng b off (i*n)) S)(h2:CS.le (rng b (off+i*n) n) S)(h3:CS.le (rng b (off+(i+1)*n) ((cap-(i+1))*n)) S):CS.le (rng b off (cap*n)) S:=λb' o ⟨e,g1,g2⟩=>by
 have e1:(i+1)*n=i*n+n:=Xbv i n;have e2:(cap-(i+1))*n+(i+1)*n=cap*n:=by rw[←Xcs];grind
 by_cases c1:o<off+i*n
 .exact h1 b' o ⟨e,g1,c1⟩
 .by_cases c2:o<off+i*n+n
  .exact h2 b' o ⟨e,by omega,c2⟩
  .exact h3 b' o ⟨e,by omega,by omega⟩
theorem WtF{b a n c m:Nat}(h:a+n<=c):CS.disj (rng b a n) (rng b c m):=λb' o ⟨_,h1,h2⟩ ⟨_,h3,h4⟩=>by omega
theorem Wpp{e:Ty}{nu np:Nu}{xs:List e.den}{i:Nat}{S S1 S2:CS}(h:WhM w (TyRel G w e) e.size nu np xs i S){d:e.den}{vs:List Value}{ns:List Pc}(hd:TyRel G w e d vs ns)
  {b:Nat} (hb:np.blk=some b) (hm:Mem w b np.off vs) (hr:CS.le (rng b np.off e.size) S1) (hs:Sep (ns.map Pc.fp)) (cC:∀p∈ns,CS.le p.fp S2) (d1:CS.disj S S1) (d2:CS.disj S S2) (d3:CS.disj S1 S2)
  {S':CS} (l1:CS.le S S') (l2:CS.le S1 S') (l3:CS.le S2 S'):OwnL w (TyRel G w e) e.size nu (xs.set i d) S':=by
 obtain⟨h1,h2,h3,b',h4,h5,h6,h7,h8,h9,c1,c2,p1,p2,g1,g2,g3,g4,g5,g6⟩:=h;rw[hb]at h5;injection h5 with h5;subst h5;have bc:=Wba (λx c q hx=>WF e x c q hx) _ _ _ g1;rw[Xba,Xca (by omega)]at bc;have az:=WF _ _ _ _ hd;have e1:(i+1)*e.size=i*e.size+e.size:=Xbv i e.size;refine⟨by simp_all,h2,?_⟩;simp only[h4];have gA:=g6 _ (Xh ..);have gC:=g6 _ (Xe _ (Xh ..));have gp:∀s∈(p1++p2).map Pc.fp,CS.le s S:=λs hs=>g6 s (Xe _ (Xe _ hs));obtain⟨q1,q2⟩:=Xy.1 g5;obtain⟨q3,q4⟩:=Xy.1 q2;rw[h6]at hm hr;refine⟨by simp_all,h8,h9,c1++(vs++c2),p1++(ns++p2),WoT h3 g1 hd g2,?_,Xy.2 ⟨λs ct=>?_,?_⟩,λs ct=>?_⟩
 .refine g3.app (n:=i*e.size) ?_ bc;refine hm.app (n:=e.size) ?_ az
  grind
 .
  simp only[Xu,Xm]at ct;have key:∀s,(CS.disj s (rng b nu.off (i*e.size)))->CS.disj s (rng b (nu.off+i*e.size) e.size)->CS.disj s (rng b (nu.off+(i+1)*e.size) ((nu.cap-(i+1))*e.size))->CS.disj (rng b nu.off (nu.cap*e.size)) s:=λs k1 k2 k3 b' o lC gu=>
   (Wgl (show i<nu.cap by omega) (S:=λb o=>¬s b o) (λb o hh hs=>k1 b o hs hh) (λb o hh hs=>k2 b o hs hh) (λb o hh hs=>k3 b o hs hh) b' o lC) gu
  have uT:∀s∈(p1++p2).map Pc.fp,CS.disj (rng b nu.off (nu.cap*e.size)) s:=λs hs=>key s (q1 s (Xe _ hs)).symm (d1.mono (gp s hs) hr) (q3 s hs).symm;rcases ct with ct|ct|ct
  .simp_all
  .obtain⟨p,hp,rfl⟩:=Xw.1 ct;exact key _ (d2.mono gA (cC p hp)).symm (d3.mono hr (cC p hp)).symm (d2.mono gC (cC p hp)).symm
  simp_all
 .rw[Xu,Xu];rw[Xu]at q4 gp;refine Wny q4 hs (λs ct t ht=>?_);obtain⟨p,hp,rfl⟩:=Xw.1 ct;exact(d2.mono (gp t ht) (cC p hp)).symm
 .rcases Xr.1 ct with rfl|ct
  .exact Wgl (show i<nu.cap by omega) (λb o hh=>l1 b o (gA b o hh)) (λb o hh=>l2 b o (hr b o hh)) (λb o hh=>l1 b o (gC b o hh))
  .simp only[Xu,Xm]at ct;rcases ct with ct|ct|ct
   .exactλb o hh=>l1 b o (gp s (by simp_all) b o hh)
   .obtain⟨p,hp,rfl⟩:=Xw.1 ct
    exactλb o hh=>l3 b o (cC p hp b o hh)
   .exactλb o hh=>l1 b o (gp s (by simp_all) b o hh)
def Nu.part(n:Nu)(lo hi:Nat):Nu:=⟨n.blk,if n.cap=lo then n.off else n.off+lo*n.esz,hi-lo,n.cap-lo,n.esz⟩
theorem Wku{n:Nu}{lo hi:Nat}:(n.part lo hi).hdr=n.vhdr lo hi:=by
 unfold Nu.hdr Nu.vhdr Nu.part;cases n.blk<;>rfl
theorem Wo7{e:Ty}{nu:Nu}{xs:List e.den}{S:CS}{lo hi:Nat}(h:OwnL w (TyRel G w e) e.size nu xs S)(h1:lo<=hi)(h2:hi<=nu.len):OwnL w (TyRel G w e) e.size (nu.part lo hi) ((xs.take hi).drop lo) S:=by
 obtain⟨g1,g2,g3⟩:=h;refine⟨by simp[Nu.part];omega,g2,?_⟩;show match nu.blk with|none=>_|some b=>_
 cases hb:nu.blk with
 |none=>simp_all
 |some b=>
  simp only[hb]at g3;obtain⟨g4,g5,g6,cs,ps,g7,g8,g9,ue⟩:=g3;obtain⟨c1,c2,p1,p2,k1,k2,k3,k4⟩:=WeF xs cs ps hi g7;obtain⟨d1,d2,q1,q2,k5,k6,k7,k8⟩:=WeF (xs.take hi) c1 p1 lo k3;have hl:=Wba (λx c q hx=>WF e x c q hx) _ _ _ k7;rw[Xba,Xba,Xca (by omega)]at hl;have hcl:(nu.cap-lo)*e.size+lo*e.size=nu.cap*e.size:=by rw[←Xcs];grind
  have hlen:((xs.take hi).drop lo).length=hi-lo:=by simp;omega
  by_cases hc:nu.cap=lo
  .have h0:(xs.take hi).drop lo= []:=Xaa (by omega);have e0:nu.cap-lo=0:=by omega
   simp only[Nu.part,Wb hc,e0,Nat.zero_mul,Xax];rw[h0]at k8⊢;refine⟨Xbk _,Xbk _,?_,[],[],⟨rfl,rfl⟩,λj v hj=>by simp at hj,Xy.2 ⟨by simp,List.Pairwise.nil⟩,λs hs=>?_⟩
   .obtain⟨vs,T,r1,r2⟩:=g6;exact⟨vs,T,r1,by omega⟩
   .simp at hs;subst hs
    exactλb o ⟨_,r1,r2⟩=>Wg r2 (by omega)
  .simp only[Nu.part,Wa hc,g2];have hle:CS.le (rng b (nu.off+lo*e.size) ((nu.cap-lo)*e.size)) (rng b nu.off (nu.cap*e.size)):=λb' o ⟨r0,r1,r2⟩=>⟨r0,by omega,by omega⟩;refine⟨by omega,by omega,?_,d2,q2,k8,?_,?_,λs hs=>?_⟩
   .grind
   .rw[k1,k5,List.append_assoc]at g8;exact(g8.right hl).left
   .obtain⟨r1,r2⟩:=Xy.1 g9;rw[k2,k6,Xu,Xu]at r1 r2;refine Xy.2 ⟨λs hs=>(r1 s (Xk _ (Xg _ hs))).mono hle (λ_ _ hh=>hh),?_⟩
    grind
   .rcases Xr.1 hs with rfl|hs
    .exactλb' o hh=>ue _ (Xh ..) b' o (hle b' o hh)
    simp_all
theorem Wm9{e:Ty}{nu:Nu}{xs:List e.den}{S:CS}{lo hi:Nat}(h:OwnL w (TyRel G w e) e.size nu xs S)(h1:lo<=hi)(h2:hi<=nu.len):OwnL w (TyRel G w e) e.size (nu.part lo hi) (List.drop lo (List.take hi xs)) S:=Wo7 h h1 h2
theorem Wp2(hg:GLe G G'){e:Ty}{nu np:Nu}{xs:List e.den}{i:Nat}{S S1:CS}(h:WhM w (TyRel G w e) e.size nu np xs i S){d:e.ro.den}{vs:List Value}(hd:Enc G' e.ro d vs)
  {b:Nat} (hb:np.blk=some b) (hm:Mem w b np.off vs) (hr:CS.le (rng b np.off e.size) S1) (f1:Froz G' w S) (f2:Froz G' w S1):Wjj G' (Enc G' e.ro) ((WcE e xs).set i d) nu.hdr:=by
 obtain⟨h1,h2,h3,b',h4,h5,h6,h7,h8,h9,c1,c2,p1,p2,g1,g2,g3,g4,g5,g6⟩:=h;rw[hb]at h5;injection h5 with h5;subst h5;have bc:=Wba (λx c q hx=>WF e x c q hx) _ _ _ g1;have gw:=Wba (λx c q hx=>WF e x c q hx) _ _ _ g2;rw[Xba,Xca (by omega)]at bc;rw[Xdx]at gw;have az:=Enc_len _ _ _ hd;rw[WbL]at az;have e1:(i+1)*e.size=i*e.size+e.size:=Xbv i e.size;rw[h6]at hm hr;have gA:=g6 _ (Xh ..);have gC:=g6 _ (Xe _ (Xh ..));have gp:∀p∈p1++p2,Froz G' w p.fp:=λp hp=>f1.mono (g6 _ (Xe _ (Xe _ (Xap hp))));have kz:(xs.length-(i+1))*e.size<=(nu.cap-(i+1))*e.size:=Xbf _ (by omega);have E1:=WlG (λx c p hp hx=>Wd0 hg e x c p hp hx) _ _ _ (λq hq=>gp q (Xk _ hq)) g1;have E2:=WlG (λx c p hp hx=>Wd0 hg e x c p hp hx) _ _ _ (λq hq=>gp q (Xg _ hq)) g2;rw[Wqy]at E1;rw[WqD]at E2;have hlen:(WcE e xs).length=xs.length:=Wgf e xs;have eset:(WcE e xs).set i d=(WcE e xs).take i++(d::(WcE e xs).drop (i+1)):=by
  rw[Xeh,Wb (by omega)]
 unfold Nu.hdr;simp only[h4];refine .inr (.inl ⟨b,nu.off,nu.cap,c1++(vs++c2),by rw[List.length_set,hlen,h1],by grind,h8,?_,λj v hj=>?_⟩)
 .rw[eset];exact Wd9 _ _ _ _ E1 ⟨vs,c2,rfl,hd,E2⟩
 .have s1:WfG G' b nu.off c1:=g3.stored (n:=i*e.size) (by omega) (f1.mono gA);have s2:WfG G' b (nu.off+i*e.size) vs:=hm.stored (n:=e.size) (by omega) (f2.mono hr);have s3:WfG G' b (nu.off+(i+1)*e.size) c2:=g4.stored (n:=(nu.cap-(i+1))*e.size) (by omega) (f1.mono gC);rw[Xav]at hj;split at hj
  .exact s1 j v hj
  .rename_i fy;rw[Xav]at hj;split at hj
   .have:=s2 _ v hj
    grind
   .have:=s3 _ v hj
    grind
theorem WqE{α:Type}{R:α->List Value->Prop}{n:Nat}(hR:∀x c,R x c->c.length=n){nu:Nu}{xs:List α}(h:Wjj G R xs nu.hdr)(hlen:xs.length=nu.len)(hn:nu.esz=n){lo hi:Nat}(h1:lo<=hi)(h2:hi<=nu.len)(h3:nu.blk=none->hi=0)(gZ:nu.blk≠none->nu.len<=nu.cap/\nu.cap<=maxLen):
  Wjj G R ((xs.take hi).drop lo) (nu.vhdr lo hi):=by
 unfold Nu.hdr at h;unfold Nu.vhdr;cases hb:nu.blk with
 |none=>
  have:=h3 hb;refine .inl ⟨rfl,Xaa (by simp;omega)⟩
 |some b=>
  obtain⟨m7,fb⟩:=gZ (by grind);simp only[hb]at h;have hle:((xs.take hi).drop lo).length=hi-lo:=by simp;omega
  by_cases h0:hi-lo=0
  .refine .inr (.inr ⟨_,nu.cap-lo,by rw[h0],Xaa (by omega)⟩)
  .rcases h with⟨e,_⟩|⟨b',off,cap,cs,e,g1,g2,g3,g4⟩|⟨a,cap,e,bH⟩
   .cases e
   .injection e with e1 e2 e3;injection e1 with e1;injection e1 with e4 e5 e6;subst e4 e5 e3;rw[Wa (by omega)];refine .inr (.inl ⟨b,nu.off+lo*nu.esz,nu.cap-lo,(cs.take (hi*n)).drop (lo*n),by rw[hle],by omega,by omega,Weu hR _ _ lo (WeA hR _ _ hi g3),λj v hj=>?_⟩);rw[Xbm,Xbl]at hj;split at hj
    .rw[Xay,hn];exact g4 _ _ hj
    grind
   simp_all
def Leaf(ν:Nat->Nu)(t:Ty)(cs:List Cell)(ns:List Pc):Prop:=∀(lf k r:Nat),WbK t lf=some k->cs[k]?=some (.own r)->∃pc,ns[lf]?=some pc/\pc.nu=ν r
theorem We6:∀(t:Ty) (lf k:Nat),WbK t lf=some k->lf<t.owns/\k<t.size
 | .own _,lf,k,h=>by
  cases lf with
  |zero=>simp[WbK]at h;subst h;exact⟨Nat.one_pos,Nat.one_pos⟩
  |succ n=>simp[WbK]at h
 | .prod a b,lf,k,h=>by
  simp only[WbK]at h;split at h
  .obtain⟨h1,h2⟩:=We6 a lf k h;exact⟨by show _<a.owns+b.owns;omega,by show _<a.size+b.size;omega⟩
  .obtain⟨j,hj,rfl⟩:=Xv.1 h;obtain⟨h1,h2⟩:=We6 b _ j hj;exact⟨by show _<a.owns+b.owns;omega,by show _<a.size+b.size;omega⟩
 | .int _,_,_,h=>by simp[WbK]at h
 | .bool,_,_,h=>by simp[WbK]at h
 | .str,_,_,h=>by simp[WbK]at h
 | .slice _,_,_,h=>by simp[WbK]at h
theorem Leaf.none{ν:Nat->Nu}{t:Ty}{cs:List Cell}{ns:List Pc}(h:t.owns=0):Leaf ν t cs ns:=λlf k r h1 h2=>by
 have:=(We6 t lf k h1).1;omega
theorem WwU{ν:Nat->Nu}{e:Ty}{c:Cell}{ns:List Pc}(hc:∀r,c≠ .own r):Leaf ν (.own e) [c] ns:=λlf k r k1 k2=>by
 grind
theorem Wak(h:HR w0 F G ν φ objs nx w)(hg:GLe G G'):∀(t:Ty) (cs:List Cell) (vs:List Value) (d:t.den) (m l:List Nat),CellsRel G ν nx cs vs->Lent G' w φ objs l->m.Nodup->
  WaB t cs objs=some (d,m,l)->∃ns,TyRel G' w t d vs ns/\Sep (ns.map Pc.fp)/\(∀p∈ns,CS.le p.fp (FromL φ objs m))/\(∀i∈m,Live objs i)/\(∀i∈l,Live objs i)/\Leaf ν t cs ns
 | .prod a b,cs,vs,d,m,l,hc,hl,aP,hf=>by
  simp only[WaB]at hf;split at hf
  .rename_i x m1 l1 y m2 l2 h1 h2;simp only[Option.some.injEq,Prod.mk.injEq]at hf;obtain⟨rfl,rfl,rfl⟩:=hf;obtain⟨n1,n2,n3⟩:=List.nodup_append.1 aP;obtain⟨q1,h3,s1,h4,h5,rG,f1⟩:=Wak h hg a _ (vs.take a.size) x m1 l1 (hc.take _) (hl.mono (by simp_all)) n1 h1;obtain⟨q2,h6,s2,h7,h8,nZ,f2⟩:=Wak h hg b _ (vs.drop a.size) y m2 l2 (hc.drop _) (hl.mono (by simp_all)) n2 h2;refine⟨q1++q2,⟨_,_,q1,q2,(List.take_append_drop a.size vs).symm,rfl,h3,h6⟩,?_,?_,?_,?_,?_⟩
   .rw[Xu];refine WnJ s1 s2 (A:=FromL φ objs m1) (B:=FromL φ objs m2) (λs hs=>?_) (λs hs=>?_) (FromL.disj h (λi hi hj=>n3 i hi i hj rfl))
    .grind
    grind
   .intro p hp b o hh;rcases Xm.1 hp with hp|hp
    .exact FromL.mono (λi hi=>Xk _ hi) b o (h4 p hp b o hh)
    .exact FromL.mono (λi hi=>Xg _ hi) b o (h7 p hp b o hh)
   .grind
   .grind
   .intro lf k r k1 k2;have hq:=W9 _ _ _ _ h3;simp only[WbK]at k1;split at k1
    .rename_i hlt;obtain⟨_,hk⟩:=We6 a lf k k1;obtain⟨pc,k3,k4⟩:=f1 lf k r k1 (by simp_all)
     grind
    .obtain⟨j,hj,rfl⟩:=Xv.1 k1;obtain⟨pc,k3,k4⟩:=f2 _ j r hj (by simp_all)
     grind
  grind
 | .own e,cs,vs,d,m,l,hc,hl,aP,hf=>by
  simp only[WaB]at hf;split at hf
  .rename_i id;obtain⟨v,rfl,⟨_,hv⟩,_⟩:=hc.single;subst hv;have m9:∀{S:CS},Leaf ν (.own e) [.own id] [⟨ν id,S⟩]:=λ{S} lf k r k1 k2=>by
    cases lf with
    |zero=>
     simp[WbK]at k1;simp_all
    |succ n=>simp[WbK]at k1
   obtain⟨⟨ys,m'⟩,ho,hf⟩:=Xv.1 hf;simp only[Prod.mk.injEq]at hf;obtain⟨rfl,rfl,rfl⟩:=hf;unfold Wul at ho;split at ho
   .rename_i e' xs aS;obtain⟨zs,bq,ho⟩:=Xv.1 ho;have ho:=Prod.mk.inj ho;obtain⟨rfl,rfl⟩:=ho;obtain⟨he,hy⟩:=WaC bq;subst he;simp only at hy;subst hy;have az:Live objs id:=⟨_,aS,by simp⟩;have au:OwnL w (TyRel G w e') e'.size (ν id) xs (φ id):=h.ob _ _ aS;refine⟨[⟨ν id,φ id⟩],⟨_,rfl,rfl,Wc5 hg (Same.refl _ w) (λ_ _ hh=>hh) au⟩,Xbc _ _,?_,?_,by simp,m9⟩
    .simp_all [FromL.one]
    simp_all
   .rename_i e' xs i p aS;split at ho
    .rename_i zs cs' bq ge;split at ho
     .rename_i d' m'' mZ;simp only[Option.some.injEq,Prod.mk.injEq]at ho;obtain⟨rfl,rfl⟩:=ho;obtain⟨he,hy⟩:=WaC bq;subst he;simp only at hy;subst hy;obtain⟨n1,n2⟩:=Xai.1 aP;obtain⟨n3,n4⟩:=Xai.1 n2;have az:Live objs id:=⟨_,aS,by simp⟩;have eD:Live objs p:=⟨_,ge,by simp⟩;obtain⟨lX,hole⟩:p<nx/\WhM w (TyRel G w e') e'.size (ν id) (ν p) xs i (φ id):=h.ob _ _ aS;obtain⟨b,us,hb,hrow,hmem,bB,eO⟩:WcG G ν nx w p (φ p) (.box cs'):=h.ob _ _ ge;obtain⟨ns,t1,t2,t3,t4,_,_⟩:=Wak h hg e' cs' us d' m'' [] bB (λi hi=>by simp at hi) n4 mZ;have cI:=WF _ _ _ _ t1;have rH:=WjA hg (Same.refl _ w) (λ_ _ hh=>hh) hole;rw[←bB.1,cI]at eO;have hne:id≠p:=λe=>n1 (by simp_all);refine⟨[⟨ν id,FromL φ objs (id::p::m'')⟩],⟨_,rfl,rfl,Wpp rH t1 hb hmem eO t2 t3 ?_ ?_ ?_ ?_ ?_ ?_⟩,Xbc _ _,?_,?_,by simp,m9⟩
      .exactλb o h1 h2=>hne (h.inj id p b o az eD h1 h2)
      .exactλb o h1 ⟨j,hj,h2,h3⟩=>by
        have:=h.inj id j b o az h2 h1 h3;simp_all
      .exactλb o h1 ⟨j,hj,h2,h3⟩=>by
        have:=h.inj p j b o eD h2 h1 h3;simp_all
      .simp_all [FromL.one]
      .simp_all [FromL.one]
      .grind [FromL.mono,Xe]
      .intro p hp;simp at hp;subst hp;exactλ_ _ hh=>hh
      simp_all
     grind
    grind
   grind
  .rename_i id lo hi;obtain⟨v,rfl,⟨_,g1,g2,g3,hv⟩,_⟩:=hc.single;subst hv;split at hf
   .rename_i e' xs aS;obtain⟨zs,bq,hf⟩:=Xv.1 hf;have hf:=And.intro (Prod.mk.inj hf).1 (Prod.mk.inj (Prod.mk.inj hf).2);obtain⟨rfl,rfl,rfl⟩:=hf;obtain⟨he,hy⟩:=WaC bq;subst he;simp only at hy;subst hy;have az:Live objs id:=⟨_,aS,by simp⟩;have au:OwnL w (TyRel G w e') e'.size (ν id) xs (φ id):=h.ob _ _ aS;refine⟨[⟨(ν id).part lo hi,φ id⟩],⟨_,rfl,by rw[Wku],Wm9 (Wc5 hg (Same.refl _ w) (λ_ _ hh=>hh) au) g1 g2⟩,Xbc _ _,?_,?_,by simp,WwU (by simp_all)⟩
    .simp_all [FromL.one]
    simp_all
   grind
  .simp only[Option.some.injEq,Prod.mk.injEq]at hf;obtain⟨rfl,rfl,rfl⟩:=hf;obtain⟨v,rfl,hv,_⟩:=hc.single;simp only[CellRel]at hv;subst hv;exact⟨[⟨⟨none,0,0,0,e.size⟩,λ_ _=>False⟩],⟨_,rfl,rfl,rfl,rfl,rfl⟩,Xbc _ _,λp hp b o hh=>by simp_all,by simp,by simp,WwU (by simp_all)⟩
  grind
 | .slice e,cs,vs,d,m,l,hc,hl,aP,hf=>by
  simp only[WaB]at hf;split at hf
  .rename_i id;obtain⟨v,rfl,⟨_,hv⟩,_⟩:=hc.single;subst hv;obtain⟨⟨ys,l'⟩,ho,hf⟩:=Xv.1 hf;simp only[Prod.mk.injEq]at hf;obtain⟨rfl,rfl,rfl⟩:=hf;unfold WuX at ho;split at ho
   .rename_i e' xs aS;obtain⟨zs,bq,ho⟩:=Xv.1 ho;have ho:=Prod.mk.inj ho;obtain⟨rfl,rfl⟩:=ho;obtain⟨he,hy⟩:=WaC bq;subst he;simp only at hy;subst hy;have az:Live objs id:=⟨_,aS,by simp⟩;have au:OwnL w (TyRel G w e') e'.size (ν id) xs (φ id):=h.ob _ _ aS;refine⟨[],⟨rfl,_,rfl,Wja hg (hl id (by simp) az) au⟩,List.Pairwise.nil,by simp,by simp,?_,Leaf.none rfl⟩;simp_all
   .rename_i e' xs i p aS;split at ho
    .rename_i zs cs' bq ge;split at ho
     .rename_i d' l'' mZ;simp only[Option.some.injEq,Prod.mk.injEq]at ho;obtain⟨rfl,rfl⟩:=ho;obtain⟨he,hy⟩:=WaC bq;subst he;simp only at hy;subst hy;have az:Live objs id:=⟨_,aS,by simp⟩;have eD:Live objs p:=⟨_,ge,by simp⟩;obtain⟨lX,hole⟩:p<nx/\WhM w (TyRel G w e') e'.size (ν id) (ν p) xs i (φ id):=h.ob _ _ aS;obtain⟨b,us,hb,hrow,hmem,bB,eO⟩:WcG G ν nx w p (φ p) (.box cs'):=h.ob _ _ ge;obtain⟨ns,t1,t2,t3,t4,t5,_⟩:=Wak h hg e'.ro cs' us d' [] l'' bB (hl.mono (λi hi=>Xe _ (Xe _ hi))) Xdf mZ;obtain⟨t6,_⟩:=(Wbi e'.ro d' us ns (Woi e')).1 t1;have cI:=Enc_len _ _ _ t6;rw[WbL]at cI;rw[←bB.1,cI]at eO;refine⟨[],⟨rfl,_,rfl,Wp2 hg hole t6 hb hmem eO (hl id (by simp) az) (hl p (by simp) eD)⟩,List.Pairwise.nil,by simp,by simp,?_,Leaf.none rfl⟩;simp_all
     grind
    grind
   grind
  .rename_i id lo hi;obtain⟨v,rfl,⟨_,g1,g2,g3,hv⟩,_⟩:=hc.single;subst hv;split at hf
   .rename_i e' xs aS;obtain⟨zs,bq,hf⟩:=Xv.1 hf;have hf:=And.intro (Prod.mk.inj hf).1 (Prod.mk.inj (Prod.mk.inj hf).2);obtain⟨rfl,rfl,rfl⟩:=hf;obtain⟨he,hy⟩:=WaC bq;subst he;simp only at hy;subst hy;have az:Live objs id:=⟨_,aS,by simp⟩;have au:OwnL w (TyRel G w e') e'.size (ν id) xs (φ id):=h.ob _ _ aS;have hsl:=Wja hg (hl id (by simp) az) au;refine⟨[],⟨rfl,_,rfl,?_⟩,List.Pairwise.nil,by simp,by simp,?_,Leaf.none rfl⟩
    .refine WqE (n:=e'.size) (λx c hc=>by grind [WbL,Enc_len]) hsl (by rw[Wgf];exact au.1) au.2.1 g1 g2 g3 (λhb=>?_);cases uU:(ν id).blk with
     |none=>simp_all
     |some b=>
      have:=au.2.2;simp only[uU]at this;exact⟨by rw[←au.1];omega,this.2.1⟩
    simp_all
   grind
  .simp only[Option.some.injEq,Prod.mk.injEq]at hf;obtain⟨rfl,rfl,rfl⟩:=hf;obtain⟨v,rfl,hv,_⟩:=hc.single;simp only[CellRel]at hv;subst hv;exact⟨[],⟨rfl,_,rfl,.inl ⟨rfl,rfl⟩⟩,List.Pairwise.nil,by simp,by simp,by simp,Leaf.none rfl⟩
  .rename_i c _ _ _;cases eC:Wjm (.slice e) c with
   |none=>simp_all
   |some x=>
    simp only[eC,Xbx,Option.some.injEq,Prod.mk.injEq]at hf;obtain⟨rfl,rfl,rfl⟩:=hf;obtain⟨v,rfl,hv,_⟩:=hc.single;exact⟨[],⟨rfl,WgA hg hv eC⟩,List.Pairwise.nil,by simp,by simp,by simp,Leaf.none rfl⟩
  grind
 | .int k,cs,vs,d,m,l,hc,hl,aP,hf=>by
  simp only[WaB]at hf;split at hf
  .rename_i c;cases eC:Wjm (.int k) c with
   |none=>simp_all
   |some x=>
    simp only[eC,Xbx,Option.some.injEq,Prod.mk.injEq]at hf;obtain⟨rfl,rfl,rfl⟩:=hf;obtain⟨v,rfl,hv,_⟩:=hc.single;exact⟨[],⟨rfl,WgA hg hv eC⟩,List.Pairwise.nil,by simp,by simp,by simp,Leaf.none rfl⟩
  grind
 | .bool,cs,vs,d,m,l,hc,hl,aP,hf=>by
  simp only[WaB]at hf;split at hf
  .rename_i c;cases eC:Wjm .bool c with
   |none=>simp_all
   |some x=>
    simp only[eC,Xbx,Option.some.injEq,Prod.mk.injEq]at hf;obtain⟨rfl,rfl,rfl⟩:=hf;obtain⟨v,rfl,hv,_⟩:=hc.single;exact⟨[],⟨rfl,WgA hg hv eC⟩,List.Pairwise.nil,by simp,by simp,by simp,Leaf.none rfl⟩
  grind
 | .str,cs,vs,d,m,l,hc,hl,aP,hf=>by
  simp only[WaB]at hf;split at hf
  .rename_i c;cases eC:Wjm .str c with
   |none=>simp_all
   |some x=>
    simp only[eC,Xbx,Option.some.injEq,Prod.mk.injEq]at hf;obtain⟨rfl,rfl,rfl⟩:=hf;obtain⟨v,rfl,hv,_⟩:=hc.single;exact⟨[],⟨rfl,WgA hg hv eC⟩,List.Pairwise.nil,by simp,by simp,by simp,Leaf.none rfl⟩
  grind
theorem WmS(h:HRel w0 F G ν objs nx w){t:Ty}{cs:List Cell}{vs:List Value}{d:t.den}(hc:CellsRel G ν nx cs vs)(ht:t.data=true)(hf:WaB t cs objs=some (d,[],[])):Enc G t d vs:=by
 obtain⟨φ,h⟩:=h;obtain⟨ns,h1,_⟩:=Wak (G':=G) h (λ_ _ _ hh=>hh) t cs vs d [] [] hc (λid bz=>by simp at bz) Xdf hf
 grind [Wbi]
end
end Go.Sx
namespace Go.Sx
set_option linter.unusedVariables false
set_option linter.unusedSimpArgs false
section
variable{w0:World}{F:CS}{nt:Slots}{G0 G G':GH}{ν ν':Nat->Nu}{φ:Nat->CS}{objs objs':Waj}{nx ai:Nat}{st af:St}{a:Act}{w w':World}{P:Program}{T:Tab}{Γ:Ctx}
theorem Whe(i:Nat):∀(l:List Nat),Wcz i l=true↔i∈l
 | []=>by simp[Wcz]
 |j::l=>by
  simp only[Wcz,Bool.or_eq_true,Whe i l,Xr];simp_all
open Classical in
noncomputable def Wq4(G:GH)(w:World)(S:CS):GH:=λb o=>if S b o then w.cell? ⟨b,o,none⟩else G b o
theorem Wrg{S:CS}{b o:Nat}(h:S b o):Wq4 G w S b o=w.cell? ⟨b,o,none⟩:=by unfold Wq4;rw[Wb h]
theorem Wdm{S:CS}{b o:Nat}(h:¬S b o):Wq4 G w S b o=G b o:=by unfold Wq4;rw[Wa h]
theorem WiX(S:CS):Froz (Wq4 G w S) w S:=λb o v hs hv=>by grind [Wrg]
theorem HR.addG_le(h:HR w0 F G ν φ objs nx w)(l:List Nat):GLe G (Wq4 G w (FromL φ objs l)):=λb o v hv=>by
 by_cases hs:FromL φ objs l b o
 .obtain⟨i,_,h1,h2⟩:=hs;rw[h.gf i b o h1 h2]at hv;cases hv
 grind [Wdm]
theorem HR.addG_w(h:HR w0 F G ν φ objs nx w)(l:List Nat):∀b o v,Wq4 G w (FromL φ objs l) b o=some v->w.cell? ⟨b,o,none⟩=some v:=λb o v hv=>by
 by_cases hs:FromL φ objs l b o
 .grind [Wrg]
 .rw[Wdm hs]at hv;exact h.g b o v hv
theorem HRel.freezeL(h:HRel w0 F G ν objs nx w)(gx:GExt w0.heap.size F G0 G)(l:List Nat):∃G1,GLe G G1/\HRel w0 F G1 ν (Sx.kill objs l) nx w/\GExt w0.heap.size F G0 G1/\
  ∀id∈l,∀(e:Ty) (xs:List e.den),look objs id=some (.arr e xs)->Wjj G1 (Enc G1 e.ro) (WcE e xs) (ν id).hdr:=by
 obtain⟨φ,h⟩:=h;have gy:=h.addG_le l;refine⟨Wq4 G w (FromL φ objs l),gy,⟨φ,?_⟩,⟨λb o v hv=>gy b o v (gx.le b o v hv),λb o v hv=>?_⟩,λid bz e xs ho=>?_⟩
 .exact{
   g:=h.addG_w l
   ob:=λj ob hj=>by
    by_cases hd:ob= .dead
    .subst hd;trivial
    .obtain⟨hj,hn⟩:=WeT l j ob hj hd;exact WdF gy (Same.refl _ w) (λ_ _ hh=>hh) (λ_ _=>rfl) (Xn _) (h.lt j ⟨ob,hj,hd⟩) ob (h.ob j ob hj)
   gf:=λj b o hj hp=>by
    obtain⟨hj,hn⟩:=WdK hj;rw[Wdm (λ⟨i,hi,h1,h2⟩=>hn (by rw[h.inj j i b o hj h1 hp h2];exact hi))];exact h.gf j b o hj hp
   inj:=λj j' b o hj hj'=>h.inj j j' b o (WdK hj).1 (WdK hj').1
   own:=λj b o hj=>h.own j b o (WdK hj).1
   lt:=λj hj=>h.lt j (WdK hj).1
   bl:=λj b o hj=>h.bl j b o (WdK hj).1
   le:=h.le}
 .by_cases hs:FromL φ objs l b o
  .obtain⟨i,_,h1,h2⟩:=hs;exact .inr (h.own i b o h1 h2)
  .rw[Wdm hs]at hv;exact gx.new b o v hv
 .exact Wja gy ((WiX _).mono (FromL.one bz ⟨_,ho,by simp⟩)) (h.ob _ _ ho)
structure Frz(w0:World)(F:CS)(nt:Slots)(G0 G:GH)(ν:Nat->Nu)(st:St)(l:List Nat)(a:Act)(w:World)(G1:GH):Prop where
 le:GLe G G1
 rel:Rel w0 F nt G0 G1 ν {env:=st.env,objs:=kill st.objs l,nx:=st.nx} a w
 sl:∀id∈l,∀(e:Ty) (xs:List e.den),look st.objs id=some (.arr e xs)->Wjj G1 (Enc G1 e.ro) (WcE e xs) (ν id).hdr
theorem Rel.frz(h:Rel w0 F nt G0 G ν st a w)(l:List Nat):∃G1,Frz w0 F nt G0 G ν st l a w G1:=by
 obtain⟨G1,h1,h2,h3,h4⟩:=h.h.freezeL h.gx l;exact⟨G1,h1,h.on h1 (λ_ _=>rfl) (Xn _) h2 h3,h4⟩
theorem Frz.cell{l:List Nat}{G1:GH}(h:Frz w0 F nt G0 G ν st l a w G1):∀(c:Cell) (v:Value),CellRel G ν st.nx c v->CellRel G1 ν st.nx (WkR st.objs l c) v:=by
 have mono:=λc v (hc:CellRel G ν st.nx c v)=>CellRel.mono (G':=G1) (ν':=ν) (ai:=st.nx) h.le (λ_ _=>rfl) (Xn _) c v hc;intro c v hc;cases c with
 |own id=>
  simp only[WkR];cases he:Wcz id l with
  |false=>simp_all
  |true=>
   simp only[Wc];have hm:=(Whe id l).1 he;split
   .rename_i e xs ho;obtain⟨_,hv⟩:=hc;rw[hv];exact⟨_,rfl,h.sl id hm e xs ho⟩
   .trivial
 |vw id lo hi=>exact mono _ v hc
 |val t d=>exact mono _ v hc
 |nils=>exact mono _ v hc
 |aptr id=>exact mono _ v hc
 |ptr id off=>exact mono _ v hc
 |eptr id i off=>exact mono _ v hc
 |rptr t d off=>exact mono _ v hc
 |clos f caps=>exact mono _ v hc
 |junk=>trivial
theorem Frz.val{l:List Nat}{G1:GH}(h:Frz w0 F nt G0 G ν st l a w G1):∀(x:AVal) (v:Value),AValRel G ν st.nx x v->AValRel G1 ν st.nx (Whk st.objs l x) v
 | .s (.one c),v,hx=>⟨h.cell c v hx.1,hx.2⟩
 | .s (.agg cs),v,⟨vs,he,h1,h2⟩=>by
  refine⟨vs,he,by simp[h1],λj c u hc hu=>?_⟩;rw[Xan]at hc;obtain⟨d,hd,rfl⟩:=Xv.1 hc;exact⟨h.cell d u (h2 j d u hd hu).1,(h2 j d u hd hu).2⟩
 | .tup xs,v,hx=>AValRel.mono h.le (λ_ _=>rfl) (Xn _) (.tup xs) v hx
end
end Go.Sx
