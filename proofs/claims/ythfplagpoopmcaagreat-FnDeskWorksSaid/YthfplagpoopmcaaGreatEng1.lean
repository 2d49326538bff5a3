/- The abstract machine, part 1: a reflective interpreter of the program's code over data, with its soundness over the model. -/
import Derived.WalkKit
import Derived.LoopN
import Derived.KernelRfl
import Derived.ProofKit
import Derived.OpenShut
import Derived.JoinedCond
open Nat renaming beq→Xaz,blt→Xfp,succ_mul→Xbl,add_comm→Xcq,add_assoc→Xav,lt_of_lt_of_le→Xba,mul_le_mul_right→Xau,min_eq_left→Xbw,add_zero→Xay,eq_of_beq_eq_true→Xch,add_mul→Xcn,le_refl→Xm,zero_le→Xcb,le_trans→Xcr,le_succ→Xcw,lt_succ_self→Xbo
open List renaming length→Xb,getD→Xc,append→Xt,replicate→Xr,length_append→Xo,length_cons→Xn,drop_drop→Xdg,take_length_add_append→Xet,drop_left→Xfj,getElem?_append→Xan,getElem?_take→Xbg,getElem?_drop→Xbf,mem_append_left→Xj,mem_append_right→Xf,set_eq_take_append_cons_drop→Xdz,getElem?_eq_some_iff→Xz,mem_cons_of_mem→Xe,mem_map_of_mem→Xaj,mem_cons_self→Xh,mem_singleton→Xaf,length_take→Xbe,length_drop→Xdl,pairwise_cons→Xw,getElem?_eq_getElem→Xp,mapM_cons→Xep,map_cons→Xag,getElem?_map→Xai,eq_nil_of_length_eq_zero→Xu,length_map→Xad,map_nil→Xbu,map_toArray→Xdm,mem_map→Xv,mem_cons→Xq,pairwise_append→Xah,mem_append→Xl,map_append→Xy,pairwise_singleton→Xbd,nodup_cons→Xaa,nodup_nil→Xcy
open Bool renaming and_eq_true→Xg
open Option renaming map_some→Xbv,map_eq_some_iff→Xs
open Array renaming getElem?_setIfInBounds_ne→Xeg,length_toList→Xam
namespace Go.Sx
abbrev Wc:=@if_neg
abbrev We:=@if_pos
abbrev Wb:=@decide_eq_true
abbrev Ws:=@decide_eq_false
abbrev Wg:=@decide_eq_true_eq
abbrev Wp:=@decide_eq_false_iff_not
abbrev WN:=@of_decide_eq_true
abbrev Ww:=@absurd
abbrev Wk:=@congrArg
abbrev W9:=@if_true
abbrev Wae:=@if_false
theorem Wa{A:Type}(a b:A):cond true a b=a:=rfl
theorem Wf{A:Type}(a b:A):cond false a b=b:=rfl
inductive Ty where
 |int (k:IntKind)|bool|str|slice (e:Ty)|own (e:Ty)|prod (a b:Ty)
 deriving DecidableEq
def Ty.den:Ty->Type
 | .int _=>Int
 | .bool=>Bool
 | .str=>List UInt8
 | .slice e=>List e.den
 | .own e=>List e.den
 | .prod a b=>a.den×b.den
def Ty.size:Ty->Nat
 | .prod a b=>a.size+b.size
 |_=>1
def Ty.dflt:(t:Ty)->t.den
 | .int _=>(0:Int)
 | .bool=>false
 | .str=>([]:List UInt8)
 | .slice e=>([]:List e.den)
 | .own e=>([]:List e.den)
 | .prod a b=>(a.dflt,b.dflt)
def Ty.noRo:Ty->Bool
 | .slice _=>false
 | .own e=>e.noRo
 | .prod a b=>a.noRo&&b.noRo
 |_=>true
def Ty.ro:Ty->Ty
 | .own e=>.slice e.ro
 | .slice e=>.slice e
 | .prod a b=>.prod a.ro b.ro
 | .int k=>.int k
 | .bool=>.bool
 | .str=>.str
theorem Wde:∀t:Ty,t.ro.den=t.den
 | .own e=>Wk List (Wde e)
 | .slice _=>rfl
 | .prod a b=>by show(a.ro.den×b.ro.den)=(a.den×b.den);rw[Wde a,Wde b]
 | .int _| .bool| .str=>rfl
def Wrb(t:Ty)(d:t.den):t.ro.den:=cast (Wde t).symm d
def WbQ(t:Ty)(l:List t.den):List t.ro.den:=cast (Wk List (Wde t).symm) l
def Wke(t t':Ty)(d:t.den):Option t'.den:=
 if h:t=t' then some (h▸d)else none
def WeM(e e':Ty)(l:List e.den):Option (List e'.den):=
 if h:e=e' then some (h▸l)else none
inductive Cell where
 |val (t:Ty) (d:t.den)
 |nils
 |own (id:Nat)
 |vw (id lo hi:Nat)
 |aptr (id:Nat)
 |ptr (id off:Nat)
 |eptr (id i off:Nat)
 |rptr (t:Ty) (d:t.den) (off:Nat)
 |clos (f:FuncId) (caps:List Nat)
 |junk
inductive AV where
 |one (c:Cell)
 |agg (cs:List Cell)
inductive AVal where
 |s (x:AV)
 |tup (xs:List AV)
inductive Ob where
 |box (cs:List Cell)
 |arr (e:Ty) (xs:List e.den)
 |hole (e:Ty) (xs:List e.den) (i p:Nat)
 |dead
abbrev WZ:=List (Nat×Ob)
structure St where
 env:List (Nat×AVal)
 objs:WZ
 nx:Nat
universe u
def Wj{α:Type u}:List (Nat×α)->Nat->Option α
 | [],_=>none
 |(k,v)::l,i=>match Xaz k i with|true=>some v|false=>Wj l i
abbrev GH:=Nat->Nat->Option Value
abbrev CS:=Nat->Nat->Prop
def CS.disj(A B:CS):Prop:=∀b o,A b o->B b o->False
def CS.le(A B:CS):Prop:=∀b o,A b o->B b o
def rng(b lo n:Nat):CS:=λb' o=>b'=b/\lo<=o/\o<lo+n
def Sep(l:List CS):Prop:=l.Pairwise CS.disj
structure Nu where
 blk:Option Nat
 off:Nat
 len:Nat
 cap:Nat
 esz:Nat
def Nu.hdr(n:Nu):Value:=match n.blk with
 |none=>.slice none 0 0
 |some b=>.slice (some ⟨b,n.off,none⟩) n.len n.cap
def Nu.vhdr(n:Nu)(lo hi:Nat):Value:=match n.blk with
 |none=>.slice none 0 0
 |some b=>.slice (some ⟨b,if n.cap=lo then n.off else n.off+lo*n.esz,none⟩) (hi-lo) (n.cap-lo)
structure Pc where
 nu:Nu
 fp:CS
def Weh(G:GH)(b off:Nat)(cs:List Value):Prop:=∀(j:Nat) (v:Value),cs[j]?=some v->G b (off+j)=some v
def WcT{α:Type}(R:α->List Value->Prop):List α->List Value->Prop
 | [],cs=>cs= []
 |x::l,cs=>∃c1 c2,cs=c1++c2/\R x c1/\WcT R l c2
def WhC{α:Type}(G:GH)(R:α->List Value->Prop)(l:List α)(v:Value):Prop:=
 (v= .slice none 0 0/\l= [])\/
 (∃b off cap cs,v= .slice (some ⟨b,off,none⟩) l.length cap/\l.length<=cap/\cap<=maxLen/\WcT R l cs/\Weh G b off cs)\/
 ∃a cap,v= .slice (some a) 0 cap/\l= []
def Enc(G:GH):(t:Ty)->t.den->List Value->Prop
 | .int k,n,cs=>cs= [.int k n]
 | .bool,b,cs=>cs= [.bool b]
 | .str,s,cs=>cs= [.string ⟨List.toArray s⟩]
 | .slice e,l,cs=>∃v,cs= [v]/\WhC G (Enc G e) l v
 | .own _,_,_=>False
 | .prod a b,d,cs=>∃c1 c2,cs=c1++c2/\Enc G a d.1 c1/\Enc G b d.2 c2
def CellRel(G:GH)(ν:Nat->Nu)(nx:Nat):Cell->Value->Prop
 | .val t d,v=>Enc G t d [v]
 | .nils,v=>v= .slice none 0 0
 | .own id,v=>id<nx/\v=(ν id).hdr
 | .vw id lo hi,v=>id<nx/\lo<=hi/\hi<=(ν id).len/\((ν id).blk=none->hi=0)/\v=(ν id).vhdr lo hi
 | .aptr id,v=>id<nx/\∃b,(ν id).blk=some b/\v= .pointer (some ⟨b,(ν id).off,none⟩)
 | .ptr id off,v=>id<nx/\∃b,(ν id).blk=some b/\v= .pointer (some ⟨b,(ν id).off+off,none⟩)
 | .eptr id i off,v=>id<nx/\i<(ν id).len/\∃b,(ν id).blk=some b/\v= .pointer (some ⟨b,(ν id).off+(i*(ν id).esz+off),none⟩)
 | .rptr t d off,v=>∃b o cs,v= .pointer (some ⟨b,o+off,none⟩)/\Enc G t d cs/\Weh G b o cs
 | .clos f caps,v=>∃vs:List Value,v= .func (.func f) #[] vs.toArray/\vs.length=caps.length/\
   ∀(j id:Nat) (u:Value),caps[j]?=some id->vs[j]?=some u->id<nx/\u.oneCell'=true/\∃b,(ν id).blk=some b/\u= .pointer (some ⟨b,(ν id).off+0,none⟩)
 | .junk,_=>True
def CellsRel(G:GH)(ν:Nat->Nu)(nx:Nat)(cs:List Cell)(vs:List Value):Prop:=
 vs.length=cs.length/\∀(j:Nat) (c:Cell) (v:Value),cs[j]?=some c->vs[j]?=some v->CellRel G ν nx c v/\v.oneCell'=true
def AvRel(G:GH)(ν:Nat->Nu)(nx:Nat):AV->Value->Prop
 | .one c,v=>CellRel G ν nx c v/\v.oneCell'=true
 | .agg cs,v=>∃vs:List Value,v= .agg vs.toArray/\CellsRel G ν nx cs vs
def Wpn(G:GH)(ν:Nat->Nu)(nx:Nat)(xs:List AV)(vs:List Value):Prop:=
 vs.length=xs.length/\∀(j:Nat) (x:AV) (v:Value),xs[j]?=some x->vs[j]?=some v->AvRel G ν nx x v
def AValRel(G:GH)(ν:Nat->Nu)(nx:Nat):AVal->Value->Prop
 | .s x,v=>AvRel G ν nx x v
 | .tup xs,v=>∃vs:List Value,v= .tuple vs.toArray/\Wpn G ν nx xs vs
def Row(w:World)(b n:Nat):Prop:=∃vs T,w.heap[b]?=some (.cells vs T (0,0))/\n<=vs.size
def Mem(w:World)(b o:Nat)(vs:List Value):Prop:=∀(j:Nat) (v:Value),vs[j]?=some v->w.cell? ⟨b,o+j,none⟩=some v
def WdQ{α:Type}(R:α->List Value->List Pc->Prop):List α->List Value->List Pc->Prop
 | [],cs,ps=>cs= []/\ps= []
 |x::l,cs,ps=>∃c1 c2 p1 p2,cs=c1++c2/\ps=p1++p2/\R x c1 p1/\WdQ R l c2 p2
def Wa9{α:Type}(w:World)(R:α->List Value->List Pc->Prop)(n:Nat)(nu:Nu)(xs:List α)(S:CS):Prop:=
 xs.length=nu.len/\nu.esz=n/\match nu.blk with
  |none=>xs= []
  |some b=>xs.length<=nu.cap/\nu.cap<=maxLen/\Row w b (nu.off+nu.cap*n)/\∃cs ps,WdQ R xs cs ps/\Mem w b nu.off cs/\
    Sep (rng b nu.off (nu.cap*n)::ps.map Pc.fp)/\∀s∈rng b nu.off (nu.cap*n)::ps.map Pc.fp,CS.le s S
def Wm(G:GH)(w:World):(t:Ty)->t.den->List Value->List Pc->Prop
 | .own e,xs,vs,ns=>∃p:Pc,ns= [p]/\vs= [p.nu.hdr]/\Wa9 w (Wm G w e) e.size p.nu xs p.fp
 | .prod a b,d,vs,ns=>∃v1 v2 n1 n2,vs=v1++v2/\ns=n1++n2/\Wm G w a d.1 v1 n1/\Wm G w b d.2 v2 n2
 | .int k,d,vs,ns=>ns= []/\Enc G (.int k) d vs
 | .bool,d,vs,ns=>ns= []/\Enc G .bool d vs
 | .str,d,vs,ns=>ns= []/\Enc G .str d vs
 | .slice e,d,vs,ns=>ns= []/\Enc G (.slice e) d vs
def Wf4{α:Type}(w:World)(R:α->List Value->List Pc->Prop)(n:Nat)(nu np:Nu)(xs:List α)(i:Nat)(S:CS):Prop:=
 xs.length=nu.len/\nu.esz=n/\i<xs.length/\∃b,nu.blk=some b/\np.blk=some b/\np.off=nu.off+i*n/\xs.length<=nu.cap/\nu.cap<=maxLen/\Row w b (nu.off+nu.cap*n)/\
  ∃c1 c2 p1 p2,WdQ R (xs.take i) c1 p1/\WdQ R (xs.drop (i+1)) c2 p2/\Mem w b nu.off c1/\Mem w b (nu.off+(i+1)*n) c2/\
   Sep (rng b nu.off (i*n)::rng b (nu.off+(i+1)*n) ((nu.cap-(i+1))*n)::(p1++p2).map Pc.fp)/\
   ∀s∈rng b nu.off (i*n)::rng b (nu.off+(i+1)*n) ((nu.cap-(i+1))*n)::(p1++p2).map Pc.fp,CS.le s S
def WbR(G:GH)(ν:Nat->Nu)(nx:Nat)(w:World)(id:Nat)(S:CS):Ob->Prop
 | .box cs=>∃b vs,(ν id).blk=some b/\Row w b ((ν id).off+cs.length)/\Mem w b (ν id).off vs/\CellsRel G ν nx cs vs/\CS.le (rng b (ν id).off cs.length) S
 | .arr e xs=>Wa9 w (Wm G w e) e.size (ν id) xs S
 | .hole e xs i p=>p<nx/\Wf4 w (Wm G w e) e.size (ν id) (ν p) xs i S
 | .dead=>True
def Live(objs:WZ)(id:Nat):Prop:=∃ob,Wj objs id=some ob/\ob≠ .dead
structure WLe(F:CS)(w w':World):Prop where
 size:w.heap.size<=w'.heap.size
 row:∀(b:Nat) (vs:Array Value) (T:TypeId),w.heap[b]?=some (Obj.cells vs T (0,0))->∃aj:Array Value,w'.heap[b]?=some (Obj.cells aj T (0,0))/\aj.size=vs.size
 cell:∀(b o:Nat),b<w.heap.size->¬F b o->w'.cell? ⟨b,o,none⟩=w.cell? ⟨b,o,none⟩
 whole:∀(b:Nat),b<w.heap.size->(∀o,¬F b o)->w'.heap[b]?=w.heap[b]?
 os:w'.os=w.os
 output:w'.output=w.output
 tape:w'.tape=w.tape
structure HR(w0:World)(F:CS)(G:GH)(ν:Nat->Nu)(φ:Nat->CS)(objs:WZ)(nx:Nat)(w:World):Prop where
 g:∀b o v,G b o=some v->w.cell? ⟨b,o,none⟩=some v
 ob:∀id ob,Wj objs id=some ob->WbR G ν nx w id (φ id) ob
 gf:∀id b o,Live objs id->φ id b o->G b o=none
 inj:∀id bw b o,Live objs id->Live objs bw->φ id b o->φ bw b o->id=bw
 own:∀id b o,Live objs id->φ id b o->w0.heap.size<=b\/F b o
 lt:∀id,Live objs id->id<nx
 bl:∀id b o,Live objs id->φ id b o->b<w.heap.size
 le:WLe F w0 w
def HRel(w0:World)(F:CS)(G:GH)(ν:Nat->Nu)(objs:WZ)(nx:Nat)(w:World):Prop:=∃φ,HR w0 F G ν φ objs nx w
structure GExt(B:Nat)(F:CS)(G G':GH):Prop where
 le:∀b o v,G b o=some v->G' b o=some v
 new:∀b o v,G' b o=some v->G b o=some v\/B<=b\/F b o
structure Slots where
 n:Nat
 kept:List (Nat×Value)
 ex:AVal->Value->Prop
def Slots.Ok(s:Slots)(d:Nat):Prop:=d<s.n/\∀p∈s.kept,p.1≠d
structure Rel(w0:World)(F:CS)(nt:Slots)(G0:GH)(G:GH)(ν:Nat->Nu)(st:St)(a:Act)(w:World):Prop where
 defers:a.defers= []
 ntm:a.tmps.size=nt.n
 par:∀p∈nt.kept,a.tmps[p.1]?=some p.2
 env:∀i x,Wj st.env i=some x->∃v,a.tmps[i]?=some v/\AValRel G ν st.nx x v
 h:HRel w0 F G ν st.objs st.nx w
 gx:GExt w0.heap.size F G0 G
 ex:∀x v,nt.ex x v->AValRel G ν st.nx x v
end Go.Sx
namespace Go.Sx
set_option linter.unusedVariables false
inductive Shape where
 |basic|slice (e:TypeId)|struct (fs:List (Nat×TypeId))|ptr (e:TypeId)|arr (n:Nat) (e:TypeId)
structure TE where
 ty:Ty
 agg:Bool
 shape:Shape
abbrev Tab:=List (TypeId×TE)
def TE.plain(te:TE):Bool:=match te.shape with
 | .arr _ _=>false
 |_=>true
def Wl(k:IntKind)(a b:Int):Int:=k.wrap (a+b)
def WC(k:IntKind)(a b:Int):Int:=k.wrap (a-b)
def Wp4(k:IntKind)(a b:Int):Int:=k.wrap (a*b)
def Woi(k:IntKind)(a b:Int):Int:=k.wrap (a.tdiv b)
def Wfi(a b:Int):Int:=a.tmod b
def WtA(k:IntKind)(a b:Int):Int:=k.wrap (BitVec.ofInt k.bits a&&&BitVec.ofInt k.bits b).toNat
def ior(k:IntKind)(a b:Int):Int:=k.wrap (BitVec.ofInt k.bits a|||BitVec.ofInt k.bits b).toNat
def Wtv(k:IntKind)(a b:Int):Int:=k.wrap (BitVec.ofInt k.bits a^^^BitVec.ofInt k.bits b).toNat
def Wtb(k:IntKind)(a b:Int):Int:=k.wrap (BitVec.ofInt k.bits a&&& ~~~BitVec.ofInt k.bits b).toNat
def Wtd(k:IntKind)(a b:Int):Int:=k.wrap (a*2^(min b.toNat k.bits))
def Ws4(k:IntKind)(a b:Int):Int:=a.fdiv (2^(min b.toNat k.bits))
def Wdh(a b:List UInt8):Bool:=!decide (((a.length+b.length:Nat):Int)>IntKind.i64.max)
def Wh{α:Type}(l:List α):Int:=(l.length:Int)
def inb(i:Int)(n:Nat):Bool:=decide (0<=i)&&decide (i<(n:Int))
def WV(n:Nat):Bool:=decide (n<=1073741824)
def WhJ(l:List Int):List UInt8:=l.map λn=>UInt8.ofNat n.toNat
def ieq(a b:Int):Bool:=a==b
def beq(a b:Bool):Bool:=a==b
def seq(a b:List UInt8):Bool:=a==b
def inz(b:Int):Bool:=!decide (b=0)
def inn(b:Int):Bool:=!decide (b<0)
def one(t:Ty)(d:t.den):AVal:=.s (.one (.val t d))
def Ws5(op:BinOp)(k:IntKind)(a b:Int):Option (Bool×AVal):=
 match op with
 | .add=>some (true,one (.int k) (Wl k a b))
 | .sub=>some (true,one (.int k) (WC k a b))
 | .mul=>some (true,one (.int k) (Wp4 k a b))
 | .quo=>some (inz b,one (.int k) (Woi k a b))
 | .rem=>some (inz b,one (.int k) (Wfi a b))
 | .and=>some (true,one (.int k) (WtA k a b))
 | .or=>some (true,one (.int k) (ior k a b))
 | .xor=>some (true,one (.int k) (Wtv k a b))
 | .andNot=>some (true,one (.int k) (Wtb k a b))
 | .eql=>some (true,one .bool (a==b))
 | .neq=>some (true,one .bool (a !=b))
 | .lss=>some (true,one .bool (decide (a<b)))
 | .leq=>some (true,one .bool (decide (a<=b)))
 | .gtr=>some (true,one .bool (decide (a>b)))
 | .geq=>some (true,one .bool (decide (a>=b)))
 |_=>none
def Ws2(op:BinOp)(a b:List UInt8):Option (Bool×AVal):=
 match op with
 | .add=>some (Wdh a b,one .str (a++b))
 | .eql=>some (true,one .bool (seq a b))
 | .neq=>some (true,one .bool (!seq a b))
 |_=>none
def WiD(te:TE)(c d:Cell):Option Bool:=
 match te,c,d with
 |⟨.int _,false,.basic⟩,.val (.int k) a,.val (.int k') b=>if k=k' then some (ieq a b)else none
 |⟨.bool,false,.basic⟩,.val .bool a,.val .bool b=>some (beq a b)
 |⟨.str,false,.basic⟩,.val .str a,.val .str b=>some (seq a b)
 |_,_,_=>none
def Wb5(T:Tab):List TypeId->List Cell->List Cell->Option Bool
 | [],[],[]=>some true
 |t::ts,c::cs,d::ds=>match Wj T t with
  |some te=>match WiD te c d,Wb5 T ts cs ds with
   |some x,some y=>some (x&&y)
   |_,_=>none
  |none=>none
 |_,_,_=>none
def binOp(T:Tab)(op:BinOp)(t:TypeId)(x y:AVal):Option (Bool×AVal):=
 match x,y with
 | .s (.one (.val (.int k) a)),.s (.one (.val (.int k') b))=>
  match op with
  | .shl=>some (inn b,one (.int k) (Wtd k a b))
  | .shr=>some (inn b,one (.int k) (Ws4 k a b))
  |_=>if k=k' then Ws5 op k a b else none
 | .s (.one (.val .str a)),.s (.one (.val .str b))=>Ws2 op a b
 | .s (.one (.val .bool a)),.s (.one (.val .bool b))=>
  match Wj T t with
  |some ⟨.bool,false,.basic⟩=>
   match op with
   | .eql=>some (true,one .bool (beq a b))
   | .neq=>some (true,one .bool (!beq a b))
   |_=>none
  |_=>none
 | .s (.agg cs),.s (.agg ds)=>
  match Wj T t with
  |some ⟨_,true,.struct fs⟩=>
   if decide (fs.map (·.1)=List.range fs.length)then
    match op,Wb5 T (fs.map (·.2)) cs ds with
    | .eql,some b=>some (true,one .bool b)
    | .neq,some b=>some (true,one .bool (!b))
    |_,_=>none
   else none
  |_=>none
 |_,_=>none
def unOp(op:UnOp)(x:AVal):Option (Bool×AVal):=
 match op,x with
 | .not,.s (.one (.val .bool b))=>some (true,one .bool (!b))
 | .neg,.s (.one (.val (.int k) n))=>some (true,one (.int k) (WC k 0 n))
 |_,_=>none
def split:(t:Ty)->t.den->List Cell
 | .prod a b,d=>split a d.1++split b d.2
 | .int k,d=>[.val (.int k) d]
 | .bool,d=>[.val .bool d]
 | .str,d=>[.val .str d]
 | .slice e,d=>[.val (.slice e) d]
 | .own e,d=>[.junk]
def W7:Value->Option Cell
 | .int k n=>some (.val (.int k) n)
 | .bool b=>some (.val .bool b)
 | .string s=>some (.val .str s.data.toList)
 | .slice none 0 0=>some .nils
 | .pointer none=>some .junk
 | .nilFunc=>some .junk
 |_=>none
def Wpa:Value->Option AVal
 | .agg cs=>(cs.toList.mapM W7).map λl=>.s (.agg l)
 |v=>(W7 v).map λc=>.s (.one c)
def ev(st:St):Operand->Option AVal
 | .tmp t=>Wj st.env t
 | .const v=>Wpa v
 | .func f=>some (.s (.one (.clos f [])))
 | .global _=>none
def St.put(st:St)(dst:Option Tmp)(x:AVal):St:=
 match dst with
 |some d=>{st with env:=(d,x)::st.env}
 |none=>st
def sub(agg:Bool)(cs:List Cell)(off n:Nat):Option AVal:=
 if agg then(if off+n<=cs.length then some (.s (.agg ((cs.drop off).take n)))else none)
 else(cs[off]?).map λc=>.s (.one c)
def WfN(T:Tab)(st:St)(t:TypeId)(x:AVal):Option AVal:=
 match Wj T t with
 |some te=>
  if te.plain then
   match x with
   | .s (.one (.ptr id off))=>match Wj st.objs id with
    |some (.box cs)=>sub te.agg cs off te.ty.size
    |_=>none
   | .s (.one (.eptr id i off))=>match Wj st.objs id with
    |some (.arr e xs)=>sub te.agg (split e (xs.getD i e.dflt)) off te.ty.size
    |_=>none
   | .s (.one (.rptr t' d off))=>sub te.agg (split t' d) off te.ty.size
   |_=>none
  else none
 |none=>none
def Wro(k:IntKind)(xs:List Int):Nat->Nat->List Cell
 |_,0=>[]
 |i,n+1=>.val (.int k) (xs.getD i (0:Int))::Wro k xs (i+1) n
def Wez(T:Tab)(st:St)(t:TypeId)(x:AVal):Option (Bool×AVal):=
 match Wj T t with
 |some ⟨.int k,true,.arr n _⟩=>match x with
  | .s (.one (.aptr id))=>match Wj st.objs id with
   |some (.arr (.int k') xs)=>if k'=k then some (decide (Xb xs=n),.s (.agg (Wro k xs 0 n)))else none
   |_=>none
  |_=>none
 |_=>none
def Wa8(k:IntKind):List Cell->Option (List Int)
 | []=>some []
 | .val (.int k') d::cs=>if k'=k then(Wa8 k cs).map λl=>(d:Int)::l else none
 |_=>none
def asI:AVal->Option Int
 | .s (.one (.val (.int _) n))=>some n
 |_=>none
def asB:AVal->Option Bool
 | .s (.one (.val .bool b))=>some b
 |_=>none
def obL(o:Option Ob):Option (Bool×AVal):=match o with
 |some (.arr _ xs)=>some (true,one (.int .i64) (Wh xs))
 |some (.hole _ xs _ _)=>some (true,one (.int .i64) (Wh xs))
 |_=>none
def WhL(T:Tab)(st:St)(t:TypeId)(x:AVal):Option (Bool×AVal):=
 match Wj T t,x with
 |some ⟨_,false,.slice _⟩,.s (.one (.val (.slice _) l))=>some (true,one (.int .i64) (Wh l))
 |some ⟨_,false,.slice _⟩,.s (.one .nils)=>some (true,one (.int .i64) (0:Int))
 |some ⟨_,false,.slice _⟩,.s (.one (.own id))=>obL (Wj st.objs id)
 |some ⟨_,false,.slice _⟩,.s (.one (.vw _ lo hi))=>some (true,one (.int .i64) ((hi-lo:Nat):Int))
 |some ⟨.str,false,.basic⟩,.s (.one (.val .str s))=>some (true,one (.int .i64) (Wh (α:=UInt8) s))
 |_,_=>none
def Wff(T:Tab)(t:TypeId)(f:Nat):Option (Nat×TE):=
 match Wj T t with
 |some ⟨_,_,.struct fs⟩=>match fs[f]? with
  |some (off,ft)=>match Wj T ft with
   |some te=>if te.plain then some (off,te)else none
   |none=>none
  |none=>none
 |_=>none
def Wbv(T:Tab)(st:St)(t:TypeId)(x:AVal)(f:Nat):Option (Bool×AVal):=
 match Wff T t f,x with
 |some (off,_),.s (.one (.ptr id o))=>match Wj st.objs id with
  |some (.box _)=>some (true,.s (.one (.ptr id (o+off))))
  |_=>none
 |some (off,_),.s (.one (.eptr id i o))=>match Wj st.objs id with
  |some (.arr _ _)=>some (true,.s (.one (.eptr id i (o+off))))
  |_=>none
 |some (off,_),.s (.one (.rptr t' d o))=>some (true,.s (.one (.rptr t' d (o+off))))
 |_,_=>none
def Wl8(T:Tab)(t:TypeId)(x:AVal)(f:Nat):Option (Bool×AVal):=
 match Wff T t f,x with
 |some (off,te),.s (.agg cs)=>(sub te.agg cs off te.ty.size).map λv=>(true,v)
 |_,_=>none
def obI(te:TE)(n:Int)(id:Nat)(o:Option Ob):Option (Bool×AVal):=match o with
 |some (.arr e xs)=>if te.ty=e.ro then some (inb n xs.length,.s (.one (.eptr id n.toNat 0)))else none
 |some (.hole e xs i p)=>if te.ty=e.ro then some (inb n xs.length&&Xaz n.toNat i,.s (.one (.ptr p 0)))else none
 |_=>none
def WsP(te:TE)(n:Int)(id lo hi:Nat)(o:Option Ob):Option (Bool×AVal):=match o with
 |some (.arr e xs)=>if te.ty=e.ro then some (inb n (hi-lo),.s (.one (.eptr id (lo+n.toNat) 0)))else none
 |_=>none
def WsJ(te:TE)(n:Int)(k:Nat)(id:Nat)(o:Option Ob):Option (Bool×AVal):=match o with
 |some (.arr e xs)=>if te.ty=e then some (inb n k&&decide (xs.length=k),.s (.one (.eptr id n.toNat 0)))else none
 |_=>none
def Wbn(T:Tab)(st:St)(t:TypeId)(x i:AVal):Option (Bool×AVal):=
 match Wj T t,asI i with
 |some ⟨_,_,.slice et⟩,some n=>match Wj T et with
  |some te=>
   if te.plain then match x with
    | .s (.one (.val (.slice e) l))=>if te.ty=e then some (inb n (Xb l),.s (.one (.rptr e (Xc l n.toNat e.dflt) 0)))else none
    | .s (.one .nils)=>some (false,.s (.one .junk))
    | .s (.one (.own id))=>obI te n id (Wj st.objs id)
    | .s (.one (.vw id lo hi))=>WsP te n id lo hi (Wj st.objs id)
    |_=>none
   else none
  |none=>none
 |some ⟨_,_,.arr k et⟩,some n=>match Wj T et with
  |some te=>
   if te.plain then match x with
    | .s (.one (.aptr id))=>WsJ te n k id (Wj st.objs id)
    |_=>none
   else none
  |none=>none
 |_,_=>none
def WlB(T:Tab)(t:TypeId)(x i:AVal):Option (Bool×AVal):=
 match Wj T t,x,asI i with
 |some ⟨.str,_,.basic⟩,.s (.one (.val .str s)),some n=>some (inb n (Xb s),one (.int .u8) ((Xc s n.toNat 0).toNat:Int))
 |some ⟨.int k,_,.arr m et⟩,.s (.agg cs),some n=>match Wj T et with
  |some ⟨.int k',false,.basic⟩=>match Wa8 k cs with
   |some l=>if k'=k/\cs.length=m then some (inb n m,one (.int k) (Xc l n.toNat (0:Int)))else none
   |none=>none
  |_=>none
 |_,_,_=>none
def WbX(n:Nat)(lo hi:Option Int):Bool×Nat×Nat:=
 match lo,hi with
 |none,none=>(true,0,n)
 |some l,none=>(decide (0<=l)&&decide (l<=(n:Int)),l.toNat,n)
 |none,some h=>(decide (0<=h)&&decide (h<=(n:Int)),0,h.toNat)
 |some l,some h=>(decide (0<=h)&&decide (h<=(n:Int))&&decide (0<=l)&&decide (l<=h),l.toNat,h.toNat)
def Wrq{α:Type}(l:List α)(lo hi:Option Int):List α:=
 match lo,hi with
 |none,none=>l
 |some a,none=>l.drop a.toNat
 |none,some b=>l.take b.toNat
 |some a,some b=>(l.take b.toNat).drop a.toNat
def WjQ(st:St):Option Operand->Option (Option Int)
 |none=>some none
 |some x=>((ev st x).bind asI).map some
def Wjn(T:Tab)(st:St)(t:TypeId)(x:AVal)(lo hi:Option Operand):Option (Bool×AVal):=
 match Wj T t,x,WjQ st lo,WjQ st hi with
 |some ⟨.str,_,.basic⟩,.s (.one (.val .str s)),some l,some h=>some ((WbX (Xb s) l h).1,one .str (Wrq s l h))
 |some ⟨_,_,.slice et⟩,.s (.one (.val (.slice e) xs)),some l,some h=>match Wj T et with
  |some te=>if te.ty=e/\te.plain then some ((WbX (Xb xs) l h).1,one (.slice e) (Wrq xs l h))else none
  |none=>none
 |_,_,_,_=>none
def WqC(st:St):AVal->Option Ob
 | .s (.one (.own id))=>Wj st.objs id
 |_=>none
def Wso(T:Tab)(o:Option Ob)(src dst:TypeId)(x:AVal):Option (Bool×AVal):=
 match Wj T src,Wj T dst,x with
 |some ⟨.int _,false,.basic⟩,some ⟨.int k,false,.basic⟩,.s (.one (.val (.int _) n))=>some (true,one (.int k) (k.wrap n))
 |some ⟨.str,false,.basic⟩,some ⟨.str,false,.basic⟩,.s (.one (.val .str s))=>some (true,one .str s)
 |some ⟨_,_,.slice et⟩,some ⟨.str,false,.basic⟩,.s (.one c)=>
  match Wj T et with
  |some ⟨.int .u8,false,.basic⟩=>match c with
   | .val (.slice (.int .u8)) l=>some (true,one .str (WhJ l))
   | .nils=>some (true,one .str ([]:List UInt8))
   | .own _=>match o with
    |some (.arr (.int .u8) xs)=>some (true,one .str (WhJ xs))
    |_=>none
   |_=>none
  |_=>none
 |_,_,_=>none
def Wiq(T:Tab)(st:St)(src dst:TypeId)(x:AVal):Option (Bool×AVal):=Wso T (WqC st x) src dst x
def Wnh(st:St)(x:AVal):Option (Bool×AVal):=
 match x with
 | .s (.one (.rptr _ _ _))=>some (true,x)
 | .s (.one (.ptr id _))=>match Wj st.objs id with
  |some (.box _)=>some (true,x)
  |_=>none
 | .s (.one (.eptr id _ _))| .s (.one (.aptr id))=>match Wj st.objs id with
  |some (.arr _ _)=>some (true,x)
  |_=>none
 |_=>none
def WeR(st:St):List Operand->Option (List Nat)
 | []=>some []
 |o::l=>match ev st o,WeR st l with
  |some (.s (.one (.ptr id 0))),some r=>some (id::r)
  |_,_=>none
def Wtk(a b:Int):Int:=if b<a then b else a
def Wsj(a b:Int):Int:=if a<b then b else a
def Wn9(T:Tab)(st:St)(op:BinOp)(t:TypeId)(a b:AVal):Option (Bool×AVal):=
 match a,b with
 | .s (.one (.own id)),.s (.one .nils)=>match Wj T t with
  |some ⟨_,false,.slice _⟩=>match Wj st.objs id with
   |some (.arr _ xs)=>match op with
    | .eql=>some (Xfp 0 xs.length,one .bool false)
    | .neq=>some (Xfp 0 xs.length,one .bool true)
    |_=>none
   |_=>none
  |_=>none
 |_,_=>none
def W1(T:Tab)(st:St):Op->Option (Bool×AVal)
 | .move x| .assign x=>(ev st x).map λv=>(true,v)
 | .pick c a b=>match(ev st c).bind asB with
  |some p=>match ev st a,ev st b with
   |some (.s (.one (.val .bool x))),some (.s (.one (.val .bool y)))=>some (true,one .bool (bif p then x else y))
   |va,vb=>(bif p then va else vb).map λv=>(true,v)
  |none=>none
 | .load t a=>(ev st a).bind λv=>match Wez T st t v with
  |some r=>some r
  |none=>(WfN T st t v).map λr=>(true,r)
 | .nilCheck x=>(ev st x).bind (Wnh st)
 | .binOp op t x y _=>match ev st x,ev st y with
  |some a,some b=>match Wn9 T st op t a b with
   |some r=>some r
   |none=>binOp T op t a b
  |_,_=>none
 | .unOp op _ x=>(ev st x).bind (unOp op)
 | .convert src dst x=>(ev st x).bind (Wiq T st src dst)
 | .slice t x lo hi none=>(ev st x).bind λv=>Wjn T st t v lo hi
 | .fieldAddr s x f=>(ev st x).bind λv=>Wbv T st s v f
 | .field t x f=>(ev st x).bind λv=>Wl8 T t v f
 | .indexAddr t x i=>match ev st x,ev st i with
  |some a,some b=>Wbn T st t a b
  |_,_=>none
 | .index t x i=>match ev st x,ev st i with
  |some a,some b=>WlB T t a b
  |_,_=>none
 | .extract t ix=>match ev st t with
  |some (.tup xs)=>(xs[ix]?).map λx=>(true,.s x)
  |_=>none
 | .makeFunc (.func f) first captured=>if first.isEmpty then(WeR st captured.toList).map λids=>(true,.s (.one (.clos f ids)))else none
 | .call c=>match c.callee,c.args.toList,c.argTypes.toList with
  | .builtin .len,[x],[t]=>(ev st x).bind (WhL T st t)
  | .builtin .min,[x,y],[_,_]=>match ev st x,ev st y with
   |some (.s (.one (.val (.int k) a))),some (.s (.one (.val (.int k') b)))=>if k=k' then some (true,one (.int k) (Wtk a b))else none
   |_,_=>none
  | .builtin .max,[x,y],[_,_]=>match ev st x,ev st y with
   |some (.s (.one (.val (.int k) a))),some (.s (.one (.val (.int k') b)))=>if k=k' then some (true,one (.int k) (Wsj a b))else none
   |_,_=>none
  |_,_,_=>none
 |_=>none
def Wdy:Ty->List Cell
 | .prod a b=>Wdy a++Wdy b
 | .int k=>[.val (.int k) (0:Int)]
 | .bool=>[.val .bool false]
 | .str=>[.val .str ([]:List UInt8)]
 | .slice _=>[.nils]
 | .own _=>[.junk]
def Ty.data:Ty->Bool
 | .own _=>false
 | .prod a b=>a.data&&b.data
 |_=>true
def unfold:(t:Ty)->t.den->Nat->List Cell×WZ×Nat
 | .prod a b,d,nx=>
  let x:=unfold a d.1 nx
  let y:=unfold b d.2 x.2.2
  (x.1++y.1,x.2.1++y.2.1,y.2.2)
 | .own e,d,nx=>([.own nx],[(nx,.arr e d)],nx+1)
 | .int k,d,nx=>([.val (.int k) d],[],nx)
 | .bool,d,nx=>([.val .bool d],[],nx)
 | .str,d,nx=>([.val .str d],[],nx)
 | .slice e,d,nx=>([.val (.slice e) d],[],nx)
def WhB(t:Ty)(c:Cell):Option t.den:=
 match c with
 | .val t' d=>Wke t' t d
 |_=>none
def WqI(e:Ty)(objs:WZ)(fc:List Cell->Option (e.den×List Nat×List Nat))(id:Nat):Option (List e.den×List Nat):=
 match Wj objs id with
 |some (.arr e' xs)=>(WeM e' e xs).map λys=>(ys,[id])
 |some (.hole e' xs i p)=>match WeM e' e xs,Wj objs p with
  |some ys,some (.box cs)=>match fc cs with
   |some (d,m,[])=>some (ys.set i d,id::p::m)
   |_=>none
  |_,_=>none
 |_=>none
def Wq6(e:Ty)(objs:WZ)(fc:List Cell->Option (e.den×List Nat×List Nat))(id:Nat):Option (List e.den×List Nat):=
 match Wj objs id with
 |some (.arr e' xs)=>(WeM e'.ro e (WbQ e' xs)).map λys=>(ys,[id])
 |some (.hole e' xs i p)=>match WeM e'.ro e (WbQ e' xs),Wj objs p with
  |some ys,some (.box cs)=>match fc cs with
   |some (d,[],l)=>some (ys.set i d,id::p::l)
   |_=>none
  |_,_=>none
 |_=>none
def Wac:(t:Ty)->List Cell->WZ->Option (t.den×List Nat×List Nat)
 | .prod a b,cs,objs=>match Wac a (cs.take a.size) objs,Wac b (cs.drop a.size) objs with
  |some (x,m,r),some (y,m',r')=>some ((x,y),m++m',r++r')
  |_,_=>none
 | .own e,cs,objs=>match cs with
  | [.own id]=>(WqI e objs (λcs=>Wac e cs objs) id).map λp=>(p.1,p.2,[])
  | [.vw id lo hi]=>match Wj objs id with
   |some (.arr e' xs)=>(WeM e' e xs).map λys=>((ys.take hi).drop lo,[id],[])
   |_=>none
  | [.nils]=>some (([]:List e.den),[],[])
  |_=>none
 | .slice e,cs,objs=>match cs with
  | [.own id]=>(Wq6 e objs (λcs=>Wac e cs objs) id).map λp=>(p.1,[],p.2)
  | [.vw id lo hi]=>match Wj objs id with
   |some (.arr e' xs)=>(WeM e'.ro e (WbQ e' xs)).map λys=>((ys.take hi).drop lo,[],[id])
   |_=>none
  | [.nils]=>some (([]:List e.den),[],[])
  | [c]=>(WhB (.slice e) c).map λd=>(d,[],[])
  |_=>none
 | .int k,cs,_=>match cs with
  | [c]=>(WhB (.int k) c).map λd=>(d,[],[])
  |_=>none
 | .bool,cs,_=>match cs with
  | [c]=>(WhB .bool c).map λd=>(d,[],[])
  |_=>none
 | .str,cs,_=>match cs with
  | [c]=>(WhB .str c).map λd=>(d,[],[])
  |_=>none
def WbB(i:Nat):List Nat->Bool
 | []=>false
 |j::l=>Xaz i j||WbB i l
def WaR:List Nat->Bool
 | []=>true
 |i::l=>!WbB i l&&WaR l
def eqN:List Nat->List Nat->Bool
 | [],[]=>true
 |i::l,j::m=>Xaz i j&&eqN l m
 |_,_=>false
def Wen(l m:List Nat):Bool:=l.all λi=>!WbB i m
def kill(objs:WZ):List Nat->WZ
 | []=>objs
 |i::l=>(i,.dead)::kill objs l
def cellsOf(agg:Bool):AVal->Option (List Cell)
 | .s (.one c)=>if agg then none else some [c]
 | .s (.agg cs)=>if agg then some cs else none
 | .tup _=>none
inductive PTy where
 |v (t:Ty) (agg:Bool)
 |box (t:Ty)
 |mut (e:Ty)
 |clos (g:FuncId) (n:Nat)
 |kv (t:Ty) (agg:Bool)
 |rp (t:Ty)
 |boxal (t:Ty) (lf:Nat)
 |vj (t:Ty)
def Ty.owns:Ty->Nat
 | .own _=>1
 | .prod a b=>a.owns+b.owns
 |_=>0
def Wea:List PTy->Type
 | []=>Unit
 | .v t _::ps=>t.den×Wea ps
 | .box t::ps=>t.den×Wea ps
 | .mut e::ps=>List e.den×Wea ps
 | .clos _ _::ps=>Wea ps
 | .kv t _::ps=>t.den×Wea ps
 | .rp t::ps=>t.den×Wea ps
 | .vj _::ps=>Wea ps
 | .boxal t _::ps=>t.den×Nat×Wea ps
def WeG:List PTy->Type
 | []=>Unit
 | .v _ _::ps=>WeG ps
 | .box t::ps=>t.den×WeG ps
 | .mut e::ps=>List e.den×WeG ps
 | .clos _ _::ps=>WeG ps
 | .kv t _::ps=>t.den×WeG ps
 | .rp _::ps=>WeG ps
 | .vj _::ps=>WeG ps
 | .boxal t _::ps=>t.den×WeG ps
def Wfj:List PTy->Type
 | []=>Unit
 | .v t _::rs=>t.den×Wfj rs
 | .box t::rs=>t.den×Wfj rs
 | .mut _::rs=>Wfj rs
 | .clos _ _::rs=>Wfj rs
 | .kv _ _::rs=>Wfj rs
 | .rp _::rs=>Wfj rs
 | .vj t::rs=>t.den×Wfj rs
 | .boxal _ _::rs=>Wfj rs
structure Kp where
 id:Nat
 off:Nat
def kp0(l:List Nat):List Kp:=l.map λi=>⟨i,0⟩
structure Args(ps:List PTy) where
 d:Wea ps
 moved:List Nat
 lent:List Nat
 kept:List Kp
 all:List Nat
def Wa0:Ty->Nat->Option Nat
 | .own _,n=>match n with
  |0=>some 0
  |_+1=>none
 | .prod a b,n=>if n<a.owns then Wa0 a n else(Wa0 b (n-a.owns)).map (a.size+ ·)
 | .int _,_=>none
 | .bool,_=>none
 | .str,_=>none
 | .slice _,_=>none
def WoU(objs:WZ):Cell->AVal->Option Nat
 | .own r,.s (.one (.ptr p off))=>match off,Wj objs r with
  |0,some (.hole _ _ i p')=>if Xaz p p' then some i else none
  |_,_=>none
 | .own r,.s (.one (.eptr r' i off))=>match off,Wj objs r with
  |0,some (.arr _ _)=>if Xaz r r' then some i else none
  |_,_=>none
 |_,_=>none
def Wpo:Cell->Bool
 | .vw _ _ _=>false
 |_=>true
def Wre:AVal->Bool
 | .s (.one c)=>Wpo c
 | .s (.agg cs)=>cs.all Wpo
 | .tup _=>true
def WkP(objs:WZ)(t:Ty)(m:List Nat)(x:AVal):Bool:=decide (m.length=t.owns)&&Wre x&&m.all λid=>match Wj objs id with
 |some (.arr _ _)=>true
 |_=>false
def WfD(l:List Nat):List AVal:=l.map λid=>.s (.one (.ptr id 0))
def WX:(ps:List PTy)->List AVal->WZ->Option (Args ps)
 | [],xs,_=>match xs with
  | []=>some ⟨(),[],[],[],[]⟩
  |_=>none
 | .v t agg::ps,xs,objs=>match xs with
  |x::xs=>match(cellsOf agg x).bind λcs=>Wac t cs objs,WX ps xs objs with
   |some (d,m,r),some A=>some ⟨(d,A.d),m++A.moved,r++A.lent,A.kept,m++A.all⟩
   |_,_=>none
  |_=>none
 | .box t::ps,xs,objs=>match xs with
  | .s (.one (.ptr id off))::xs=>match Wj objs id with
   |some (.box cs)=>match Wac t ((cs.drop off).take t.size) objs,WX ps xs objs with
    |some (d,m,[]),some A=>some ⟨(d,A.d),m++A.moved,A.lent,⟨id,off⟩::A.kept,id::(m++A.all)⟩
    |_,_=>none
   |_=>none
  |_=>none
 | .mut e::ps,xs,objs=>match xs with
  | .s (.one (.own id))::xs=>match Wj objs id with
   |some (.arr e' ys)=>match WeM e' e ys,WX ps xs objs with
    |some d,some A=>some ⟨(d,A.d),A.moved,A.lent,⟨id,0⟩::A.kept,id::A.all⟩
    |_,_=>none
   |_=>none
  |_=>none
 | .clos g n::ps,xs,objs=>match xs with
  | .s (.one (.clos g' caps))::xs=>if g'=g/\caps.length=n then(WX ps (WfD caps++xs) objs).map λA=>⟨A.d,A.moved,A.lent,A.kept,A.all⟩else none
  |_=>none
 | .kv t agg::ps,xs,objs=>match xs with
  |x::xs=>match(cellsOf agg x).bind λcs=>Wac t cs objs,WX ps xs objs with
   |some (d,m,r),some A=>if WkP objs t m x then some ⟨(d,A.d),A.moved,r++A.lent,kp0 m++A.kept,m++A.all⟩else none
   |_,_=>none
  |_=>none
 | .rp t::ps,xs,objs=>match xs with
  | .s (.one (.ptr id off))::xs=>match Wj objs id with
   |some (.box cs)=>match Wac t ((cs.drop off).take t.size) objs,WX ps xs objs with
    |some (d,[],r),some A=>if t.data then some ⟨(d,A.d),A.moved,id::(r++A.lent),A.kept,A.all⟩else none
    |_,_=>none
   |_=>none
  | .s (.one (.rptr t' d off))::xs=>match Wac t (((split t' d).drop off).take t.size) objs,WX ps xs objs with
   |some (d,[],[]),some A=>if t.data then some ⟨(d,A.d),A.moved,A.lent,A.kept,A.all⟩else none
   |_,_=>none
  |_=>none
 | .vj _::_,_,_=>none
 | .boxal t lf::ps,xs,objs=>match xs with
  | .s (.one (.ptr id off))::y::xs=>match Wj objs id with
   |some (.box cs)=>match Wac t ((cs.drop off).take t.size) objs,WX ps xs objs,((Wa0 t lf).bind λk=>((cs.drop off).take t.size)[k]?).bind λc=>WoU objs c y with
    |some (d,m,[]),some A,some i=>some ⟨(d,i,A.d),m++A.moved,A.lent,⟨id,off⟩::A.kept,id::(m++A.all)⟩
    |_,_,_=>none
   |_=>none
  |_=>none
def WbO:(t:Ty)->t.den->List Nat->WZ
 | .own e,d,ids=>match ids with
  |id::_=>[(id,.arr e d)]
  | []=>[]
 | .prod a b,d,ids=>WbO a d.1 (ids.take a.owns)++WbO b d.2 (ids.drop a.owns)
 | .int _,_,_=>[]
 | .bool,_,_=>[]
 | .str,_,_=>[]
 | .slice _,_,_=>[]
def Wc8(cs:List Cell)(off:Nat)(ds:List Cell):List Cell:=cs.take off++ds++cs.drop (off+ds.length)
def WfK(o:Option Ob)(off:Nat)(ds:List Cell):Ob:=match o with
 |some (.box cs)=>.box (Wc8 cs off ds)
 |_=>.dead
def W4:(ps:List PTy)->WeG ps->List Kp->WZ->Nat->WZ×Nat
 | [],_,_,objs,nx=>(objs,nx)
 | .v _ _::ps,o,ids,objs,nx=>W4 ps o ids objs nx
 | .box t::ps,o,ids,objs,nx=>match ids with
  |k::ids=>
   let x:=unfold t o.1 nx
   W4 ps o.2 ids ((k.id,WfK (Wj objs k.id) k.off x.1)::(x.2.1++objs)) x.2.2
  | []=>(objs,nx)
 | .mut e::ps,o,ids,objs,nx=>match ids with
  |k::ids=>W4 ps o.2 ids ((k.id,.arr e o.1)::objs) nx
  | []=>(objs,nx)
 | .clos _ _::ps,o,ids,objs,nx=>W4 ps o ids objs nx
 | .kv t _::ps,o,ids,objs,nx=>W4 ps o.2 (ids.drop t.owns) (WbO t o.1 ((ids.take t.owns).map Kp.id)++objs) nx
 | .rp _::ps,o,ids,objs,nx=>W4 ps o ids objs nx
 | .vj _::ps,o,ids,objs,nx=>W4 ps o ids objs nx
 | .boxal t _::ps,o,ids,objs,nx=>match ids with
  |k::ids=>
   let x:=unfold t o.1 nx
   W4 ps o.2 ids ((k.id,WfK (Wj objs k.id) k.off x.1)::(x.2.1++objs)) x.2.2
  | []=>(objs,nx)
def WsG(agg:Bool)(cs:List Cell):AV:=if agg then .agg cs else match cs with
 | [c]=>.one c
 |_=>.agg cs
def WaS:(rs:List PTy)->Wfj rs->WZ->Nat->List AV×WZ×Nat
 | [],_,objs,nx=>([],objs,nx)
 | .v t agg::rs,d,objs,nx=>
  let x:=unfold t d.1 nx
  let y:=WaS rs d.2 (x.2.1++objs) x.2.2
  (WsG agg x.1::y.1,y.2)
 | .box t::rs,d,objs,nx=>
  let x:=unfold t d.1 (nx+1)
  let y:=WaS rs d.2 ((nx,.box x.1)::(x.2.1++objs)) x.2.2
  (.one (.ptr nx 0)::y.1,y.2)
 | .mut _::rs,d,objs,nx=>WaS rs d objs nx
 | .clos _ _::rs,d,objs,nx=>WaS rs d objs nx
 | .kv _ _::rs,d,objs,nx=>WaS rs d objs nx
 | .rp _::rs,d,objs,nx=>WaS rs d objs nx
 | .vj t::rs,d,objs,nx=>
  let x:=unfold t d.1 nx
  let y:=WaS rs d.2 (x.2.1++objs) x.2.2
  (.agg (x.1++ [.junk])::y.1,y.2)
 | .boxal _ _::rs,d,objs,nx=>WaS rs d objs nx
def Wsm:List AV->AVal
 | [x]=>.s x
 |xs=>.tup xs
abbrev KV(R:Type):=AVal->WZ->Nat->Option R
abbrev Out:=AVal×WZ×Nat
def WaZ(x:AVal)(objs:WZ)(nx:Nat):Option Out:=some (x,objs,nx)
structure Inl where
 fn:(R:Type)->St->KV R->Option R
 law:∀(R:Type) (st:St) (k:KV R),fn R st k=(fn Out st WaZ).bind λp=>k p.1 p.2.1 p.2.2
 suf:∀(st:St) (x:AVal) (objs:WZ) (nx:Nat),fn Out st WaZ=some (x,objs,nx)->∃pre,objs=pre++st.objs
structure Sig where
 ps:List PTy
 rs:List PTy
 fn:(R:Type)->Wea ps->(WeG ps×Wfj rs->Option R)->Option R
 run:Wea ps->Option (WeG ps×Wfj rs)
 law:∀(R:Type) (d:Wea ps) (k:WeG ps×Wfj rs->Option R),fn R d k=(run d).bind k
 inl:Option Inl
noncomputable def Sig.of(ps:List PTy)(rs:List PTy)(run:Wea ps->Option (WeG ps×Wfj rs)):Sig:=⟨ps,rs,λ_ d k=>(run d).bind k,run,λ_ _ _=>rfl,none⟩
theorem Sig.law'(s:Sig){R:Type}(d:Wea s.ps)(k:WeG s.ps×Wfj s.rs->Option R)(r:R)(h:s.fn R d k=some r):∃o,s.run d=some o/\k o=some r:=by
 rw[s.law]at h;cases hr:s.run d with
 |none=>simp_all
 |some o=>simp_all
def PTy.fresh:PTy->Bool
 | .v _ _=>true
 | .box t=>t.noRo
 | .mut e=>e.noRo
 | .clos _ _=>true
 | .kv t _=>t.noRo
 | .rp _=>true
 | .vj _=>true
 | .boxal t _=>t.noRo
def PTy.freshR:PTy->Bool
 | .v t _=>t.noRo
 | .box t=>t.noRo
 | .mut _=>true
 | .clos _ _=>true
 | .kv _ _=>true
 | .rp _=>true
 | .vj t=>t.noRo
 | .boxal _ _=>true
def Sig.fresh(s:Sig):Bool:=s.rs.all PTy.freshR&&s.ps.all PTy.fresh
abbrev Ctx:=List (FuncId×Sig)
def evs(st:St):List Operand->Option (List AVal)
 | []=>some []
 |o::l=>match ev st o,evs st l with
  |some x,some xs=>some (x::xs)
  |_,_=>none
def Wec{R:Type}(sg:Sig)(st:St)(xs:List AVal)(k:KV R):Option R:=
 match WX sg.ps xs st.objs with
 |some A=>
  if WaR A.all&&Wen A.lent A.all&&(sg.fresh||A.lent.isEmpty)then
   sg.fn R A.d λo=>
    let p:=W4 sg.ps o.1 A.kept (kill st.objs A.moved) st.nx
    let q:=WaS sg.rs o.2 p.1 p.2
    k (Wsm q.1) q.2.1 q.2.2
  else none
 |none=>none
def WjJ(objs:WZ)(ids:List Nat):Cell->Cell
 | .own id=>bif WbB id ids then(match Wj objs id with
  |some (.arr e xs)=>.val (.slice e.ro) (WbQ e xs)
  |_=>.junk)else .own id
 | .vw id lo hi=>.vw id lo hi
 | .val t d=>.val t d
 | .nils=>.nils
 | .aptr id=>.aptr id
 | .ptr id off=>.ptr id off
 | .eptr id i off=>.eptr id i off
 | .rptr t d off=>.rptr t d off
 | .clos f caps=>.clos f caps
 | .junk=>.junk
def WfT(objs:WZ)(ids:List Nat):AVal->AVal
 | .s (.one c)=>.s (.one (WjJ objs ids c))
 | .s (.agg cs)=>.s (.agg (cs.map (WjJ objs ids)))
 | .tup xs=>.tup xs
def Wo0:Cell->List Nat
 | .own id=>[id]
 | .vw _ _ _=>[]
 | .val _ _=>[]
 | .nils=>[]
 | .aptr _=>[]
 | .ptr _ _=>[]
 | .eptr _ _ _=>[]
 | .rptr _ _ _=>[]
 | .clos _ _=>[]
 | .junk=>[]
def WoA:AVal->List Nat
 | .s (.one c)=>Wo0 c
 | .s (.agg cs)=>cs.flatMap Wo0
 | .tup _=>[]
def WqQ:Ty->List Cell->List Nat
 | .prod a b,cs=>WqQ a (cs.take a.size)++WqQ b (cs.drop a.size)
 | .slice _,cs=>match cs with
  |c::_=>Wo0 c
  | []=>[]
 | .own _,_=>[]
 | .int _,_=>[]
 | .bool,_=>[]
 | .str,_=>[]
def Wf1(e:Ty):AVal->List Nat
 | .s (.one c)=>WqQ e [c]
 | .s (.agg cs)=>WqQ e cs
 | .tup _=>[]
def Weu(objs:WZ)(p v:AVal):List Nat:=match p with
 | .s (.one (.eptr id _ _))=>match Wj objs id with
  |some (.arr e _)=>bif e.data then WoA v else Wf1 e v
  |_=>[]
 |_=>[]
def WiR(ps:List (Nat×AVal)):List Nat:=ps.flatMap λp=>WoA p.2
def Wc1(objs:WZ)(l:List Nat):WZ:=kill objs l
def WiO(objs:WZ)(ps:List (Nat×AVal)):List (Nat×AVal):=ps.map λp=>(p.1,WfT objs (WiR ps) p.2)
def WkN{R:Type}(sg:Sig)(st:St)(xs:List AVal)(k:KV R):Option R:=
 bif sg.fresh then Wec sg st xs k else match WX sg.ps xs st.objs with
  |some A=>match A.lent with
   | []=>Wec sg st xs k
   |_=>Wec sg {env:=st.env,objs:=kill st.objs A.lent,nx:=st.nx} (xs.map (WfT st.objs A.lent)) k
  |none=>none
def St.new(st:St)(dst:Option Tmp)(ob:Ob)(x:AVal):St:=
 {env:=st.env,objs:=(st.nx,ob)::st.objs,nx:=st.nx+1:St}.put dst x
def St.turn(st:St)(id:Nat)(ob:Ob):St:={st with objs:=(id,ob)::st.objs}
def Wfs:AVal->Option (List Cell)
 | .s (.one c)=>some [c]
 | .s (.agg cs)=>some cs
 | .tup _=>none
def Wcd(T:Tab)(st:St)(t:TypeId)(x v:AVal):Option St:=
 match Wj T t,x,Wfs v with
 |some te,.s (.one (.ptr id off)),some ds=>match Wj st.objs id with
  |some (.box cs)=>if decide (te.ty.size=ds.length)&&te.plain&&decide (off+ds.length<=cs.length)then some (st.turn id (.box (Wc8 cs off ds)))else none
  |_=>none
 |some te,.s (.one (.eptr id i off)),some ds=>match Wj st.objs id with
  |some (.arr e xs)=>
   if decide (te.ty.size=ds.length)&&te.plain&&decide (off+ds.length<=e.size)&&e.data then
    match Wac e (Wc8 (split e (xs.getD i e.dflt)) off ds) st.objs with
    |some (d,[],[])=>some (st.turn id (.arr e (xs.set i d)))
    |_=>none
   else if decide (te.ty.size=ds.length)&&te.plain&&decide (off=0)&&decide (ds.length=e.size)then
    match Wac e ds st.objs with
    |some (d,m,[])=>if WaR (id::m)then some {env:=st.env,objs:=(id,.arr e (xs.set i d))::kill st.objs m,nx:=st.nx}else none
    |_=>none
   else none
  |_=>none
 |_,_,_=>none
def Wsi(st:St)(e:Ty):AVal->Option (List e.den)
 | .s (.one (.val (.slice e') d))=>WeM e' e d
 | .s (.one .nils)=>some []
 | .s (.one (.own id))=>match Wj st.objs id with
  |some (.arr e' xs)=>WeM e' e xs
  |_=>none
 | .s (.one (.vw id lo hi))=>match Wj st.objs id with
  |some (.arr e' xs)=>(WeM e' e xs).map λys=>(ys.take hi).drop lo
  |_=>none
 |_=>none
def Wq4(st:St)(e:Ty):AVal->Option (List e.den×List Nat)
 | .s (.one .nils)=>some ([],[])
 | .s (.one (.own id))=>match Wj st.objs id with
  |some (.arr e' xs)=>(WeM e' e xs).map λys=>(ys,[id])
  |_=>none
 |_=>none
def Wtq(st:St):AVal->Option Ty
 | .s (.one (.own id))=>match Wj st.objs id with
  |some (.arr e _)=>some e
  |_=>none
 |_=>none
def WdH{R:Type}(st:St)(te:Ty)(s x:AVal)(k:KV R):Option R:=
 match s with
 | .s (.one .nils)=>match Wtq st x with
  |some e=>if e.ro=te then match Wq4 st e x with
    |some (l,m)=>bif WV l.length then k (.s (.one (.own st.nx))) ((st.nx,.arr e l)::kill st.objs m) (st.nx+1)else none
    |none=>none
   else none
  |none=>none
 | .s (.one (.own id))=>match Wj st.objs id with
  |some (.arr e xs)=>if e.ro=te then match Wq4 st e x with
    |some (l,m)=>if WaR (id::m)then(bif WV (xs.length+l.length)then k (.s (.one (.own st.nx))) ((st.nx,.arr e (Xt xs l))::kill st.objs (id::m)) (st.nx+1)else none)else none
    |none=>none
   else none
  |_=>none
 |_=>none
def Wqz(st:St):AVal->AVal->Bool
 | .s (.one (.own id)),_=>match Wj st.objs id with
  |some (.arr e _)=>e.data
  |_=>true
 | .s (.one .nils),.s (.one (.own id))=>match Wj st.objs id with
  |some (.arr e _)=>e.data
  |_=>true
 |_,_=>true
def Wc0{R:Type}(T:Tab)(st:St)(t t2:TypeId)(s x:AVal)(k:KV R):Option R:=
 match Wj T t,Wj T t2 with
 |some ⟨_,false,.slice et⟩,some _=>match Wj T et with
  |some te=>
   if t=t2/\te.plain/\te.ty.data then
    bif !Wqz st s x then WdH st te.ty s x k else
    match s,Wsi st te.ty x with
    | .s (.one .nils),some l=>bif WV l.length then k (.s (.one (.own st.nx))) ((st.nx,.arr te.ty l)::st.objs) (st.nx+1)else none
    | .s (.one (.own id)),some l=>match Wj st.objs id with
     |some (.arr e xs)=>match Wke (.own e) (.own te.ty) xs with
      |some ys=>bif WV (Xb ys+l.length)then k (.s (.one (.own st.nx))) ((st.nx,.arr te.ty (Xt ys l))::(id,.dead)::st.objs) (st.nx+1)else none
      |none=>none
     |_=>none
    | .s (.one (.vw id 0 hi)),some l=>match Wj st.objs id with
     |some (.arr e xs)=>match Wke (.own e) (.own te.ty) xs with
      |some ys=>bif WV (hi+l.length)then k (.s (.one (.own st.nx))) ((st.nx,.arr te.ty (Xt (ys.take hi) l))::(id,.dead)::st.objs) (st.nx+1)else none
      |none=>none
     |_=>none
    |_,_=>none
   else none
  |none=>none
 |_,_=>none
def WkS(T:Tab)(fs:List (Nat×TypeId)):List (Nat×AVal)->List Cell->Option (List Cell)
 | [],cs=>some cs
 |(i,x)::ps,cs=>match fs[i]? with
  |some (off,ft)=>match Wj T ft,Wfs x with
   |some te,some ds=>if decide (te.ty.size=ds.length)&&decide (off+ds.length<=cs.length)then WkS T fs ps (Wc8 cs off ds)else none
   |_,_=>none
  |none=>none
def WnY(e:Ty)(objs:WZ):List (Nat×AVal)->List e.den->Option (List e.den)
 | [],xs=>some xs
 |(i,x)::ps,xs=>match Wfs x with
  |some ds=>match Wac e ds objs with
   |some (d,[],[])=>if i<xs.length then WnY e objs ps (xs.set i d)else none
   |_=>none
  |none=>none
def WbP(st:St):List (Nat×Operand)->Option (List (Nat×AVal))
 | []=>some []
 |(i,o)::l=>match ev st o,WbP st l with
  |some x,some xs=>some ((i,x)::xs)
  |_,_=>none
inductive An where
 |nest (e:Ty)
 |view
 |opn
 |shut (off:Nat)
def Wsn(A:List (Nat×An))(o:Oper):Option An:=match o.dst with
 |some d=>Wj A d
 |none=>none
def Wco{R:Type}(st:St)(e:Ty)(ps:List (Nat×AVal))(k:KV R):Option R:=
 match ps with
 | [p]=>if p.1=0 then match Wfs (WfT st.objs (Wf1 e p.2) p.2)with
  |some ds=>match Wac e ds (Wc1 st.objs (Wf1 e p.2))with
   |some (d,m,[])=>if WaR m then k (.s (.one (.own st.nx))) ((st.nx,.arr e [d])::kill (Wc1 st.objs (Wf1 e p.2)) m) (st.nx+1)else none
   |_=>none
  |none=>none
  else none
 |_=>none
def Web{R:Type}(st:St)(te:Ty)(id:Nat)(l h:Option Int)(k:KV R):Option R:=
 match Wj st.objs id with
 |some (.arr e xs)=>if te=e.ro then bif (WbX (Xb xs) l h).1 then k (.s (.one (.vw id (WbX (Xb xs) l h).2.1 (WbX (Xb xs) l h).2.2))) st.objs st.nx else none else none
 |_=>none
def WpH(o:Option Ob)(n:Nat):Bool:=match o with
 |some (.box cs)=>Xaz cs.length n
 |_=>false
def Wbo:Nat->List AVal->List (Nat×AVal)
 |_,[]=>[]
 |i,x::xs=>(i,x)::Wbo (i+1) xs
def rxe{R:Type}(T:Tab)(Γ:Ctx)(A:List (Nat×An))(o:Oper)(st:St)(k:KV R):Option R:=
 match o.op with
 | .alloc t=>match Wj T t with
  |some ⟨e,true,.arr n _⟩=>if e.data&&WV n then k (.s (.one (.aptr st.nx))) ((st.nx,.arr e (Xr n e.dflt))::st.objs) (st.nx+1)else none
  |some te=>if te.plain then k (.s (.one (.ptr st.nx 0))) ((st.nx,.box (Wdy te.ty))::st.objs) (st.nx+1)else none
  |none=>none
 | .box t x=>match Wj T t,(ev st x).bind Wfs with
  |some _,some cs=>k (.s (.one (.ptr st.nx 0))) ((st.nx,.box cs)::st.objs) (st.nx+1)
  |_,_=>none
 | .build t parts=>match Wj T t,WbP st parts.toList with
  |some ⟨ty,true,.struct fs⟩,some ps=>
   if fs.all (λf=>match Wj T f.2 with|some te=>te.plain|none=>false)then
    match WkS T fs ps (Wdy ty)with
    |some cs=>k (.s (.agg cs)) st.objs st.nx
    |none=>none
   else none
  |_,_=>none
 | .buildSlice t n parts=>match Wj T t,WbP st parts.toList with
  |some ⟨_,false,.slice et⟩,some ps=>match Wj T et with
   |some te=>match Wsn A o with
    |some (.nest e)=>if decide (n=1)&&decide (e.ro=te.ty)&&te.plain&&decide (te.ty.size<=16777216)then Wco st e ps k else none
    |_=>match WnY te.ty (Wc1 st.objs (WiR ps)) (WiO st.objs ps) (Xr n te.ty.dflt)with
    |some xs=>if decide (n*te.ty.size<=16777216)&&te.ty.data&&te.plain then k (.s (.one (.own st.nx))) ((st.nx,.arr te.ty xs)::Wc1 st.objs (WiR ps)) (st.nx+1)else none
    |none=>none
   |none=>none
  |_,_=>none
 | .makeSlice t n c=>match Wj T t,(ev st n).bind asI,(ev st c).bind asI with
  |some ⟨_,false,.slice et⟩,some n',some c'=>match Wj T et with
   |some te=>match Wsn A o with
    |some (.nest e)=>if decide (e.ro=te.ty)&&te.plain then(bif decide (0<=n')&&decide (n'<=c')&&WV c'.toNat then k (.s (.one (.own st.nx))) ((st.nx,.arr e (Xr n'.toNat e.dflt))::st.objs) (st.nx+1)else none)else none
    |_=>if te.ty.data&&te.plain then(bif decide (0<=n')&&decide (n'<=c')&&WV c'.toNat then k (.s (.one (.own st.nx))) ((st.nx,.arr te.ty (Xr n'.toNat te.ty.dflt))::st.objs) (st.nx+1)else none)else none
   |none=>none
  |_,_,_=>none
 | .store t a x=>match ev st a,ev st x with
  |some p,some v=>match Wcd T {env:=st.env,objs:=Wc1 st.objs (Weu st.objs p v),nx:=st.nx} t p (WfT st.objs (Weu st.objs p v) v)with
   |some ac=>match o.dst with
    |none=>k (.tup []) ac.objs ac.nx
    |some _=>none
   |none=>none
  |_,_=>none
 | .slice t x lo hi none=>match ev st x with
  |some (.s (.one (.own id)))=>match Wj T t,WjQ st lo,WjQ st hi with
   |some ⟨_,false,.slice et⟩,some l,some h=>match Wj T et with
    |some te=>match Wsn A o with
     |some .view=>if te.plain then Web st te.ty id l h k else none
     |_=>match l,h,Wj st.objs id with
      |none,some h,some (.arr e xs)=>if te.ty=e.ro/\te.plain then(bif decide (0<=h)&&decide (h<=(xs.length:Int))then k (.s (.one (.own st.nx))) ((st.nx,.arr e (xs.take h.toNat))::(id,.dead)::st.objs) (st.nx+1)else none)else none
      |none,some h,some (.hole e xs i p)=>if te.ty=e.ro/\te.plain/\WpH (Wj st.objs p) e.size then(bif decide (0<=h)&&decide (h<=(xs.length:Int))&&decide (h<=(i:Int))then k (.s (.one (.own st.nx))) ((st.nx,.arr e (xs.take h.toNat))::(id,.dead)::(p,.dead)::st.objs) (st.nx+1)else none)else none
      |_,_,_=>none
    |none=>none
   |_,_,_=>none
  |_=>match W1 T st o.op with
   |some (c,v)=>bif c then k v st.objs st.nx else none
   |none=>none
 | .call c=>match c.callee,c.args.toList,c.argTypes.toList with
  | .builtin .append,[s,x],[t,t2]=>match ev st s,ev st x with
   |some sv,some xv=>Wc0 T st t t2 sv xv k
   |_,_=>none
  | .builtin .clear,[x],[t]=>match ev st x with
   |some (.s (.one (.vw id lo hi)))=>match Wj T t,Wj st.objs id with
    |some ⟨_,false,.slice et⟩,some (.arr e xs)=>match Wj T et with
     |some te=>if te.ty=e/\te.plain/\e.data then k (.tup []) ((id,.arr e (xs.take lo++Xr (hi-lo) e.dflt++xs.drop hi))::st.objs) st.nx else none
     |none=>none
    |_,_=>none
   |_=>none
  | .builtin _,_,_=>match W1 T st o.op with
   |some (c,v)=>bif c then k v st.objs st.nx else none
   |none=>none
  | .value f,args,_=>match ev st f,evs st args with
   |some (.s (.one (.clos g caps))),some xs=>match Wj Γ g with
    |some sg=>match sg.inl with
     |none=>WkN sg st (xs++WfD caps) k
     |some i=>i.fn R {env:=Wbo 0 (xs++WfD caps),objs:=st.objs,nx:=st.nx} k
    |none=>none
   |_,_=>none
  |_,_,_=>none
 |op=>match W1 T st op with
  |some (c,v)=>bif c then k v st.objs st.nx else none
  |none=>none
def rx1{R:Type}(T:Tab)(Γ:Ctx)(A:List (Nat×An))(o:Oper)(st:St)(k:St->Option R):Option R:=
 rxe T Γ A o st λx objs nx=>k (({env:=st.env,objs:=objs,nx:=nx}:St).put o.dst x)
def rxg{R:Type}(T:Tab)(Γ:Ctx)(A:List (Nat×An))(ops:Array Oper)(o:Oper)(st:St)(k:St->Option R):Option R:=
 match o.guard with
 |none=>rx1 T Γ A o st k
 |some (j,want)=>match(ops[j]?).bind (·.dst)with
  |some t=>match Wj st.env t with
   |some (.tup [])=>k (st.put o.dst (.tup []))
   |some x=>match asB x with
    |some b=>bif b
     then(if want then rx1 T Γ A o (st.put (some t) (one .bool true)) k else k ((st.put (some t) (one .bool true)).put o.dst (.tup [])))
     else(if want then k ((st.put (some t) (one .bool false)).put o.dst (.tup []))else rx1 T Γ A o (st.put (some t) (one .bool false)) k)
    |none=>none
   |none=>none
  |none=>none
inductive Ex where
 |normal|exit (id:Nat)|ret
def Wml{R:Type}(f:St->(Ex->St->Option R)->Option R):Nat->St->(Ex->St->Option R)->Option R
 |0,_,_=>none
 |n+1,st,k=>f st λe ac=>match e with
  | .normal=>Wml f n ac k
  | .exit id=>k (.exit id) ac
  | .ret=>k .ret ac
inductive Ghost where
 |canon (slots:List Nat)
 |adopt (slot:Nat) (e:Ty)
 |freeze (slot:Nat)
 |adoptC (slot off:Nat) (e:Ty)
 |freezeC (slot off:Nat)
 |nest (dst:Nat) (e:Ty)
 |view (dst:Nat)
 |opn (dst:Nat)
 |unfE (slot:Nat)
 |unfS (slot:Nat) (ix:Option Nat)
 |unfC (slot off:Nat) (ix:Option Nat)
 |empt (slot:Nat) (e:Ty)
 |refold (slot:Nat)
 |shut (slot off:Nat)
 |shutD (dst off:Nat)
 |solo (slot:Nat)
 |soloC (slot off:Nat)
def Whw:List Ghost->List (Nat×An)
 | []=>[]
 | .nest d e::l=>(d,.nest e)::Whw l
 | .view d::l=>(d,.view)::Whw l
 | .opn d::l=>(d,.opn)::Whw l
 | .canon _::l=>Whw l
 | .adopt _ _::l=>Whw l
 | .freeze _::l=>Whw l
 | .adoptC _ _ _::l=>Whw l
 | .freezeC _ _::l=>Whw l
 | .unfE _::l=>Whw l
 | .unfS _ _::l=>Whw l
 | .unfC _ _ _::l=>Whw l
 | .refold _::l=>Whw l
 | .shut _ _::l=>Whw l
 | .shutD d off::l=>(d,.shut off)::Whw l
 | .empt _ _::l=>Whw l
 | .solo _::l=>Whw l
 | .soloC _ _::l=>Whw l
def WaH:Cell->List Nat
 | .own id| .aptr id| .ptr id _| .eptr id _ _| .vw id _ _=>[id]
 | .clos _ caps=>caps
 |_=>[]
def Wd4:AV->List Nat
 | .one c=>WaH c
 | .agg cs=>cs.flatMap WaH
def Wav:AVal->List Nat
 | .s x=>Wd4 x
 | .tup xs=>xs.flatMap Wd4
def WjD:Nat->List Nat->List Nat->WZ->List Nat
 |0,_,acc,_=>acc
 |n+1,todo,acc,objs=>match todo with
  | []=>acc
  |i::l=>if WbB i acc then WjD n l acc objs else
   match Wj objs i with
   |some (.box cs)=>WjD n (l++cs.flatMap WaH) (acc++ [i]) objs
   |some (.arr _ _)=>WjD n l (acc++ [i]) objs
   |some (.hole _ _ _ p)=>WjD n (l++ [p]) (acc++ [i]) objs
   |_=>WjD n l acc objs
def Wo8(i:Nat):List Nat->Option Nat
 | []=>none
 |j::l=>if Xaz i j then some 0 else(Wo8 i l).map (· +1)
def Wld(m:List Nat):List Nat->Option (List Nat)
 | []=>some []
 |i::l=>match Wo8 i m,Wld m l with
  |some j,some r=>some (j::r)
  |_,_=>none
def Wb8(m:List Nat):Cell->Cell
 | .own id=>match Wo8 id m with|some j=>.own j|none=>.junk
 | .vw id lo hi=>match Wo8 id m with|some j=>.vw j lo hi|none=>.junk
 | .aptr id=>match Wo8 id m with|some j=>.aptr j|none=>.junk
 | .ptr id off=>match Wo8 id m with|some j=>.ptr j off|none=>.junk
 | .eptr id i off=>match Wo8 id m with|some j=>.eptr j i off|none=>.junk
 | .clos f caps=>match Wld m caps with|some js=>.clos f js|none=>.junk
 | .val t d=>.val t d
 | .nils=>.nils
 | .rptr t d off=>.rptr t d off
 | .junk=>.junk
def Wse(m:List Nat):AV->AV
 | .one c=>.one (Wb8 m c)
 | .agg cs=>.agg (cs.map (Wb8 m))
def WlG(m:List Nat):AVal->AVal
 | .s x=>.s (Wse m x)
 | .tup xs=>.tup (xs.map (Wse m))
def Woz(m:List Nat):Ob->Ob
 | .box cs=>.box (cs.map (Wb8 m))
 | .arr e xs=>.arr e xs
 | .hole e xs i p=>match Wo8 p m with|some j=>.hole e xs i j|none=>.dead
 | .dead=>.dead
def WeB(env:List (Nat×AVal)):List Nat->List (Nat×AVal)
 | []=>[]
 |i::l=>match Wj env i with
  |some x=>(i,x)::WeB env l
  |none=>WeB env l
def WcU(m:List Nat)(objs:WZ):Nat->List Nat->WZ
 |_,[]=>[]
 |j,i::l=>match Wj objs i with
  |some ob=>(j,Woz m ob)::WcU m objs (j+1) l
  |none=>WcU m objs (j+1) l
def canon(slots:List Nat)(st:St):St:=
 let env:=WeB st.env slots
 let m:=WjD 400 (env.flatMap λp=>Wav p.2) [] st.objs
 {env:=env.map λp=>(p.1,WlG m p.2),objs:=WcU m st.objs 0 m,nx:=m.length}
def Wiv(st:St)(r i:Nat):Option St:=
 match Wj st.objs r with
 |some (.arr e xs)=>
  let x:=unfold e (xs.getD i e.dflt) (st.nx+1)
  some {env:=st.env,objs:=(r,.hole e xs i st.nx)::(st.nx,.box x.1)::(x.2.1++st.objs),nx:=x.2.2}
 |_=>none
def Wrg(st:St)(r:Nat):Option Nat->Option (Bool×Nat)
 |none=>match Wj st.objs r with
  |some (.arr _ xs)=>some (inb (WC .i64 (Wh xs) 1) (Xb xs),(WC .i64 (Wh xs) 1).toNat)
  |_=>none
 |some s=>match Wj st.objs r,(Wj st.env s).bind asI with
  |some (.arr _ xs),some n=>some (inb n (Xb xs),n.toNat)
  |_,_=>none
def WhU(st:St)(r:Nat)(ix:Option Nat):Option (Bool×St):=
 match Wrg st r ix with
 |some (c,i)=>(Wiv st r i).map λac=>(c,ac)
 |none=>none
def Wlb(p:Nat):WZ->Option Nat
 | []=>none
 |(r,.hole _ _ _ p')::l=>if Xaz p p' then some r else Wlb p l
 |(_,.box _)::l=>Wlb p l
 |(_,.arr _ _)::l=>Wlb p l
 |(_,.dead)::l=>Wlb p l
def Wjk(st:St)(p:Nat):Option St:=
 match Wlb p st.objs with
 |some r=>match Wj st.objs r,Wj st.objs p with
  |some (.hole e xs i p'),some (.box cs)=>match Wac e cs st.objs with
   |some (d,m,[])=>if Xaz p p'&&WaR (r::p::m)then some {env:=st.env,objs:=(r,.arr e (xs.set i d))::kill st.objs (p::m),nx:=st.nx}else none
   |_=>none
  |_,_=>none
 |none=>none
def WcW(g:Ghost)(st:St):Option (Bool×St):=
 match g with
 | .canon slots=>some (true,canon slots st)
 | .adopt slot e=>match Wj st.env slot with
  |some (.s (.one .nils))=>some (true,st.new (some slot) (.arr e []) (.s (.one (.own st.nx))))
  |some (.s (.one (.own _)))=>some (true,st)
  |_=>none
 | .freeze slot=>match Wj st.env slot with
  |some (.s (.one (.own id)))=>match Wj st.objs id with
   |some (.arr e xs)=>some (true,(st.turn id .dead).put (some slot) (one (.slice e.ro) (WbQ e xs)))
   |_=>none
  |_=>none
 | .adoptC slot off e=>match Wj st.env slot with
  |some (.s (.one (.ptr id 0)))=>match Wj st.objs id with
   |some (.box cs)=>match cs[off]? with
    |some .nils=>some (true,{env:=st.env,objs:=(id,.box (cs.set off (.own st.nx)))::(st.nx,.arr e [])::st.objs,nx:=st.nx+1})
    |some (.own _)=>some (true,st)
    |_=>none
   |_=>none
  |_=>none
 | .freezeC slot off=>match Wj st.env slot with
  |some (.s (.one (.ptr id 0)))=>match Wj st.objs id with
   |some (.box cs)=>match cs[off]? with
    |some (.own j)=>match Wj st.objs j with
     |some (.arr e xs)=>some (true,{st with objs:=(id,.box (cs.set off (.val (.slice e.ro) (WbQ e xs))))::(j,.dead)::st.objs})
     |_=>none
    |some (.val _ _)=>some (true,st)
    |some .nils=>some (true,st)
    |_=>none
   |_=>none
  |_=>none
 | .nest _ _=>some (true,st)
 | .view _=>some (true,st)
 | .opn _=>some (true,st)
 | .shutD _ _=>some (true,st)
 | .unfE slot=>match Wj st.env slot with
  |some (.s (.one (.eptr r i 0)))=>(Wiv st r i).map λac=>(true,ac.put (some slot) (.s (.one (.ptr st.nx 0))))
  |_=>none
 | .unfS slot ix=>match Wj st.env slot with
  |some (.s (.one (.own r)))=>WhU st r ix
  |_=>none
 | .unfC slot off ix=>match Wj st.env slot with
  |some (.s (.one (.ptr id o)))=>match Wj st.objs id with
   |some (.box cs)=>match cs[o+off]? with
    |some (.own r)=>WhU st r ix
    |_=>none
   |_=>none
  |_=>none
 | .refold slot=>match Wj st.env slot with
  |some (.s (.one (.ptr p _)))=>(Wjk st p).map λac=>(true,ac)
  |_=>none
 | .shut slot off=>match Wj st.env slot with
  |some (.s (.one (.ptr id o)))=>match Wj st.objs id with
   |some (.box cs)=>match cs[o+off]? with
    |some (.own r)=>match Wj st.objs r with
     |some (.hole _ _ _ p)=>(Wjk st p).map λac=>(true,ac)
     |some (.arr _ _)=>some (true,st)
     |_=>none
    |_=>none
   |_=>none
  |_=>none
 | .empt slot e=>match Wj st.env slot with
  |some (.s (.one (.own id)))=>match Wj st.objs id with
   |some (.arr e' [])=>if e.size=e'.size/\e.ro=e'.ro then some (true,st.turn id (.arr e []))else none
   |_=>none
  |_=>none
 | .solo slot=>match Wj st.env slot with
  |some (.s (.one (.vw id lo hi)))=>match Wj st.objs id with
   |some (.arr e xs)=>some (true,(st.turn id .dead).new (some slot) (.arr e ((xs.take hi).drop lo)) (.s (.one (.own st.nx))))
   |_=>none
  |some (.s (.one (.own _)))=>some (true,st)
  |_=>none
 | .soloC slot off=>match Wj st.env slot with
  |some (.s (.one (.ptr id o)))=>match Wj st.objs id with
   |some (.box cs)=>match cs[o+off]? with
    |some (.vw j lo hi)=>match Wj st.objs j with
     |some (.arr e xs)=>some (true,{env:=st.env,objs:=(id,.box (cs.set (o+off) (.own st.nx)))::(st.nx,.arr e ((xs.take hi).drop lo))::(j,.dead)::st.objs,nx:=st.nx+1})
     |_=>none
    |some (.own _)=>some (true,st)
    |_=>none
   |_=>none
  |_=>none
def Ghost.quiet:Ghost->Bool
 | .canon _=>false
 |_=>true
def Wbl:List Ghost->St->Option (Bool×St)
 | [],st=>some (true,st)
 |g::l,st=>match WcW g st with
  |some (c,ac)=>match Wbl l ac with
   |some (c',bn)=>some (c&&c',bn)
   |none=>none
  |none=>none
def opG(A:List (Nat×An))(o:Oper)(st:St):Option (Bool×St):=match Wsn A o,o.dst with
 |some .opn,some d=>match Wj st.env d with
  |some (.tup [])=>some (true,st)
  |_=>WcW (.unfE d) st
 |some .view,_=>some (true,st)
 |some (.nest _),_=>some (true,st)
 |none,_=>some (true,st)
 |some .opn,none=>some (true,st)
 |some (.shut off),some d=>WcW (.shut d off) st
 |some (.shut _),none=>some (true,st)
def rxs{R:Type}(T:Tab)(Γ:Ctx)(A:List (Nat×An))(ops:Array Oper):List Oper->St->(St->Option R)->Option R
 | [],st,k=>k st
 |o::l,st,k=>rxg T Γ A ops o st λac=>match opG A o ac with
  |some (c,bn)=>bif c then rxs T Γ A ops l bn k else none
  |none=>none
def Wev:Code->Option Nat
 | .region id _ _=>some id
 | .seq a b=>match Wev a with
  |some i=>some i
  |none=>Wev b
 | .cond _ a b=>match Wev a with
  |some i=>some i
  |none=>Wev b
 | .block _ c=>Wev c
 | .loop c=>(Wev c).map (· +100000)
 |_=>none
def WeA(c:Code):Nat:=match Wev c with
 |some i=>i+100000
 |none=>99999
def Wis{R:Type}(gs:List Ghost)(f:St->(Ex->St->Option R)->Option R)(st:St)(k:Ex->St->Option R):Option R:=
 f st λe ac=>match e with
  | .normal=>match Wbl gs ac with
   |some (c,bn)=>bif c then k .normal bn else none
   |none=>none
  | .exit id=>k (.exit id) ac
  | .ret=>k .ret ac
def W0:Op->List Operand
 | .move x| .assign x| .box _ x| .load _ x| .nilCheck x| .unOp _ _ x| .convert _ _ x| .fieldAddr _ x _| .field _ x _| .extract x _=>[x]
 | .pick c a b=>[c,a,b]
 | .build _ ps| .buildSlice _ _ ps=>ps.toList.map (·.2)
 | .store _ a v| .binOp _ _ a v _| .makeSlice _ a v| .indexAddr _ a v| .index _ a v=>[a,v]
 | .makeFunc _ first captured=>first.toList++captured.toList
 | .slice _ x l h m=>x::(l.toList++(h.toList++m.toList))
 | .call c=>(match c.callee with| .value f=>[f]|_=>[])++c.args.toList
 |_=>[]
def Wao(o:Oper):Bool:=match o.op with
 | .alloc _| .box _ _| .buildSlice _ _ _| .makeSlice _ _ _| .store _ _ _| .slice _ _ _ _ _=>true
 | .call c=>match c.callee with
  | .builtin .append=>true
  | .builtin .clear=>true
  | .builtin _=>false
  |_=>true
 |_=>false
def WrO:Op->Bool
 | .load _ _| .nilCheck _| .binOp _ _ _ _ _| .convert _ _ _| .fieldAddr _ _ _| .indexAddr _ _ _| .call _=>true
 |_=>false
def Wdi(st:St):List Operand->List Nat
 | []=>[]
 |x::l=>match ev st x with
  |some v=>Wav v++Wdi st l
  |none=>Wdi st l
def WbN(o:Oper)(st:St):List Nat:=bif WrO o.op then Wdi st (W0 o.op)else []
def WfH(l:WZ):List Nat:=l.map (·.1)
def Wmo(a b:WZ):List Nat:=WfH (b.take (b.length-a.length))
def Ws0(x:Nat)(l:List Nat):List Nat:=bif WbB x l then l else x::l
def Wk6:List Nat->List Nat->List Nat
 | [],l=>l
 |x::m,l=>Wk6 m (Ws0 x l)
def Wk0(o:Oper):List Nat:=(o.after.toList.filter (Region.binds .any)).map (·.on)
def Wjm(acc:List (List Nat)):List Nat->List Nat->List Nat
 | [],l=>l
 |j::ds,l=>Wjm acc ds (Wk6 (acc.getD j []) (Ws0 j l))
def WbV:List Oper->List (List Nat)->List (List Nat)
 | [],acc=>acc
 |o::l,acc=>WbV l (acc++ [Wjm acc (Wk0 o) []])
def WbS(B:List (List Nat))(j i:Nat):Bool:=WbB j (B.getD i [])
def WqO:List Oper->Nat->Bool
 | [],_=>true
 |o::l,n=>(Wk0 o).all (λd=>Xfp d n)&&WqO l (n+1)
def WoG:Operand->List Nat
 | .tmp t=>[t]
 |_=>[]
def Wcr(ops:Array Oper)(o:Oper):List Nat:=(W0 o.op).flatMap WoG++(match o.guard with
 |some (j,_)=>((ops[j]?).bind (·.dst)).toList
 |none=>[])
def WfY:List Oper->Nat->List (Nat×Nat)
 | [],_=>[]
 |o::l,i=>match o.dst with
  |some d=>(d,i)::WfY l (i+1)
  |none=>WfY l (i+1)
def WjC(ops:Array Oper)(B:List (List Nat))(D:List (Nat×Nat)):List Oper->Nat->Bool
 | [],_=>true
 |o::l,i=>(Wcr ops o).all (λt=>D.all λp=>!Xaz p.1 t||Xaz p.2 i||WbS B p.2 i||WbS B i p.2)&&WjC ops B D l (i+1)
def Wql(ops:Array Oper)(B:List (List Nat)):Bool:=
 WqO ops.toList 0&&WaR ((WfY ops.toList 0).map (·.1))&&WjC ops B (WfY ops.toList 0) ops.toList 0
def WcA:List Oper->Nat->List Nat
 | [],_=>[]
 |o::l,i=>bif Wao o then i::WcA l (i+1)else WcA l (i+1)
def Woj(B:List (List Nat)):Nat->List Nat->List (List Nat)
 |0,_=>[[]]
 |n+1,rem=>match rem with
  | []=>[[]]
  |_=>(rem.filter λm=>rem.all λm'=>!WbS B m' m).flatMap λm=>(Woj B n (rem.filter λx=>!Xaz x m)).map (m:: ·)
def Wrd(ops:List Oper)(B:List (List Nat))(done:List Nat)(σ:List Nat):Nat->Option Nat:=λi=>match ops with
 | []=>none
 |o::l=>bif !WbB i done&&(B.getD i []).all (λj=>WbB j done)&&(!Wao o||(match σ with|m::_=>Xaz m i| []=>false))then some i else Wrd l B done σ (i+1)
def Wg7(ops:List Oper)(B:List (List Nat)):Nat->List Nat->List Nat->List Nat
 |0,_,_=>[]
 |n+1,done,σ=>match Wrd ops B done σ 0 with
  |some i=>i::Wg7 ops B n (i::done) (match σ with|m::σ'=>bif Xaz m i then σ' else σ| []=>[])
  |none=>[]
def WgS(ops:Array Oper):List Nat->List Nat->Bool
 | [],done=>Xaz done.length ops.size
 |i::l,done=>!WbB i done&&(match ops[i]? with|some o=>(Wk0 o).all (λd=>WbB d done)|none=>false)&&WgS ops l (i::done)
def WeN{α:Type}:List Nat->(List Nat->α)->α
 | [],k=>k []
 |x::l,k=>WeN l λl'=>k (x::l')
def Wmw{α:Type}:List (List Nat)->(List (List Nat)->α)->α
 | [],k=>k []
 |x::l,k=>WeN x λx'=>Wmw l λl'=>k (x'::l')
def rdx{R:Type}(T:Tab)(Γ:Ctx)(A:List (Nat×An))(ops:Array Oper)(B:List (List Nat)):List Nat->List (Nat×List Nat)->List (Nat×List Nat)->St->(St->Option R)->Option R
 | [],_,_,st,k=>k st
 |i::l,fl,mu,st,k=>match ops[i]? with
  |some o=>bif Wao o
   then rxg T Γ A ops o st λac=>WeN (Wmo st.objs ac.objs) λids=>
    bif fl.all (λp=>WbS B p.1 i||Wen p.2 ids)then rdx T Γ A ops B l fl ((i,ids)::mu) ac k else none
   else WeN (WbN o st) λids=>
    bif mu.all (λp=>WbS B p.1 i||Wen ids p.2)then rxg T Γ A ops o st λac=>rdx T Γ A ops B l ((i,ids)::fl) mu ac k else none
  |none=>none
def Wn{α β:Type}(x:α)(f:α->β):β:=f x
open Classical in
noncomputable def Wf3{α:Type}(a b:Option α):Option α:=if a=b then a else none
noncomputable def Wsf{R:Type}(T:Tab)(Γ:Ctx)(A:List (Nat×An))(ops:Array Oper)(B:List (List Nat))(st:St)(k:St->Option R):List (List Nat)->Option R
 | []=>none
 |σ::l=>
  let a:=WeN (Wg7 ops.toList B ops.size [] σ) λL=>bif WgS ops L []&&eqN (L.filter λi=>WbB i σ) σ then rdx T Γ A ops B L [] [] st k else none
  match l with
  | []=>a
  |_=>Wf3 a (Wsf T Γ A ops B st k l)
noncomputable def Wi6{R:Type}(T:Tab)(Γ:Ctx)(A:List (Nat×An))(ops:Array Oper)(st:St)(k:St->Option R):Option R:=
 Wmw (WbV ops.toList []) λB=>bif Wql ops B then Wsf T Γ A ops B st k (Woj B ops.size (WcA ops.toList 0))else none
noncomputable def sx{R:Type}(T:Tab)(Γ:Ctx)(ann:Nat->List Ghost)(N:Nat):Code->St->(Ex->St->Option R)->Option R
 | .skip,st,k=>k .normal st
 | .region id ops draw,st,k=>
  bif draw then Wi6 T Γ (Whw (ann id)) ops st λac=>match Wbl (ann id) ac with
   |some (c,bn)=>bif c then k .normal bn else none
   |none=>none
  else rxs T Γ (Whw (ann id)) ops ops.toList st λac=>match Wbl (ann id) ac with
   |some (c,bn)=>bif c then k .normal bn else none
   |none=>none
 | .seq a b,st,k=>sx T Γ ann N a st λe ac=>match e with
  | .normal=>sx T Γ ann N b ac k
  | .exit id=>k (.exit id) ac
  | .ret=>k .ret ac
 | .cond c x y,st,k=>match(ev st c).bind asB with
  |some b=>bif b then sx T Γ ann N x st k else sx T Γ ann N y st k
  |none=>none
 | .block id c,st,k=>sx T Γ ann N c st λe ac=>match e with
  | .exit bw=>if bw=id then k .normal ac else k (.exit bw) ac
  | .normal=>k .normal ac
  | .ret=>k .ret ac
 | .loop c,st,k=>match Wbl (ann (WeA c)) st with
  |some (b,ac)=>bif b then Wml (Wis (ann (WeA c)) λst k=>sx T Γ ann N c st k) N ac k else none
  |none=>none
 | .exit id,st,k=>k (.exit id) st
 | .ret,st,k=>k .ret st
 |_,_,_=>none
def Wpi:List AVal->List Nat
 | []=>[]
 | .s (.one (.ptr id 0))::l=>id::Wpi l
 |_::l=>Wpi l
def WF:(ps:List PTy)->Wea ps->WZ->Nat->List AVal×WZ×Nat
 | [],_,objs,nx=>([],objs,nx)
 | .v t agg::ps,d,objs,nx=>
  let x:=unfold t d.1 nx
  let y:=WF ps d.2 (x.2.1++objs) x.2.2
  (.s (WsG agg x.1)::y.1,y.2)
 | .box t::ps,d,objs,nx=>
  let x:=unfold t d.1 (nx+1)
  let y:=WF ps d.2 ((nx,.box x.1)::(x.2.1++objs)) x.2.2
  (.s (.one (.ptr nx 0))::y.1,y.2)
 | .mut e::ps,d,objs,nx=>
  let y:=WF ps d.2 ((nx,.arr e d.1)::objs) (nx+1)
  (.s (.one (.own nx))::y.1,y.2)
 | .clos g n::ps,d,objs,nx=>
  let y:=WF ps d objs nx
  (.s (.one (.clos g (Wpi (y.1.take n))))::y.1.drop n,y.2)
 | .kv t agg::ps,d,objs,nx=>
  let x:=unfold t d.1 nx
  let y:=WF ps d.2 (x.2.1++objs) x.2.2
  (.s (WsG agg x.1)::y.1,y.2)
 | .rp t::ps,d,objs,nx=>
  let y:=WF ps d.2 objs nx
  (.s (.one (.rptr t d.1 0))::y.1,y.2)
 | .vj _::ps,d,objs,nx=>
  let y:=WF ps d objs nx
  (.tup []::y.1,y.2)
 | .boxal t lf::ps,d,objs,nx=>
  let x:=unfold t d.1 (nx+1)
  let y:=WF ps d.2.2 ((nx,.box x.1)::(x.2.1++objs)) x.2.2
  (.s (.one (.ptr nx 0)):: .s (.one (.eptr (nx+1+lf) d.2.1 0))::y.1,y.2)
def Wch(T:Tab)(st:St):List ResultVar->Option (List AVal)
 | []=>some []
 | .tmp t::rs=>match Wj st.env t,Wch T st rs with
  |some x,some xs=>some (x::xs)
  |_,_=>none
 | .cell a t::rs=>match(Wj st.env a).bind (WfN T st t),Wch T st rs with
  |some x,some xs=>some (x::xs)
  |_,_=>none
structure Outs(α:Type) where
 d:α
 moved:List Nat
 lent:List Nat
def WaB:(rs:List PTy)->List AVal->WZ->Option (Outs (Wfj rs))
 | [],xs,_=>match xs with
  | []=>some ⟨(),[],[]⟩
  |_=>none
 | .v t agg::rs,xs,objs=>match xs with
  |x::xs=>match(cellsOf agg x).bind λcs=>Wac t cs objs,WaB rs xs objs with
   |some (d,m,l),some A=>some ⟨(d,A.d),m++A.moved,l++A.lent⟩
   |_,_=>none
  |_=>none
 | .box t::rs,xs,objs=>match xs with
  | .s (.one (.ptr id 0))::xs=>match Wj objs id with
   |some (.box cs)=>match Wac t cs objs,WaB rs xs objs with
    |some (d,m,l),some A=>some ⟨(d,A.d),id::(m++A.moved),l++A.lent⟩
    |_,_=>none
   |_=>none
  |_=>none
 | .mut _::_,_,_=>none
 | .clos _ _::_,_,_=>none
 | .kv _ _::_,_,_=>none
 | .rp _::_,_,_=>none
 | .vj t::rs,xs,objs=>match xs with
  | .s (.agg cs)::xs=>if cs.length=t.size+1 then(match Wac t (cs.take t.size) objs,WaB rs xs objs with
   |some (d,m,l),some A=>some ⟨(d,A.d),m++A.moved,l++A.lent⟩
   |_,_=>none)else none
  |_=>none
 | .boxal _ _::_,_,_=>none
structure OutK(α:Type) where
 d:α
 kept:List Nat
 moved:List Nat
 lent:List Nat
def Wq:List PTy->Nat->Nat->St->List AVal
 | [],_,_,_=>[]
 |_::ps,i,k+1,st=>Wq ps i k st
 | .v _ _::ps,i,0,st=>.tup []::Wq ps (i+1) 0 st
 | .box _::ps,i,0,st=>(Wj st.env i).getD (.tup [])::Wq ps (i+1) 0 st
 | .mut _::ps,i,0,st=>(Wj st.env i).getD (.tup [])::Wq ps (i+1) 0 st
 | .clos _ n::ps,i,0,st=>(Wj st.env i).getD (.tup [])::Wq ps (i+1) n st
 | .kv _ _::ps,i,0,st=>(Wj st.env i).getD (.tup [])::Wq ps (i+1) 0 st
 | .rp _::ps,i,0,st=>.tup []::Wq ps (i+1) 0 st
 | .vj _::ps,i,0,st=>.tup []::Wq ps (i+1) 0 st
 | .boxal _ _::ps,i,0,st=>(Wj st.env i).getD (.tup []):: .tup []::Wq ps (i+2) 0 st
def WO:(ps:List PTy)->List AVal->WZ->Option (OutK (WeG ps))
 | [],_,_=>some ⟨(),[],[],[]⟩
 | .v _ _::ps,xs,objs=>(WO ps xs.tail objs).map λA=>⟨A.d,A.kept,A.moved,A.lent⟩
 | .box t::ps,xs,objs=>match xs with
  | .s (.one (.ptr id 0))::xs=>match Wj objs id with
   |some (.box cs)=>match Wac t cs objs,WO ps xs objs with
    |some (d,m,l),some A=>some ⟨(d,A.d),id::A.kept,m++A.moved,l++A.lent⟩
    |_,_=>none
   |_=>none
  |_=>none
 | .mut e::ps,xs,objs=>match xs with
  | .s (.one (.own id))::xs=>match Wj objs id with
   |some (.arr e' ys)=>match WeM e' e ys,WO ps xs objs with
    |some d,some A=>some ⟨(d,A.d),id::A.kept,A.moved,A.lent⟩
    |_,_=>none
   |_=>none
  |_=>none
 | .clos g n::ps,xs,objs=>match xs with
  | .s (.one (.clos g' caps))::xs=>if g'=g/\caps.length=n then(WO ps (WfD caps++xs) objs).map λA=>⟨A.d,A.kept,A.moved,A.lent⟩else none
  |_=>none
 | .kv t agg::ps,xs,objs=>match xs with
  |x::xs=>match(cellsOf agg x).bind λcs=>Wac t cs objs,WO ps xs objs with
   |some (d,m,l),some A=>if WkP objs t m x then some ⟨(d,A.d),m++A.kept,A.moved,l++A.lent⟩else none
   |_,_=>none
  |_=>none
 | .rp _::ps,xs,objs=>(WO ps xs.tail objs).map λA=>⟨A.d,A.kept,A.moved,A.lent⟩
 | .vj _::_,_,_=>none
 | .boxal t _::ps,xs,objs=>match xs with
  | .s (.one (.ptr id 0))::_::xs=>match Wj objs id with
   |some (.box cs)=>match Wac t cs objs,WO ps xs objs with
    |some (d,m,l),some A=>some ⟨(d,A.d),id::A.kept,m++A.moved,l++A.lent⟩
    |_,_=>none
   |_=>none
  |_=>none
def Ws7{R:Type}(T:Tab)(sg:Sig)(rv:List ResultVar)(k:WeG sg.ps×Wfj sg.rs->Option R)(e:Ex)(st:St):Option R:=
 match e with
 | .exit _=>none
 |_=>match Wch T st rv with
  |some xs=>match WaB sg.rs xs st.objs,WO sg.ps (Wq sg.ps 0 0 st) st.objs with
   |some A,some B=>if WaR (B.kept++(B.moved++A.moved))&&Wen (A.lent++B.lent) (B.kept++(B.moved++A.moved))then k (B.d,A.d)else none
   |_,_=>none
  |none=>none
noncomputable def den{R:Type}(T:Tab)(Γ:Ctx)(ann:Nat->List Ghost)(N:Nat)(sg:Sig)(f:Func)(d:Wea sg.ps)(k:WeG sg.ps×Wfj sg.rs->Option R):Option R:=
 let x:=WF sg.ps d [] 0
 match f.body,Wbl (ann 1000000) {env:=Wbo 0 x.1,objs:=x.2.1,nx:=x.2.2}with
 |some c,some (b,st)=>bif b then sx T Γ ann N c st (Ws7 T sg f.results.toList k)else none
 |_,_=>none
def Wdd:List PTy->Nat->Nat->List Nat
 | [],_,_=>[]
 |_::ps,i,k+1=>Wdd ps i k
 | .v _ _::ps,i,0=>Wdd ps (i+1) 0
 | .box _::ps,i,0=>i::Wdd ps (i+1) 0
 | .mut _::ps,i,0=>i::Wdd ps (i+1) 0
 | .clos _ n::ps,i,0=>i::Wdd ps (i+1) n
 | .kv _ _::ps,i,0=>i::Wdd ps (i+1) 0
 | .rp _::ps,i,0=>Wdd ps (i+1) 0
 | .vj _::ps,i,0=>Wdd ps (i+1) 0
 | .boxal _ _::ps,i,0=>i::Wdd ps (i+2) 0
def Wbj:List PTy->Nat
 | []=>0
 | .v _ _::ps=>Wbj ps+1
 | .box _::ps=>Wbj ps+1
 | .mut _::ps=>Wbj ps+1
 | .clos _ _::ps=>Wbj ps+1
 | .kv _ _::ps=>Wbj ps+1
 | .rp _::ps=>Wbj ps+1
 | .vj _::ps=>Wbj ps+1
 | .boxal _ _::ps=>Wbj ps+2
def WhV:List PTy->Nat->Bool
 |_,0=>true
 | .box _::ps,n+1=>WhV ps n
 |_,_+1=>false
def WbJ:List PTy->Bool
 | []=>true
 | .clos _ n::ps=>WhV ps n&&WbJ ps
 | .v _ _::ps=>WbJ ps
 | .box _::ps=>WbJ ps
 | .mut _::ps=>WbJ ps
 | .kv _ _::ps=>WbJ ps
 | .rp _::ps=>WbJ ps
 | .vj _::ps=>WbJ ps
 | .boxal _ _::ps=>WbJ ps
end Go.Sx
namespace Go.Sx
set_option linter.unusedVariables false
theorem Wc5{α:Type}{R:α->List Value->Prop}{n:Nat}(h:∀x c,R x c->c.length=n):
  ∀(l:List α) (cs:List Value),WcT R l cs->cs.length=l.length*n
 | [],cs,e=>by grind [WcT]
 |x::l,cs,e=>by
  obtain⟨c1,c2,rfl,h1,h2⟩:=e;have:=Wc5 h l c2 h2;rw[Xo,h _ _ h1,this,Xn,Xbl,Xcq]
theorem Wki{α:Type}{R R':α->List Value->Prop}(h:∀x c,R x c->R' x c):
  ∀(l:List α) (cs:List Value),WcT R l cs->WcT R' l cs
 | [],_,e=>e
 |_::l,_,⟨c1,c2,he,h1,h2⟩=>⟨c1,c2,he,h _ _ h1,Wki h l c2 h2⟩
theorem WcV{α:Type}{R:α->List Value->Prop}:∀(l l':List α) (cs bY:List Value),WcT R l cs->WcT R l' bY->WcT R (l++l') (cs++bY)
 | [],_,cs,bY,e,e'=>by grind [WcT]
 |x::l,l',_,bY,⟨c1,c2,he,h1,h2⟩,e'=>⟨c1,c2++bY,by simp[he],h1,WcV l l' c2 bY h2 e'⟩
theorem WiW{α:Type}{R:α->List Value->Prop}{n:Nat}(h:∀x c,R x c->c.length=n):
  ∀(l:List α) (cs:List Value) (i:Nat) (x:α),WcT R l cs->l[i]?=some x->R x ((cs.drop (i*n)).take n)
 | [],_,_,_,_,hi=>by simp at hi
 |y::l,cs,0,x,⟨c1,c2,he,h1,_⟩,hi=>by
  grind
 |y::l,cs,i+1,x,⟨c1,c2,he,h1,h2⟩,hi=>by
  have hl:=h _ _ h1;have:=WiW h l c2 i x h2 (by simp_all);rw[he,Xbl,Xcq,←Xdg,List.drop_left' hl];exact this
theorem Wdq{α:Type}{R:α->List Value->Prop}{n:Nat}(h:∀x c,R x c->c.length=n):
  ∀(l:List α) (cs:List Value) (m:Nat),WcT R l cs->WcT R (l.take m) (cs.take (m*n))
 | [],cs,m,e=>by grind [WcT]
 |x::l,cs,0,_=>by simp[WcT]
 |x::l,cs,m+1,⟨c1,c2,he,h1,h2⟩=>by
  have hl:=h _ _ h1;refine⟨c1,c2.take (m*n),?_,h1,Wdq h l c2 m h2⟩;rw[he,Xbl,Xcq,←hl,Xet]
theorem Wdw{α:Type}{R:α->List Value->Prop}{n:Nat}(h:∀x c,R x c->c.length=n):
  ∀(l:List α) (cs:List Value) (m:Nat),WcT R l cs->WcT R (l.drop m) (cs.drop (m*n))
 | [],cs,m,e=>by grind [WcT]
 |x::l,cs,0,e=>by grind
 |x::l,cs,m+1,⟨c1,c2,he,h1,h2⟩=>by
  have hl:=h _ _ h1;have:=Wdw h l c2 m h2
  grind [WcT,Xbl,Xcq,Xdg,Xfj]
theorem WiJ{α:Type}{R:α->List Value->Prop}{n:Nat}(h:∀x c,R x c->c.length=n):
  ∀(l:List α) (cs:List Value) (i:Nat) (x:α) (ds:List Value),WcT R l cs->i<l.length->R x ds->
   WcT R (l.set i x) (cs.take (i*n)++ds++cs.drop (i*n+n))
 | [],_,_,_,_,_,hi,_=>by simp at hi
 |y::l,cs,0,x,ds,⟨c1,c2,he,h1,h2⟩,_,hx=>by
  have hl:=h _ _ h1;refine⟨ds,c2,?_,hx,h2⟩;simp_all
 |y::l,cs,i+1,x,ds,⟨c1,c2,he,h1,h2⟩,hi,hx=>by
  have hl:=h _ _ h1;refine⟨c1,_,?_,h1,WiJ h l c2 i x ds h2 (by simp_all) hx⟩;have e1:(i+1)*n=c1.length+i*n:=by rw[Xbl,hl,Xcq]
  rw[he,e1,Xet,Xav,←Xdg,Xfj];simp
theorem WS{G:GH}:∀(t:Ty) (d:t.den) (cs:List Value),Enc G t d cs->cs.length=t.size
 | .int _,_,_,h=>by grind [Enc,Ty.size]
 | .bool,_,_,h=>by grind [Enc,Ty.size]
 | .str,_,_,h=>by grind [Enc,Ty.size]
 | .slice _,_,_,h=>by obtain⟨v,rfl,_⟩:=h;simp[Ty.size]
 | .own _,_,_,h=>h.elim
 | .prod a b,d,_,h=>by
  obtain⟨c1,c2,rfl,h1,h2⟩:=h;rw[Xo,WS a _ _ h1,WS b _ _ h2,Ty.size]
def GLe(G G':GH):Prop:=∀b o v,G b o=some v->G' b o=some v
theorem Whu{G G':GH}(h:GLe G G'){b o:Nat}{cs:List Value}(hs:Weh G b o cs):Weh G' b o cs:=λj v hj=>h _ _ _ (hs j v hj)
theorem WaG{G G':GH}(h:GLe G G'):∀(t:Ty) (d:t.den) (cs:List Value),Enc G t d cs->Enc G' t d cs
 | .int _,_,_,e=>e
 | .bool,_,_,e=>e
 | .str,_,_,e=>e
 | .slice e,d,cs,hh=>by
  obtain⟨v,hv,hr⟩:=hh;refine⟨v,hv,?_⟩;rcases hr with hr|⟨b,off,cap,bY,h1,h2,h3,h4,h5⟩|hr
  .exact .inl hr
  rotate_left
  .exact .inr (.inr hr)
  .exact .inr<| .inl ⟨b,off,cap,bY,h1,h2,h3,Wki (λx c hx=>WaG h e x c hx) _ _ h4,Whu h h5⟩
 | .own _,_,_,e=>e
 | .prod a b,d,_,⟨c1,c2,he,h1,h2⟩=>⟨c1,c2,he,WaG h a _ _ h1,WaG h b _ _ h2⟩
section
variable{G:GH}{ν:Nat->Nu}{nx:Nat}
theorem CellsRel.nil:CellsRel G ν nx [] []:=⟨rfl,λj c v h=>by simp at h⟩
theorem CellsRel.append{cs bY:List Cell}{vs aj:List Value}(h:CellsRel G ν nx cs vs)(h':CellsRel G ν nx bY aj):
  CellsRel G ν nx (cs++bY) (vs++aj):=by
 refine⟨by simp[h.1,h'.1],λj c v hc hv=>?_⟩;rw[Xan]at hc hv;rw[h.1]at hv;split at hc
 .rename_i ad;rw[We ad]at hv;exact h.2 j c v hc hv
 .rename_i ad;rw[Wc ad]at hv;exact h'.2 _ c v hc hv
theorem CellsRel.take{cs:List Cell}{vs:List Value}(h:CellsRel G ν nx cs vs)(n:Nat):CellsRel G ν nx (cs.take n) (vs.take n):=by
 refine⟨by simp[h.1],λj c v hc hv=>?_⟩;rw[Xbg]at hc hv;split at hc
 .rename_i ad;rw[We ad]at hv;exact h.2 j c v hc hv
 grind
theorem CellsRel.drop{cs:List Cell}{vs:List Value}(h:CellsRel G ν nx cs vs)(n:Nat):CellsRel G ν nx (cs.drop n) (vs.drop n):=by
 refine⟨by simp[h.1],λj c v hc hv=>?_⟩;rw[Xbf]at hc hv;exact h.2 _ c v hc hv
theorem CellsRel.one{c:Cell}{v:Value}(h:CellRel G ν nx c v)(hv1:v.oneCell'=true):CellsRel G ν nx [c] [v]:=by
 refine⟨rfl,λj c' v' hc hv=>?_⟩
 grind
theorem Wak:∀(t:Ty) (d:t.den) (vs:List Value),Enc G t d vs->CellsRel G ν nx (split t d) vs
 | .int k,d,vs,h=>by have h':=h;simp only[Enc]at h';subst h';exact CellsRel.one h rfl
 | .bool,d,vs,h=>by have h':=h;simp only[Enc]at h';subst h';exact CellsRel.one h rfl
 | .str,d,vs,h=>by have h':=h;simp only[Enc]at h';subst h';exact CellsRel.one h rfl
 | .slice e,d,vs,h=>by
  obtain⟨v,rfl,hr⟩:=h;refine CellsRel.one ⟨v,rfl,hr⟩ ?_;rcases hr with⟨rfl,_⟩|⟨_,_,_,_,rfl,_⟩|⟨_,_,rfl,_⟩<;>rfl
 | .own _,_,_,h=>h.elim
 | .prod a b,d,vs,⟨c1,c2,he,h1,h2⟩=>by
  subst he;exact(Wak a _ _ h1).append (Wak b _ _ h2)
end
def Wpt(nx:Nat)(ν ν':Nat->Nu):Prop:=∀id,id<nx->ν' id=ν id
section
variable{G G':GH}{ν ν':Nat->Nu}{nx af:Nat}
theorem CellRel.mono(hg:GLe G G')(hn:Wpt nx ν ν')(hx:nx<=af):
  ∀(c:Cell) (v:Value),CellRel G ν nx c v->CellRel G' ν' af c v
 | .val t d,v,h=>WaG hg t d _ h
 | .nils,_,h=>h
 | .own id,v,⟨h1,h2⟩=>⟨Xba h1 hx,by rw[hn id h1];exact h2⟩
 | .vw id lo hi,v,⟨h1,h2⟩=>⟨Xba h1 hx,by rw[hn id h1];exact h2⟩
 | .aptr id,v,⟨h1,h2⟩=>⟨Xba h1 hx,by rw[hn id h1];exact h2⟩
 | .ptr id off,v,⟨h1,h2⟩=>⟨Xba h1 hx,by rw[hn id h1];exact h2⟩
 | .eptr id i off,v,⟨h1,h2⟩=>⟨Xba h1 hx,by rw[hn id h1];exact h2⟩
 | .rptr t d off,v,⟨b,o,cs,h1,h2,h3⟩=>⟨b,o,cs,h1,WaG hg t d _ h2,Whu hg h3⟩
 | .clos f caps,v,⟨vs,h1,h2,h3⟩=>⟨vs,h1,h2,λj id u hc hv=>by
   obtain⟨h4,h6,h5⟩:=h3 j id u hc hv;exact⟨Xba h4 hx,h6,by rw[hn id h4];exact h5⟩⟩
 | .junk,_,_=>trivial
theorem CellsRel.mono(hg:GLe G G')(hn:Wpt nx ν ν')(hx:nx<=af){cs:List Cell}{vs:List Value}(h:CellsRel G ν nx cs vs):CellsRel G' ν' af cs vs:=
 ⟨h.1,λj c v hc hv=>⟨CellRel.mono hg hn hx c v (h.2 j c v hc hv).1,(h.2 j c v hc hv).2⟩⟩
theorem AvRel.mono(hg:GLe G G')(hn:Wpt nx ν ν')(hx:nx<=af):∀(x:AV) (v:Value),AvRel G ν nx x v->AvRel G' ν' af x v
 | .one c,v,h=>⟨CellRel.mono hg hn hx c v h.1,h.2⟩
 | .agg cs,v,⟨vs,he,h⟩=>⟨vs,he,h.mono hg hn hx⟩
theorem AValRel.mono(hg:GLe G G')(hn:Wpt nx ν ν')(hx:nx<=af):∀(x:AVal) (v:Value),AValRel G ν nx x v->AValRel G' ν' af x v
 | .s x,v,h=>AvRel.mono hg hn hx x v h
 | .tup xs,v,⟨vs,he,hl,h⟩=>⟨vs,he,hl,λj x u jT hu=>AvRel.mono hg hn hx x u (h j x u jT hu)⟩
end
theorem WgP(nu:Nu):nu.hdr.oneCell'=true:=by unfold Nu.hdr;split<;>rfl
theorem Wmx(nu:Nu)(lo hi:Nat):(nu.vhdr lo hi).oneCell'=true:=by unfold Nu.vhdr;split<;>rfl
section
variable{α:Type}{R R':α->List Value->List Pc->Prop}
theorem Waw{n:Nat}(h:∀x c p,R x c p->c.length=n):∀(l:List α) (cs:List Value) (ps:List Pc),WdQ R l cs ps->cs.length=l.length*n
 | [],cs,ps,e=>by simp[e.1]
 |x::l,cs,ps,⟨c1,c2,p1,p2,he,hp,h1,h2⟩=>by
  rw[he,Xo,h _ _ _ h1,Waw h l c2 p2 h2,Xn,Xbl,Xcq]
theorem Wbd{Q:Pc->Prop}(h:∀x c p,(∀q∈p,Q q)->R x c p->R' x c p):∀(l:List α) (cs:List Value) (ps:List Pc),(∀q∈ps,Q q)->WdQ R l cs ps->WdQ R' l cs ps
 | [],_,_,_,e=>e
 |_::l,_,_,hq,⟨c1,c2,p1,p2,he,hp,h1,h2⟩=>by
  subst hp;exact⟨c1,c2,p1,p2,he,rfl,h _ _ _ (λq hm=>hq q (Xj _ hm)) h1,Wbd h l c2 p2 (λq hm=>hq q (Xf _ hm)) h2⟩
theorem Wc4:∀(l l':List α) (cs bY:List Value) (ps m0:List Pc),WdQ R l cs ps->WdQ R l' bY m0->WdQ R (l++l') (cs++bY) (ps++m0)
 | [],_,cs,bY,ps,m0,e,e'=>by obtain⟨rfl,rfl⟩:=e;exact e'
 |x::l,l',_,bY,_,m0,⟨c1,c2,p1,p2,he,hp,h1,h2⟩,e'=>⟨c1,c2++bY,p1,p2++m0,by simp[he],by simp[hp],h1,Wc4 l l' c2 bY p2 m0 h2 e'⟩
theorem Wig:∀(l l':List α) (cs:List Value) (ps:List Pc),WdQ R (l++l') cs ps->∃c1 c2 p1 p2,cs=c1++c2/\ps=p1++p2/\WdQ R l c1 p1/\WdQ R l' c2 p2
 | [],l',cs,ps,e=>⟨[],cs,[],ps,rfl,rfl,⟨rfl,rfl⟩,e⟩
 |x::l,l',cs,ps,⟨c1,c2,p1,p2,he,hp,h1,h2⟩=>by
  obtain⟨d1,d2,q1,q2,g1,g2,g3,g4⟩:=Wig l l' c2 p2 h2;exact⟨c1++d1,d2,p1++q1,q2,by grind,by grind,⟨c1,d1,p1,q1,rfl,rfl,h1,g3⟩,g4⟩
theorem Wnc{x:α}{cs:List Value}{ps:List Pc}:WdQ R [x] cs ps↔R x cs ps:=by
 constructor
 .rintro⟨c1,c2,p1,p2,he,hp,h1,h2,h3⟩;simp_all
 .intro h;exact⟨cs,[],ps,[],by simp,by simp,h,rfl,rfl⟩
theorem WdE(l:List α)(cs:List Value)(ps:List Pc)(n:Nat)(h:WdQ R l cs ps):∃c1 c2 p1 p2,cs=c1++c2/\ps=p1++p2/\WdQ R (l.take n) c1 p1/\WdQ R (l.drop n) c2 p2:=
 Wig _ _ _ _ (by simp_all)
theorem Wlj{l:List α}{cs:List Value}{ps:List Pc}{i:Nat}(h:WdQ R l cs ps)(d:α)(hi:i<l.length):
  ∃c1 c c2 p1 p p2,cs=c1++(c++c2)/\ps=p1++(p++p2)/\WdQ R (l.take i) c1 p1/\R (l.getD i d) c p/\WdQ R (l.drop (i+1)) c2 p2:=by
 obtain⟨c1,c',p1,p',h1,h2,h3,h4⟩:=WdE l cs ps i h;have e:l.drop i=l.getD i d::l.drop (i+1):=by
  simp_all
 rw[e]at h4;obtain⟨c,c2,p,p2,h5,h6,h7,h8⟩:=h4
 grind
theorem Wm4{l:List α}{c1 c c2:List Value}{p1 p p2:List Pc}{i:Nat}{x:α}(hi:i<l.length)(h1:WdQ R (l.take i) c1 p1)(h:R x c p)(h2:WdQ R (l.drop (i+1)) c2 p2):
  WdQ R (l.set i x) (c1++(c++c2)) (p1++(p++p2)):=by
 have e:l.set i x=l.take i++(x::l.drop (i+1)):=by
  rw[Xdz,We hi]
 rw[e];exact Wc4 _ _ _ _ _ _ h1 ⟨c,c2,p,p2,rfl,rfl,h,h2⟩
end
section
variable{G G':GH}{w w':World}
theorem Wu:∀(t:Ty) (d:t.den) (vs:List Value) (ns:List Pc),Wm G w t d vs ns->vs.length=t.size
 | .own e,xs,vs,ns,⟨p,_,h,_⟩=>by rw[h];rfl
 | .prod a b,d,vs,ns,⟨v1,v2,n1,n2,h1,h2,h3,h4⟩=>by
  rw[h1,Xo,Wu a _ _ _ h3,Wu b _ _ _ h4];rfl
 | .int k,d,vs,ns,h=>WS _ _ _ h.2
 | .bool,d,vs,ns,h=>WS _ _ _ h.2
 | .str,d,vs,ns,h=>WS _ _ _ h.2
 | .slice e,d,vs,ns,h=>WS _ _ _ h.2
theorem WR:∀(t:Ty) (d:t.den) (vs:List Value) (ns:List Pc),Wm G w t d vs ns->ns.length=t.owns
 | .own e,xs,vs,ns,⟨nu,h,_⟩=>by rw[h];rfl
 | .prod a b,d,vs,ns,⟨v1,v2,n1,n2,h1,h2,h3,h4⟩=>by rw[h2,Xo,WR a _ _ _ h3,WR b _ _ _ h4];rfl
 | .int k,d,vs,ns,h=>by rw[h.1];rfl
 | .bool,d,vs,ns,h=>by rw[h.1];rfl
 | .str,d,vs,ns,h=>by rw[h.1];rfl
 | .slice e,d,vs,ns,h=>by rw[h.1];rfl
theorem Way:∀(t:Ty) (d:t.den) (vs:List Value) (ns:List Pc),t.data=true->(Wm G w t d vs ns↔Enc G t d vs/\ns= [])
 | .own e,xs,vs,ns,h=>by simp[Ty.data]at h
 | .prod a b,d,vs,ns,h=>by
  simp only[Ty.data,Xg]at h;constructor
  .rintro⟨v1,v2,n1,n2,h1,h2,h3,h4⟩;obtain⟨e1,e2⟩:=(Way a _ _ _ h.1).1 h3;obtain⟨e3,e4⟩:=(Way b _ _ _ h.2).1 h4;exact⟨⟨v1,v2,h1,e1,e3⟩,by simp_all⟩
  .rintro⟨⟨v1,v2,h1,h2,h3⟩,h4⟩;exact⟨v1,v2,[],[],h1,h4,(Way a _ _ _ h.1).2 ⟨h2,rfl⟩,(Way b _ _ _ h.2).2 ⟨h3,rfl⟩⟩
 | .int k,d,vs,ns,_=>⟨λh=>⟨h.2,h.1⟩,λh=>⟨h.2,h.1⟩⟩
 | .bool,d,vs,ns,_=>⟨λh=>⟨h.2,h.1⟩,λh=>⟨h.2,h.1⟩⟩
 | .str,d,vs,ns,_=>⟨λh=>⟨h.2,h.1⟩,λh=>⟨h.2,h.1⟩⟩
 | .slice e,d,vs,ns,_=>⟨λh=>⟨h.2,h.1⟩,λh=>⟨h.2,h.1⟩⟩
theorem WbM{e:Ty}(he:e.data=true):∀(xs:List e.den) (cs:List Value) (ps:List Pc),WdQ (Wm G w e) xs cs ps↔WcT (Enc G e) xs cs/\ps= []
 | [],cs,ps=>Iff.rfl
 |x::xs,cs,ps=>by
  constructor
  .rintro⟨c1,c2,p1,p2,h1,h2,h3,h4⟩;obtain⟨e1,e2⟩:=(Way e _ _ _ he).1 h3;obtain⟨e3,e4⟩:=(WbM he xs _ _).1 h4;exact⟨⟨c1,c2,h1,e1,e3⟩,by simp_all⟩
  .rintro⟨⟨c1,c2,h1,h2,h3⟩,h4⟩;exact⟨c1,c2,[],[],h1,h4,(Way e _ _ _ he).2 ⟨h2,rfl⟩,(WbM he xs _ _).2 ⟨h3,rfl⟩⟩
structure Same(S:CS)(w w':World):Prop where
 row:∀b n,Row w b n->Row w' b n
 cell:∀b o,S b o->w'.cell? ⟨b,o,none⟩=w.cell? ⟨b,o,none⟩
theorem Same.mono{S S':CS}(h:Same S w w')(hl:CS.le S' S):Same S' w w':=⟨h.row,λb o hs=>h.cell b o (hl b o hs)⟩
theorem Mem.same{S:CS}(h:Same S w w'){b o n:Nat}{cs:List Value}(hm:Mem w b o cs)(hn:cs.length<=n)(hs:CS.le (rng b o n) S):Mem w' b o cs:=λj v hj=>by
 have ad:j<cs.length:=(Xz.1 hj).1;rw[h.cell b (o+j) (hs _ _ ⟨rfl,by omega,by omega⟩)];exact hm j v hj
theorem Wgo{α:Type}{R R':α->List Value->List Pc->Prop}{n:Nat}{nu:Nu}{xs:List α}{S S':CS}(hR:∀x c p,R x c p->c.length=n)(h:Same S w w')(aG:CS.le S S')
  (hm:∀x c p,(∀q∈p,CS.le q.fp S)->R x c p->R' x c p) (ho:Wa9 w R n nu xs S):Wa9 w' R' n nu xs S':=by
 obtain⟨h1,h2,h3⟩:=ho;refine⟨h1,h2,?_⟩;cases hb:nu.blk with
 |none=>simp_all
 |some b=>
  simp only[hb]at h3;obtain⟨h4,h5,h6,cs,ps,h7,h8,h9,cG⟩:=h3;have hl:=Waw hR _ _ _ h7;have iN:xs.length*n<=nu.cap*n:=Xau _ h4;exact⟨h4,h5,h.row _ _ h6,cs,ps,Wbd (Q:=λq=>CS.le q.fp S) hm _ _ _ (λq hq=>cG _ (Xe _ (Xaj hq))) h7,h8.same h (n:=nu.cap*n) (by omega) (cG _ (Xh ..)),h9,λs hs b o hh=>aG b o (cG s hs b o hh)⟩
theorem Wag(hg:GLe G G'):∀(t:Ty) (d:t.den) (vs:List Value) (ns:List Pc),(∀p∈ns,Same p.fp w w')->Wm G w t d vs ns->Wm G' w' t d vs ns
 | .own e,xs,vs,ns,hs,⟨p,h1,h2,h3⟩=>by
  subst h1;have ic:=hs p (Xaf.2 rfl);exact⟨p,rfl,h2,Wgo (λx c q hx=>Wu e x c q hx) ic (λ_ _ hh=>hh) (λx c q hq hx=>Wag hg e x c q (λq' jA=>ic.mono (hq q' jA)) hx) h3⟩
 | .prod a b,d,vs,ns,hs,⟨v1,v2,n1,n2,h1,h2,h3,h4⟩=>by
  subst h2;exact⟨v1,v2,n1,n2,h1,rfl,Wag hg a _ _ _ (λp hp=>hs p (Xj _ hp)) h3,Wag hg b _ _ _ (λp hp=>hs p (Xf _ hp)) h4⟩
 | .int k,d,vs,ns,_,h=>⟨h.1,WaG hg _ _ _ h.2⟩
 | .bool,d,vs,ns,_,h=>⟨h.1,WaG hg _ _ _ h.2⟩
 | .str,d,vs,ns,_,h=>⟨h.1,WaG hg _ _ _ h.2⟩
 | .slice e,d,vs,ns,_,h=>⟨h.1,WaG hg _ _ _ h.2⟩
theorem Same.refl(S:CS)(w:World):Same S w w:=⟨λ_ _ h=>h,λ_ _ _=>rfl⟩
theorem Wcc(hg:GLe G G'){e:Ty}{nu:Nu}{xs:List e.den}{S S':CS}(h:Same S w w')(aG:CS.le S S')(ho:Wa9 w (Wm G w e) e.size nu xs S):Wa9 w' (Wm G' w' e) e.size nu xs S':=
 Wgo (λx c q hx=>Wu e x c q hx) h aG (λx c q hq hx=>Wag hg e x c q (λq' jA=>h.mono (hq q' jA)) hx) ho
theorem WhZ(hg:GLe G G'){e:Ty}{nu np:Nu}{xs:List e.den}{i:Nat}{S S':CS}(h:Same S w w')(aG:CS.le S S')(ho:Wf4 w (Wm G w e) e.size nu np xs i S):Wf4 w' (Wm G' w' e) e.size nu np xs i S':=by
 obtain⟨h1,h2,h3,b,h4,h5,h6,h7,h8,h9,c1,c2,p1,p2,g1,g2,g3,g4,g5,g6⟩:=ho;have l1:=Waw (λx c q hx=>Wu e x c q hx) _ _ _ g1;have l2:=Waw (λx c q hx=>Wu e x c q hx) _ _ _ g2;rw[Xbe,Xbw (by omega)]at l1;rw[Xdl]at l2;have iN:(xs.length-(i+1))*e.size<=(nu.cap-(i+1))*e.size:=Xau _ (by omega);refine⟨h1,h2,h3,b,h4,h5,h6,h7,h8,h.row _ _ h9,c1,c2,p1,p2,?_,?_,?_,?_,g5,λs hs b o hh=>aG b o (g6 s hs b o hh)⟩
 .exact Wbd (Q:=λq=>CS.le q.fp S) (λx c q hq hx=>Wag hg e x c q (λq' jA=>h.mono (hq q' jA)) hx) _ _ _ (λq hq=>g6 _ (by grind)) g1
 .exact Wbd (Q:=λq=>CS.le q.fp S) (λx c q hq hx=>Wag hg e x c q (λq' jA=>h.mono (hq q' jA)) hx) _ _ _ (λq hq=>g6 _ (by grind)) g2
 .exact g3.same h (n:=i*e.size) (by omega) (g6 _ (Xh ..))
 .exact g4.same h (n:=(nu.cap-(i+1))*e.size) (by omega) (g6 _ (Xe _ (Xh ..)))
theorem WcF(hg:GLe G G'){ν ν':Nat->Nu}{nx af id:Nat}{S S':CS}(h:Same S w w')(aG:CS.le S S')(hn:Wpt nx ν ν')(hx:nx<=af)(bj:id<nx):
  ∀(ob:Ob),WbR G ν nx w id S ob->WbR G' ν' af w' id S' ob
 | .dead,_=>trivial
 | .box cs,⟨b,vs,h1,h2,h3,h4,h5⟩=>by
  refine⟨b,vs,by rw[hn id bj];exact h1,by rw[hn id bj];exact h.row _ _ h2,by rw[hn id bj];exact h3.same h (n:=cs.length) (by rw[h4.1];omega) h5,h4.mono hg hn hx,by rw[hn id bj];exactλb o hh=>aG b o (h5 b o hh)⟩
 | .arr e xs,ho=>by
  show Wa9 w' (Wm G' w' e) e.size (ν' id) xs S';rw[hn id bj];exact Wcc hg h aG ho
 | .hole e xs i p,⟨hp,ho⟩=>by
  show p<af/\Wf4 w' (Wm G' w' e) e.size (ν' id) (ν' p) xs i S';rw[hn id bj,hn p hp];grind [Xba,WhZ]
theorem Wgm{ν:Nat->Nu}{nx:Nat}:∀(t:Ty) (d:t.den) (vs:List Value) (ns:List Pc),Wm G w t d vs ns->CellsRel G ν nx (split t d) vs
 | .own e,d,vs,ns,⟨p,_,h,_⟩=>by rw[h];exact CellsRel.one trivial (WgP _)
 | .prod a b,d,vs,ns,⟨v1,v2,n1,n2,h1,h2,h3,h4⟩=>by
  rw[h1];exact(Wgm a _ _ _ h3).append (Wgm b _ _ _ h4)
 | .int k,d,vs,ns,h=>Wak _ _ _ h.2
 | .bool,d,vs,ns,h=>Wak _ _ _ h.2
 | .str,d,vs,ns,h=>Wak _ _ _ h.2
 | .slice e,d,vs,ns,h=>Wak _ _ _ h.2
theorem WpO{A A' B B':Type}(hA:A=A')(hB:B=B')(h:(A×B)=(A'×B'))(d:A×B):cast h d=(cast hA d.1,cast hB d.2):=by
 grind
theorem Wo5{A A':Type}(hA:A=A')(h:List A=List A')(x:A)(l:List A):cast h (x::l)=cast hA x::cast h l:=by
 grind
theorem Wqh{A A':Type}(hA:A=A')(h:List A=List A'):cast h ([]:List A)= []:=by
 grind
theorem Wl2{A A':Type}(hA:A=A')(h:List A=List A')(l:List A):(cast h l).length=l.length:=by
 grind
theorem WpK(a b:Ty)(d:(Ty.prod a b).den):Wrb (.prod a b) d=(Wrb a d.1,Wrb b d.2):=WpO (Wde a).symm (Wde b).symm _ d
theorem WnC(e:Ty)(x:e.den)(l:List e.den):WbQ e (x::l)=Wrb e x::WbQ e l:=Wo5 (Wde e).symm _ x l
theorem Wj0(e:Ty):WbQ e []= []:=Wqh (Wde e).symm _
theorem WeT(e:Ty)(l:List e.den):(WbQ e l).length=l.length:=Wl2 (Wde e).symm _ l
theorem Wa7:∀t:Ty,t.ro.size=t.size
 | .prod a b=>by simp only[Ty.ro,Ty.size,Wa7 a,Wa7 b]
 | .own _| .slice _| .int _| .bool| .str=>rfl
theorem WlI:∀t:Ty,t.ro.data=true
 | .prod a b=>by simp only[Ty.ro,Ty.data,WlI a,WlI b];rfl
 | .own _| .slice _| .int _| .bool| .str=>rfl
def Froz(G:GH)(w:World)(S:CS):Prop:=∀b o v,S b o->w.cell? ⟨b,o,none⟩=some v->G b o=some v
theorem Froz.mono{G:GH}{S S':CS}(h:Froz G w S)(hl:CS.le S' S):Froz G w S':=λb o v hs=>h b o v (hl b o hs)
theorem Mem.stored{b o n:Nat}{cs:List Value}(hm:Mem w b o cs)(hn:cs.length<=n)(hf:Froz G w (rng b o n)):Weh G b o cs:=λj v hj=>by
 have ad:j<cs.length:=(Xz.1 hj).1;exact hf b (o+j) v ⟨rfl,by omega,by omega⟩ (hm j v hj)
theorem Wjs{e:Ty}(hE:∀(x:e.den) (c:List Value) (p:List Pc),(∀q∈p,Froz G' w q.fp)->Wm G w e x c p->Enc G' e.ro (Wrb e x) c):
  ∀(xs:List e.den) (cs:List Value) (ps:List Pc),(∀q∈ps,Froz G' w q.fp)->WdQ (Wm G w e) xs cs ps->WcT (Enc G' e.ro) (WbQ e xs) cs
 | [],cs,ps,_,h=>by rw[Wj0];exact h.1
 |x::xs,cs,ps,hf,⟨c1,c2,p1,p2,h1,h2,h3,h4⟩=>by
  subst h2;rw[WnC];exact⟨c1,c2,h1,hE x c1 p1 (λq hq=>hf q (Xj _ hq)) h3,Wjs hE xs c2 p2 (λq hq=>hf q (Xf _ hq)) h4⟩
theorem Wpr{e:Ty}(hE:∀(x:e.den) (c:List Value) (p:List Pc),(∀q∈p,Froz G' w q.fp)->Wm G w e x c p->Enc G' e.ro (Wrb e x) c){nu:Nu}{xs:List e.den}{S:CS}
  (hf:Froz G' w S) (h:Wa9 w (Wm G w e) e.size nu xs S):WhC G' (Enc G' e.ro) (WbQ e xs) nu.hdr:=by
 obtain⟨h1,h2,h3⟩:=h;unfold Nu.hdr;cases hb:nu.blk with
 |none=>simp only[hb]at h3;exact .inl ⟨rfl,by rw[h3,Wj0]⟩
 |some b=>
  simp only[hb]at h3;obtain⟨h4,h5,h6,cs,ps,h7,h8,h9,cG⟩:=h3;have hl:=Waw (λx c q hx=>Wu e x c q hx) _ _ _ h7;have iN:xs.length*e.size<=nu.cap*e.size:=Xau _ h4;refine .inr (.inl ⟨b,nu.off,nu.cap,cs,by rw[WeT,h1],by grind [WeT],h5,Wjs hE xs cs ps (λq hq=>hf.mono (cG _ (Xe _ (Xaj hq)))) h7,?_⟩);exact h8.stored (n:=nu.cap*e.size) (by omega) (hf.mono (cG _ (Xh ..)))
theorem WcJ(hg:GLe G G'):∀(t:Ty) (d:t.den) (vs:List Value) (ns:List Pc),(∀p∈ns,Froz G' w p.fp)->Wm G w t d vs ns->Enc G' t.ro (Wrb t d) vs
 | .own e,xs,vs,ns,hf,⟨p,h1,h2,h3⟩=>by
  subst h1;exact⟨_,h2,Wpr (λx c q hq hx=>WcJ hg e x c q hq hx) (hf p (Xaf.2 rfl)) h3⟩
 | .prod a b,d,vs,ns,hf,⟨v1,v2,n1,n2,h1,h2,h3,h4⟩=>by
  subst h2;rw[WpK];exact⟨v1,v2,h1,WcJ hg a _ _ _ (λp hp=>hf p (Xj _ hp)) h3,WcJ hg b _ _ _ (λp hp=>hf p (Xf _ hp)) h4⟩
 | .int k,d,vs,ns,_,h=>WaG hg (.int k) _ _ h.2
 | .bool,d,vs,ns,_,h=>WaG hg .bool _ _ h.2
 | .str,d,vs,ns,_,h=>WaG hg .str _ _ h.2
 | .slice e,d,vs,ns,_,h=>WaG hg (.slice e) _ _ h.2
theorem Wg6(hg:GLe G G'){e:Ty}{nu:Nu}{xs:List e.den}{S:CS}(hf:Froz G' w S)(h:Wa9 w (Wm G w e) e.size nu xs S):WhC G' (Enc G' e.ro) (WbQ e xs) nu.hdr:=
 Wpr (λx c q hq hx=>WcJ hg e x c q hq hx) hf h
theorem Wpg{b:Nat}{vs:Array Value}{T:TypeId}(h:w.heap[b]?=some (Obj.cells vs T (0,0))){o:Nat}{cs:List Value}(hc:∀j v,cs[j]?=some v->vs.toList[o+j]?=some v):Mem w b o cs:=λj v hj=>by
 grind [cell_of_row]
theorem Mem.left{b o:Nat}{c1 c2:List Value}(h:Mem w b o (c1++c2)):Mem w b o c1:=λj v hj=>h j v (by grind)
theorem Mem.right{b o n:Nat}{c1 c2:List Value}(h:Mem w b o (c1++c2))(hn:c1.length=n):Mem w b (o+n) c2:=λj v hj=>by
 have:=h (n+j) v (by grind)
 grind
theorem Mem.app{b o n:Nat}{c1 c2:List Value}(h1:Mem w b o c1)(h2:Mem w b (o+n) c2)(hn:c1.length=n):Mem w b o (c1++c2):=λj v hj=>by
 rw[Xan]at hj;split at hj
 .exact h1 j v hj
 .rename_i ad;have:=h2 (j-c1.length) v hj
  grind
theorem Wpl{e:Ty}{nu:Nu}{xs:List e.den}{S:CS}{b i:Nat}(h:Wa9 w (Wm G w e) e.size nu xs S)(hb:nu.blk=some b)(hi:i<xs.length):
  ∃c p,Wm G w e (xs.getD i e.dflt) c p/\Mem w b (nu.off+i*e.size) c:=by
 obtain⟨h1,h2,h3⟩:=h;simp only[hb]at h3;obtain⟨h4,h5,h6,cs,ps,h7,h8,h9,cG⟩:=h3;obtain⟨c1,c,c2,p1,p,p2,g1,g2,g3,g4,g5⟩:=Wlj h7 e.dflt hi;refine⟨c,p,g4,?_⟩;rw[g1]at h8;have hl:=Waw (λx c q hx=>Wu e x c q hx) _ _ _ g3;rw[Xbe,Xbw (by omega)]at hl;exact(h8.right hl).left
theorem Wcz{e:Ty}(he:e.data=true){nu:Nu}{xs:List e.den}{S:CS}{b:Nat}(h:Wa9 w (Wm G w e) e.size nu xs S)(hb:nu.blk=some b):
  xs.length=nu.len/\xs.length<=nu.cap/\nu.cap<=maxLen/\Row w b (nu.off+nu.cap*e.size)/\∃cs,WcT (Enc G e) xs cs/\Mem w b nu.off cs/\CS.le (rng b nu.off (nu.cap*e.size)) S:=by
 obtain⟨h1,h2,h3⟩:=h
 grind [WbM,Xh]
theorem Wka{e:Ty}(he:e.data=true){nu:Nu}{xs:List e.den}{S:CS}{b:Nat}{cs:List Value}(hb:nu.blk=some b)(h1:xs.length=nu.len)(h2:nu.esz=e.size)(h4:xs.length<=nu.cap)(h5:nu.cap<=maxLen)
  (h6:Row w b (nu.off+nu.cap*e.size)) (h7:WcT (Enc G e) xs cs) (h8:Mem w b nu.off cs) (h9:CS.le (rng b nu.off (nu.cap*e.size)) S):Wa9 w (Wm G w e) e.size nu xs S:=by
 refine⟨h1,h2,?_⟩;simp only[hb];exact⟨h4,h5,h6,cs,[],(WbM he xs cs []).2 ⟨h7,rfl⟩,h8,Xw.2 ⟨by simp,List.Pairwise.nil⟩,λs hs=>by simp_all⟩
theorem WbK{e:Ty}{nu:Nu}{xs:List e.den}{S:CS}(h:Wa9 w (Wm G w e) e.size nu xs S)(hb:nu.blk=none):xs= []:=by
 obtain⟨h1,h2,h3⟩:=h;simp_all
end
end Go.Sx
namespace Go.Sx
set_option linter.unusedVariables false
set_option linter.unusedSimpArgs false
def Wa3:Ty->List Value
 | .prod a b=>Wa3 a++Wa3 b
 | .int k=>[.int k 0]
 | .bool=>[.bool false]
 | .str=>[.string ⟨#[]⟩]
 | .slice _=>[.slice none 0 0]
 | .own _=>[.pointer none]
def rep{α:Type}(l:List α):Nat->List α
 |0=>[]
 |n+1=>l++rep l n
def TE.cells(te:TE):List Value:=match te.shape with
 | .arr n _=>rep (Wa3 te.ty) n
 |_=>Wa3 te.ty
def TE.size(te:TE):Nat:=match te.shape with
 | .arr n _=>n*te.ty.size
 |_=>te.ty.size
structure TEok(P:Program)(T:Tab)(t:TypeId)(te:TE):Prop where
 und:match te.shape with
  | .basic=>te.agg=false/\(match te.ty with
   | .int k=>P.underlying t=some (.int k)
   | .bool=>P.underlying t=some .bool
   | .str=>P.underlying t=some .string
   |_=>False)
  | .slice e=>te.agg=false/\P.underlying t=some (.slice e)/\∃da,Wj T e=some da/\te.ty= .slice da.ty
  | .struct fs=>te.agg=true/\∃fields:Array Field,P.underlying t=some (.struct fields)/\fields.toList.map (λf=>(f.offset,f.type))=fs/\
    (∀f∈fields,f.name≠ "_")∧P.stoodInHeld t=false∧P.eqGuardType P.depth t=false
  | .ptr e=>te.agg=false/\P.underlying t=some (.pointer e)
  | .arr n e=>te.agg=true/\P.underlying t=some (.array n e)/\∃da,Wj T e=some da/\da.ty=te.ty/\∀m f,da.shape≠ .arr m f
 info:∃i z,P.info? t=some i/\i.size=te.size/\i.zero=some z/\z.cells.toList=te.cells/\i.bytes<=4096
def W5(P:Program)(T:Tab):Prop:=∀t te,Wj T t=some te->TEok P T t te
theorem Wba:∀t:Ty,0<t.size
 | .prod a b=>by have:=Wba a;simp[Ty.size];omega
 | .int _| .bool| .str| .slice _| .own _=>by simp[Ty.size]
section
variable{P:Program}{T:Tab}{w:World}
theorem Wi{t:TypeId}{d:TypeDesc}(h:P.underlying t=some d):(underlying t).run P w= .ok d w:=by
 simp[underlying,h]
theorem WfO{t:TypeId}{i:TypeInfo}(h:P.info? t=some i):(typeInfo t).run P w= .ok i w:=by
 simp[typeInfo,h]
theorem Wn4{t:TypeId}{i:TypeInfo}(h:P.info? t=some i):(sizeOf t).run P w= .ok i.size w:=by
 simp[sizeOf,WfO h]
theorem TEok.sizeOf{t:TypeId}{te:TE}(h:TEok P T t te):(sizeOf t).run P w= .ok te.size w:=by
 obtain⟨i,z,hi,hs,_⟩:=h.info;rw[Wn4 hi,hs]
theorem TEok.isAgg{t:TypeId}{te:TE}(h:TEok P T t te):(isAgg t).run P w= .ok te.agg w:=by
 have hu:=h.und;obtain⟨ty,agg,shape⟩:=te;cases shape with
 |basic=>
  obtain⟨ha,hu⟩:=hu;cases ty<;>simp only at hu<;>first|exact hu.elim|simp_all [Go.isAgg,Wi]
 |slice e=>simp_all [Go.isAgg,Wi]
 |struct fs=>obtain⟨ha,f,hu,_⟩:=hu;simp_all [Go.isAgg,Wi]
 |ptr e=>simp_all [Go.isAgg,Wi]
 |arr n e=>simp_all [Go.isAgg,Wi]
end
theorem Wau(b o j:Nat):(⟨b,o,none⟩:Addr).add j=⟨b,o+j,none⟩:=by
 simp[Addr.add]
section
variable{P:Program}{T:Tab}{w:World}{G:GH}{ν:Nat->Nu}{objs:WZ}{nx:Nat}
theorem WJ{te:TE}(h:te.plain=true):te.size=te.ty.size:=by
 unfold TE.plain at h;unfold TE.size;split at h<;>simp_all
theorem Wfm{t:TypeId}{te:TE}(bo:TEok P T t te)(ec:te.plain=true){b o off:Nat}{cs:List Cell}{us:List Value}{x:AVal}
  (hc:CellsRel G ν nx cs us) (hm:∀(j:Nat) (v:Value),us[j]?=some v->w.cell? ⟨b,o+j,none⟩=some v)
  (hs:sub te.agg cs off te.ty.size=some x):
  ∃v,(loadVar t ⟨b,o+off,none⟩).run P w= .ok v w/\AValRel G ν nx x v:=by
 have bE:te.size=te.ty.size:=WJ ec;unfold sub at hs;simp only[loadVar,Sem.run_bind,bo.isAgg,Result.andThen_ok];cases ha:te.agg with
 |true=>
  simp only[ha,W9]at hs⊢;split at hs
  .rename_i aG;injection hs with hs;subst hs;have aa:((us.drop off).take te.ty.size).length=te.ty.size:=by simp[hc.1];omega
   have hr:=run_loadCells_list (P:=P) w ⟨b,o+off,none⟩ ((us.drop off).take te.ty.size) (λj v hj=>by
    grind [Wau,Xav])
   rw[aa]at hr;refine⟨.agg ((us.drop off).take te.ty.size).toArray,?_,_,rfl,(hc.drop off).take _⟩;simp[bo.sizeOf,bE,hr]
  grind
 |false=>
  simp only[ha]at hs⊢;cases bk:cs[off]? with
  |none=>simp_all
  |some c=>
   simp[bk]at hs;subst hs;have ad:off<us.length:=by rw[hc.1];grind
   have hu:us[off]?=some us[off]:=Xp ad;refine⟨us[off],?_,hc.2 off c _ bk hu⟩;simp_all
end
section
variable{w0:World}{F:CS}{nt:Slots}{G0 G:GH}{ν:Nat->Nu}{st:St}{a:Act}{w:World}{P:Program}{T:Tab}
theorem WoY{G:GH}:∀(t:Ty) (d:t.den) (v:Value),Enc G t d [v]->v.oneCell'=true
 | .int _,_,_,h=>by grind [Enc,Value.oneCell']
 | .bool,_,_,h=>by grind [Enc,Value.oneCell']
 | .str,_,_,h=>by grind [Enc,Value.oneCell']
 | .slice _,_,_,h=>by
  obtain⟨v,hv,hr⟩:=h;simp at hv;subst hv;rcases hr with⟨rfl,_⟩|⟨_,_,_,_,rfl,_⟩|⟨_,_,rfl,_⟩<;>rfl
 | .own _,_,_,h=>h.elim
 | .prod a b,d,v,h=>by
  have:=WS _ _ _ h
  grind [Wba,Ty.size]
theorem WB{t:Ty}{d:t.den}{v:Value}(h:Enc G t d [v]):AValRel G ν st.nx (one t d) v:=
 ⟨h,WoY t d v h⟩
theorem We5:∀(v:Value) (c:Cell),W7 v=some c->CellRel G ν st.nx c v/\v.oneCell'=true
 | .int k n,c,h=>by simp[W7]at h;subst h;exact⟨rfl,rfl⟩
 | .bool b,c,h=>by simp[W7]at h;subst h;exact⟨rfl,rfl⟩
 | .string s,c,h=>by simp[W7]at h;subst h;exact⟨by simp[CellRel,Enc],rfl⟩
 | .slice none 0 0,c,h=>by simp[W7]at h;subst h;exact⟨rfl,rfl⟩
 | .slice none 0 (n+1),c,h=>by simp[W7]at h
 | .slice none (n+1) _,c,h=>by simp[W7]at h
 | .slice (some _) _ _,c,h=>by simp[W7]at h
 | .pointer none,c,h=>by simp[W7]at h;subst h;exact⟨trivial,rfl⟩
 | .nilFunc,c,h=>by simp[W7]at h;subst h;exact⟨trivial,rfl⟩
 | .float _ _,_,h| .complex _ _ _,_,h| .pointer (some _),_,h| .map _,_,h| .chan _,_,h| .func _ _ _,_,h| .iface _ _,_,h| .nilIface,_,h| .agg _,_,h| .tuple _,_,h=>by simp[W7]at h
theorem WmW:∀(vs:List Value) (cs:List Cell),vs.mapM W7=some cs->CellsRel G ν st.nx cs vs
 | [],cs,h=>by grind [CellsRel.nil]
 |v::vs,cs,h=>by
  simp only[Xep,Option.bind_eq_bind,Option.bind_eq_some_iff]at h;obtain⟨c,hc,ds,hd,he⟩:=h;simp at he;subst he;obtain⟨h1,h2⟩:=We5 (G:=G) (ν:=ν) (st:=st) v c hc;exact(CellsRel.one h1 h2).append (WmW vs ds hd)
theorem Wz(h:Rel w0 F nt G0 G ν st a w):∀(x:Operand) (av:AVal),ev st x=some av->AValRel G ν st.nx av (a.eval x)
 | .tmp t,av,he=>by
  obtain⟨v,hv,hr⟩:=h.env t av he;simpa [Act.eval,hv]using hr
 | .const v,av,he=>by
  simp only[ev,Wpa]at he;split at he
  .rename_i cs;cases hm:cs.toList.mapM W7 with
   |none=>simp[hm]at he
   |some l=>
    simp[hm]at he;subst he;exact⟨cs.toList,by simp[Act.eval],WmW _ _ hm⟩
  .cases hm:W7 v with
   |none=>simp[hm]at he
   |some c=>
    simp[hm]at he;subst he;obtain⟨h1,h2⟩:=We5 (G:=G) (ν:=ν) (st:=st) v c hm;exact⟨h1,h2⟩
 | .func f,av,he=>by
  simp[ev]at he;subst he;exact⟨⟨[],rfl,rfl,λj id u hj=>by simp at hj⟩,rfl⟩
 | .global g,av,he=>by simp[ev]at he
theorem Wel(av:AVal)(v:Value)(n:Int)(h:AValRel G ν st.nx av v)(he:asI av=some n):∃k,v= .int k n:=by
 unfold asI at he;split at he
 .rename_i k m;injection he with he;subst he;obtain⟨h1,_⟩:=h;simp[CellRel,Enc]at h1;exact⟨k,h1⟩
 .simp at he
theorem Wlp(av:AVal)(v:Value)(b:Bool)(h:AValRel G ν st.nx av v)(he:asB av=some b):v= .bool b:=by
 unfold asB at he;split at he
 .injection he with he;subst he;obtain⟨h1,_⟩:=h;simpa [CellRel,Enc]using h1
 .simp at he
def Gives(P:Program)(G:GH)(ν:Nat->Nu)(st:St)(w:World)(s:Sem Value)(r:AVal):Prop:=∃v,s.run P w= .ok v w/\AValRel G ν st.nx r v
theorem Gives.one{s:Sem Value}{t:Ty}{d:t.den}{v:Value}(hr:s.run P w= .ok v w)(h:Enc G t d [v]):Gives P G ν st w s (Sx.one t d):=⟨v,hr,WB h⟩
theorem WnX{op:BinOp}{k:IntKind}{x y:Int}{r:AVal}(t:TypeId)(hs:op≠ .shl)(cu:op≠ .shr)(h:Ws5 op k x y=some (true,r)):
  Gives P G ν st w (Go.binOp op t (.int k x) (.int k y)) r:=by
 cases op<;>simp[Ws5,inz]at h<;>first
  |exact Ww rfl hs
  |exact Ww rfl cu
  |(subst h;exact⟨_,by simp only[Go.binOp,ne_eq,not_true_eq_false,Wae,↓reduceIte,Op.intArith,Op.intBits,Op.intCmp]<;>rfl,WB rfl⟩)
  |(obtain⟨hz,rfl⟩:=h;exact⟨_,by simp[Go.binOp,Op.intDiv,hz,Woi,Wfi]<;>rfl,WB rfl⟩)
theorem WgW{op:BinOp}{k yk:IntKind}{x y:Int}{r:AVal}(t:TypeId)(h:(op= .shl/\(true,r)=(inn y,Sx.one (.int k) (Wtd k x y)))\/(op= .shr/\(true,r)=(inn y,Sx.one (.int k) (Ws4 k x y)))):
  Gives P G ν st w (Go.binOp op t (.int k x) (.int yk y)) r:=by
 rcases h with⟨rfl,h⟩|⟨rfl,h⟩<;>simp[inn]at h<;>obtain⟨hn,rfl⟩:=h
 .exact⟨_,by simp[Go.binOp,Op.shift,Int.not_lt.2 hn,Wtd]<;>rfl,WB rfl⟩
 .exact⟨_,by simp[Go.binOp,Op.shift,Int.not_lt.2 hn,Ws4]<;>rfl,WB rfl⟩
theorem Wn5{op:BinOp}{x y:List UInt8}{r:AVal}(t:TypeId)(h:Ws2 op x y=some (true,r)):
  Gives P G ν st w (Go.binOp op t (.string ⟨x.toArray⟩) (.string ⟨y.toArray⟩)) r:=by
 cases op<;>simp[Ws2]at h
 .obtain⟨hf,rfl⟩:=h;simp[Wdh]at hf;refine⟨.string ⟨(x++y).toArray⟩,?_,WB rfl⟩;have e:(ByteArray.mk x.toArray++ByteArray.mk y.toArray)=⟨(x++y).toArray⟩:=by
   apply ByteArray.ext;simp
  have bE:¬((((ByteArray.mk x.toArray).size+(ByteArray.mk y.toArray).size:Nat):Int)>IntKind.i64.max):=by
   have hm:IntKind.i64.max=9223372036854775807:=by decide
   simp only[ByteArray.size,List.size_toArray,hm];omega
  simp only[Go.binOp,Op.stringOp,Wc bE,e];rfl
 .subst h;exact⟨_,by simp[Go.binOp,Op.stringOp]<;>rfl,WB rfl⟩
 .subst h;exact⟨_,by simp[Go.binOp,Op.stringOp]<;>rfl,WB rfl⟩
theorem WsQ(x y:List UInt8):((ByteArray.mk x.toArray).toList==(ByteArray.mk y.toArray).toList)=seq x y:=by simp[seq]
theorem Wjo{te:TE}{c d:Cell}{b:Bool}{u v:Value}{t:TypeId}(bo:TEok P T t te)(hc:CellRel G ν st.nx c u)(hd:CellRel G ν st.nx d v)
  (h:WiD te c d=some b) (n:Nat):(Op.equalIn (n+1) t u v).run P w= .ok b w/\te.agg=false:=by
 have hu:=bo.und;unfold WiD at h;split at h
 .split at h
  .rename_i hk;subst hk;injection h with h;subst h;simp only[CellRel,Enc,List.cons.injEq,and_true]at hc hd;subst hc hd;exact⟨run_equalIn_int w n t _ _ _ _ hu.2,rfl⟩
  .simp at h
 .injection h with h;subst h;simp only[CellRel,Enc,List.cons.injEq,and_true]at hc hd;subst hc hd;exact⟨run_equalIn_bool' w n t _ _ hu.2,rfl⟩
 .injection h with h;subst h;simp only[CellRel,Enc,List.cons.injEq,and_true]at hc hd;subst hc hd;exact⟨(run_equalIn_string w n t _ _ hu.2).trans (Wk (Result.ok · w) (WsQ _ _)),rfl⟩
 .simp at h
theorem WmL{t:TypeId}{te:TE}(bo:TEok P T t te)(ha:te.agg=false)(cs:Array Value)(off:Nat)(v:Value)(h:cs[off]?=some v):(part t cs off).run P w= .ok v w:=by
 simp only[part,Sem.run_bind,bo.isAgg,Result.andThen_ok,ha];simp[h]
theorem Wef(hT:W5 P T)(n:Nat)(xs ys:Array Value):∀(fields:List Field) (k:Nat) (cs ds:List Cell) (b:Bool),
  (∀f∈fields,f.name≠ "_")→fields.map (·.offset)=List.range' k fields.length→
  (∀(j:Nat) (c:Cell),cs[j]?=some c->∃v,xs[k+j]?=some v/\CellRel G ν st.nx c v)->
  (∀(j:Nat) (c:Cell),ds[j]?=some c->∃v,ys[k+j]?=some v/\CellRel G ν st.nx c v)->
  Wb5 T (fields.map (·.type)) cs ds=some b->(Op.eqFields (n+1) xs ys fields).run P w= .ok b w
 | [],k,[],[],b,_,_,_,_,h=>by simp[Wb5]at h;subst h;rfl
 |f::fs,k,c::cs,d::ds,b,hn,ho,hx,hy,h=>by
  simp only[Xag,Wb5]at h;cases hl:Wj T f.type with
  |none=>simp[hl]at h
  |some te=>
   simp only[hl]at h;cases h1:WiD te c d with
   |none=>simp[h1]at h
   |some p=>
    cases h2:Wb5 T (fs.map (·.type)) cs ds with
    |none=>simp[h1,h2]at h
    |some q=>
     simp[h1,h2]at h;subst h;obtain⟨u,hu,td⟩:=hx 0 c rfl;obtain⟨v,hv,tf⟩:=hy 0 d rfl;obtain⟨he,ha⟩:=Wjo (w:=w) (hT _ _ hl) td tf h1 n;simp only[Xag,Xn,List.range'_succ,List.cons.injEq]at ho;have ih:=Wef hT n xs ys fs (k+1) cs ds q (λf hf=>hn f (Xe _ hf)) ho.2
      (λj c hj=>by have:=hx (j+1) c (by simpa using hj);rwa [Xav,Xcq 1 j])
      (λj c hj=>by have:=hy (j+1) c (by simpa using hj);rwa [Xav,Xcq 1 j]) h2
     simp only[Op.eqFields,We (hn f (Xh ..)),Sem.run_bind,ho.1];rw[Xay]at hu hv;rw[WmL (hT _ _ hl) ha xs k u hu,Result.andThen_ok,WmL (hT _ _ hl) ha ys k v hv,Result.andThen_ok,he,Result.andThen_ok];cases p
     .simp
     .simpa using ih
 | [],_,_::_,_,_,_,_,_,_,h=>by simp[Wb5]at h
 | [],_,[],_::_,_,_,_,_,_,h=>by simp[Wb5]at h
 |_::_,_,[],_,_,_,_,_,_,h=>by simp[Wb5]at h
 |_::_,_,_::_,[],_,_,_,_,_,h=>by simp[Wb5]at h
theorem Wbf{op:BinOp}{t:TypeId}{x y:Operand}{u v:Value}(hu:∀cs,u≠ .agg cs)(hn:u≠ .nilIface):(eqGuard op t x y u v).run P w= .ok () w:=by
 unfold eqGuard;cases op<;>simp<;>cases u<;>cases v<;>first|rfl|exact Ww rfl hn|exact Ww rfl (hu _)
theorem Wli(hT:W5 P T){op:BinOp}{t:TypeId}{x y:AVal}{u v:Value}{r:AVal}(ox oy:Operand)(hx:AValRel G ν st.nx x u)(hy:AValRel G ν st.nx y v)
  (h:Sx.binOp T op t x y=some (true,r)):Gives P G ν st w (do eqGuard op t ox oy u v;Go.binOp op t u v) r:=by
 unfold Sx.binOp at h;split at h
 .rename_i k m k' m';obtain⟨hx,_⟩:=hx;obtain⟨hy,_⟩:=hy;simp only[CellRel,Enc,List.cons.injEq,and_true]at hx hy;subst hx hy;have hg:(eqGuard op t ox oy (.int k m) (.int k' m')).run P w= .ok () w:=Wbf (by simp) (by simp)
  suffices hh:Gives P G ν st w (Go.binOp op t (.int k m) (.int k' m')) r by
   obtain⟨z,h1,h2⟩:=hh;exact⟨z,by simp[hg,h1],h2⟩
  split at h
  .injection h with h;exact WgW t (.inl ⟨rfl,h.symm⟩)
  .injection h with h;exact WgW t (.inr ⟨rfl,h.symm⟩)
  .split at h
   .rename_i hk;subst hk;exact WnX t (by assumption) (by assumption) h
   .simp at h
 .rename_i m m';obtain⟨hx,_⟩:=hx;obtain⟨hy,_⟩:=hy;simp only[CellRel,Enc,List.cons.injEq,and_true]at hx hy;subst hx hy;obtain⟨z,h1,h2⟩:=Wn5 (w:=w) (P:=P) (G:=G) (ν:=ν) (st:=st) t h;exact⟨z,by simp[Wbf,h1],h2⟩
 .rename_i m m';obtain⟨hx,_⟩:=hx;obtain⟨hy,_⟩:=hy;simp only[CellRel,Enc,List.cons.injEq,and_true]at hx hy;subst hx hy;split at h
  .rename_i hl;have hu:=(hT _ _ hl).und;simp only[true_and]at hu;have key:(Op.equalIn 10000 t (.bool m) (.bool m')).run P w= .ok (beq m m') w:=run_equalIn_bool' w 9999 t m m' hu;split at h<;>simp at h
   .subst h;exact⟨.bool (beq m m'),by simp[Wbf,Go.binOp,Op.equal,Op.maxDepth,key],WB rfl⟩
   .subst h;exact⟨.bool (!beq m m'),by simp[Wbf,Go.binOp,Op.equal,Op.maxDepth,key],WB rfl⟩
  .simp at h
 .rename_i cs ds;obtain⟨us,rfl,bk⟩:=hx;obtain⟨vs,rfl,fA⟩:=hy;split at h
  .rename_i fs hl;obtain⟨_,fields,hu,dN,tg,bs,rW⟩:=(hT _ _ hl).und;split at h
   .rename_i hr;have hr:=WN hr;have rX:P.fieldsOf t=fields:=by simp[Program.fieldsOf,hu]
    have key:∀b,Wb5 T (fs.map (·.2)) cs ds=some b->(Op.equalIn 10000 t (.agg us.toArray) (.agg vs.toArray)).run P w= .ok b w:=λb hb=>by
     rw[run_equalIn_struct w 9999 t _ _ (by rw[rX];exact hu) bs,rX];refine Wef (G:=G) (ν:=ν) (st:=st) hT 9998 us.toArray vs.toArray fields.toList 0 cs ds b (λf hf=>tg f (by simpa using hf)) ?_ ?_ ?_ ?_
     .rw[←dN]at hr;simpa [List.range_eq_range',Function.comp_def]using hr
     .intro j c hj;have ad:j<us.length:=by rw[bk.1];exact(Xz.1 hj).1
      exact⟨us[j],by simp[ad],(bk.2 j c _ hj (Xp ad)).1⟩
     .intro j c hj;have ad:j<vs.length:=by rw[fA.1];exact(Xz.1 hj).1
      exact⟨vs[j],by simp[ad],(fA.2 j c _ hj (Xp ad)).1⟩
     .rw[←dN]at hb;simpa [Function.comp_def]using hb
    split at h
    .rename_i b hb;simp at h;subst h;exact⟨.bool b,by simp[run_eqGuard_agg w _ t ox oy _ _ rW,run_eql_struct,key b hb],WB rfl⟩
    .rename_i b hb;simp at h;subst h;exact⟨.bool (!b),by simp[run_eqGuard_agg w _ t ox oy _ _ rW,run_neq_struct,key b hb],WB rfl⟩
    .simp at h
   .simp at h
  .simp at h
 .simp at h
end
end Go.Sx
namespace Go.Sx
set_option linter.unusedVariables false
set_option linter.unusedSimpArgs false
section
variable{w0:World}{F:CS}{nt:Slots}{G0 G:GH}{ν:Nat->Nu}{st:St}{a:Act}{w:World}{P:Program}{T:Tab}
theorem HRel.g{objs:WZ}{nx:Nat}(h:HRel w0 F G ν objs nx w){b o:Nat}{v:Value}(hg:G b o=some v):w.cell? ⟨b,o,none⟩=some v:=by
 obtain⟨φ,h⟩:=h;exact h.g b o v hg
theorem HRel.obj{objs:WZ}{nx:Nat}(h:HRel w0 F G ν objs nx w){id:Nat}{ob:Ob}(ho:Wj objs id=some ob):∃S,WbR G ν nx w id S ob:=by
 obtain⟨φ,h⟩:=h;exact⟨φ id,h.ob id ob ho⟩
theorem Wfv{k:IntKind}{n:Int}{v:Value}(h:AValRel G ν st.nx (.s (.one (.val (.int k) n))) v):v= .int k n:=by
 obtain⟨h,_⟩:=h
 grind [CellRel,Enc]
theorem WiL{n:Bool}{v:Value}(h:AValRel G ν st.nx (.s (.one (.val .bool n))) v):v= .bool n:=by
 obtain⟨h,_⟩:=h
 grind [CellRel,Enc]
theorem WiG{s:List UInt8}{v:Value}(h:AValRel G ν st.nx (.s (.one (.val .str s))) v):v= .string ⟨s.toArray⟩:=by
 obtain⟨h,_⟩:=h
 grind [CellRel,Enc]
theorem WnK{op:UnOp}{x:AVal}{u:Value}{r:AVal}(hx:AValRel G ν st.nx x u)(h:Sx.unOp op x=some (true,r)):Gives P G ν st w (Op.unary op u) r:=by
 unfold Sx.unOp at h;split at h
 .have:=WiL hx;subst this;simp at h;subst h;exact⟨_,rfl,WB rfl⟩
 .have:=Wfv hx;subst this;simp at h;subst h;exact⟨_,rfl,WB rfl⟩
 grind
theorem Wr6{id:Nat}{e:Ty}{xs:List e.den}{nx:Nat}{S:CS}(h:WbR G ν nx w id S (.arr e xs)):∃a c,(ν id).hdr= .slice a xs.length c:=by
 obtain⟨aa,_,an⟩:=h;unfold Nu.hdr;cases hb:(ν id).blk with
 |none=>simp_all
 |some b=>simp_all
theorem WqY{id:Nat}{e:Ty}{xs:List e.den}{i p nx:Nat}{S:CS}(h:WbR G ν nx w id S (.hole e xs i p)):∃a c,(ν id).hdr= .slice a xs.length c:=by
 obtain⟨_,aa,_,_,b,hb,_⟩:=h;unfold Nu.hdr;simp_all
theorem Wr5{t ty:TypeId}(hu:P.underlying t=some .string)(s:List UInt8):(Builtin.len_ #[t] ty #[.string ⟨s.toArray⟩]).run P w= .ok (.int .i64 (Wh s)) w:=by
 have h1:(Builtin.len_ #[t] ty #[.string ⟨s.toArray⟩]).run P w= .ok (goInt (ByteArray.mk s.toArray).size) w:=by
  simp_all [Builtin.len_,Wi]
 rw[h1];rfl
theorem WlU(hT:W5 P T)(hh:HRel w0 F G ν st.objs st.nx w){t ty:TypeId}{x:AVal}{u:Value}{r:AVal}(hx:AValRel G ν st.nx x u)(h:WhL T st t x=some (true,r)):
  Gives P G ν st w (Builtin.len_ #[t] ty #[u]) r:=by
 unfold WhL at h;split at h
 .rename_i te e l _ hl;simp at h;subst h;have hu:=(hT _ _ hl).und.2.1;obtain⟨⟨v,hv,hr⟩,_⟩:=hx;simp at hv;subst hv;rcases hr with⟨rfl,dB⟩|⟨b,off,cap,cs,rfl,_⟩|⟨a,cap,rfl,dB⟩
  rotate_left 2
  .exact⟨_,by simp[Builtin.len_,Wi hu]<;>rfl,WB (by rw[dB];rfl)⟩
  .exact⟨_,by simp[Builtin.len_,Wi hu]<;>rfl,WB (by rw[dB];rfl)⟩
  .exact⟨_,by simp[Builtin.len_,Wi hu]<;>rfl,WB rfl⟩
 .rename_i te e _ hl;simp at h;subst h;have hu:=(hT _ _ hl).und.2.1;obtain⟨hv,_⟩:=hx;simp only[CellRel]at hv;subst hv;exact⟨_,by simp[Builtin.len_,Wi hu]<;>rfl,WB rfl⟩
 .rename_i te e id hl;have hu:=(hT _ _ hl).und.2.1;obtain⟨⟨_,hv⟩,_⟩:=hx;subst hv;unfold obL at h;split at h
  .rename_i e' xs ho;simp at h;subst h;obtain⟨S,an⟩:=hh.obj ho;obtain⟨a,c,hd⟩:=Wr6 an;rw[hd];exact⟨.int .i64 (Wh xs),by simp[Builtin.len_,Wi hu]<;>rfl,WB rfl⟩
  .rename_i e' xs i p ho;simp at h;subst h;obtain⟨S,an⟩:=hh.obj ho;obtain⟨a,c,hd⟩:=WqY an;rw[hd];exact⟨.int .i64 (Wh xs),by simp[Builtin.len_,Wi hu]<;>rfl,WB rfl⟩
  grind
 .rename_i te e id lo hi hl;simp only[Option.some.injEq,Prod.mk.injEq,true_and]at h;subst h;have hu:=(hT _ _ hl).und.2.1;obtain⟨⟨_,h1,h2,h3,hv⟩,_⟩:=hx;subst hv;unfold Nu.vhdr;cases hb:(ν id).blk with
  |none=>
   have h0:=h3 hb;have e0:hi-lo=0:=by omega
   rw[e0];exact⟨_,by simp[Builtin.len_,Wi hu]<;>rfl,WB rfl⟩
  |some b=>exact⟨.int .i64 ((hi-lo:Nat):Int),by simp[Builtin.len_,Wi hu]<;>rfl,WB rfl⟩
 .rename_i s hl;simp at h;subst h;have hu:=(hT _ _ hl).und.2;have:=WiG hx;subst this;exact⟨.int .i64 (Wh (α:=UInt8) s),Wr5 hu s,WB rfl⟩
 grind
theorem WcL(hT:W5 P T){t:TypeId}{f off:Nat}{te:TE}(h:Wff T t f=some (off,te)):
  ∃(fields:Array Field) (fd:Field),P.underlying t=some (.struct fields)/\fields[f]?=some fd/\fd.offset=off/\TEok P T fd.type te/\te.plain=true:=by
 unfold Wff at h;split at h
 .rename_i fs hl;obtain⟨_,fields,hu,dN,_⟩:=(hT _ _ hl).und;split at h
  .rename_i o ft hf;split at h
   .rename_i da dB;split at h
    .rename_i hp;injection h with h;injection h with h1 h2;subst h1 h2;rw[←dN]at hf;simp only[Xai,Array.getElem?_toList]at hf;cases gy:fields[f]? with
     |none=>simp_all
     |some fd=>
      simp[gy]at hf;obtain⟨h1,h2⟩:=hf;subst h1 h2;exact⟨fields,fd,hu,gy,rfl,hT _ _ dB,hp⟩
    grind
   grind
  grind
 grind
theorem WeE{t:TypeId}{f off:Nat}{te:TE}{b o:Nat}{fields:Array Field}{fd:Field}(hu:P.underlying t=some (.struct fields))(hf:fields[f]?=some fd)(ho:fd.offset=off)
  (bo:TEok P T fd.type te) (hp:te.plain=true):(Instr.fieldAt t (.pointer (some ⟨b,o,none⟩)) f).run P w= .ok (.pointer (some ⟨b,o+off,none⟩)) w:=by
 have bE:te.size≠0:=by grind [WJ,Wba]
 simp[Instr.fieldAt,Wi hu,hf,Instr.sureAddr,fieldPlace,bo.sizeOf,bE,Wau,ho]
theorem Wfz(hT:W5 P T)(hh:HRel w0 F G ν st.objs st.nx w){t:TypeId}{f:Nat}{x:AVal}{u:Value}{r:AVal}(hx:AValRel G ν st.nx x u)(h:Wbv T st t x f=some (true,r)):
  Gives P G ν st w (Instr.fieldAt t u f) r:=by
 unfold Wbv at h;split at h
 .rename_i off te id o hf;obtain⟨fields,fd,hu,gy,ho,bo,hp⟩:=WcL hT hf;split at h
  .simp at h;subst h;obtain⟨⟨h1,b,hb,rfl⟩,_⟩:=hx;exact⟨_,WeE hu gy ho bo hp,⟨h1,b,hb,by rw[Xav]⟩,rfl⟩
  grind
 .rename_i off te id i o hf;obtain⟨fields,fd,hu,gy,ho,bo,hp⟩:=WcL hT hf;split at h
  .simp at h;subst h;obtain⟨⟨h1,h2,b,hb,rfl⟩,_⟩:=hx;exact⟨_,WeE hu gy ho bo hp,⟨h1,h2,b,hb,by rw[Xav,Xav]⟩,rfl⟩
  grind
 .rename_i off te t' d o hf;obtain⟨fields,fd,hu,gy,ho,bo,hp⟩:=WcL hT hf;simp at h;subst h;obtain⟨⟨b,o',cs,rfl,h1,h2⟩,_⟩:=hx;exact⟨_,WeE hu gy ho bo hp,⟨b,o',cs,by rw[Xav],h1,h2⟩,rfl⟩
 grind
theorem Wjy(hT:W5 P T){t:TypeId}{f:Nat}{x:AVal}{u:Value}{r:AVal}(hx:AValRel G ν st.nx x u)(h:Wl8 T t x f=some (true,r)):
  Gives P G ν st w (Instr.field t u f) r:=by
 unfold Wl8 at h;split at h
 .rename_i off te cs hf;obtain⟨fields,fd,hu,gy,ho,bo,hp⟩:=WcL hT hf;obtain⟨us,rfl,bk⟩:=hx;cases hs:sub te.agg cs off te.ty.size with
  |none=>simp_all
  |some y=>
   simp[hs]at h;subst h;unfold sub at hs;simp only[Gives,Instr.field,Sem.run_bind,Wi hu,Result.andThen_ok,gy,asAgg,Sem.run_pure,part,bo.isAgg];cases ha:te.agg with
   |true=>
    simp only[ha,W9]at hs⊢;split at hs
    .rename_i aG;injection hs with hs;subst hs;refine⟨.agg ((us.drop off).take te.ty.size).toArray,?_,_,rfl,(bk.drop off).take _⟩;simp[bo.sizeOf,WJ hp,ho]
    grind
   |false=>
    simp only[ha]at hs⊢;cases hc:cs[off]? with
    |none=>simp_all
    |some c=>
     simp[hc]at hs;subst hs;have ad:off<us.length:=by rw[bk.1];grind
     refine⟨us[off],?_,bk.2 off c _ hc (Xp ad)⟩;simp_all
 grind
end
end Go.Sx
namespace Go.Sx
set_option linter.unusedVariables false
set_option linter.unusedSimpArgs false
section
variable{w0:World}{F:CS}{nt:Slots}{G0 G:GH}{ν:Nat->Nu}{st:St}{a:Act}{w:World}{P:Program}{T:Tab}
theorem Wkj{α:Type}{R:α->List Value->Prop}{n:Nat}(h:∀x c,R x c->c.length=n)(l:List α)(cs:List Value)(i:Nat)(d:α)(he:WcT R l cs)(hi:i<l.length):
  R (l.getD i d) ((cs.drop (i*n)).take n):=WiW h l cs i _ he (by simp_all)
theorem Wc2{i:Int}{n:Nat}(h:inb i n=true):0<=i/\i<n:=by simpa [inb]using h
theorem WcQ{t et:TypeId}{te:TE}{k:IntKind}{n:Int}{b off len cap:Nat}(hu:P.underlying t=some (.slice et))(bo:TEok P T et te)(hp:te.plain=true)(h0:0<=n)(h1:n<len):
  (Instr.indexAt t (.slice (some ⟨b,off,none⟩) len cap) (.int k n)).run P w= .ok (.pointer (some ⟨b,off+n.toNat*te.ty.size,none⟩)) w:=by
 simp[Instr.indexAt,asIntOf,Wi hu,h0,h1,bo.sizeOf,WJ hp,Wau]
theorem WpX(hT:W5 P T)(hh:HRel w0 F G ν st.objs st.nx w){t et:TypeId}{te:TE}{k:IntKind}{n:Int}{id:Nat}{u:Value}{r:AVal}(hu:P.underlying t=some (.slice et))(bo:TEok P T et te)(hp:te.plain=true)
  (hx:AValRel G ν st.nx (.s (.one (.own id))) u) (h:obI te n id (Wj st.objs id)=some (true,r)):Gives P G ν st w (Instr.indexAt t u (.int k n)) r:=by
 obtain⟨⟨bj,hv⟩,_⟩:=hx;subst hv;unfold obI at h;split at h
 .rename_i e xs an;split at h
  .rename_i he;simp only[Option.some.injEq,Prod.mk.injEq]at h;obtain⟨hb,rfl⟩:=h;obtain⟨h0,h1⟩:=Wc2 hb;obtain⟨S,aa,bN,ho⟩:=hh.obj an;unfold Nu.hdr;cases aS:(ν id).blk with
   |none=>grind
   |some b=>
    refine⟨.pointer (some ⟨b,(ν id).off+n.toNat*te.ty.size,none⟩),WcQ hu bo hp h0 (by omega),⟨bj,by omega,b,aS,?_⟩,rfl⟩;rw[bN,he,Wa7,Xay]
  grind
 .rename_i e xs i p an;split at h
  .rename_i he;simp only[Option.some.injEq,Prod.mk.injEq,Xg]at h;obtain⟨⟨hb,hi⟩,rfl⟩:=h;obtain⟨h0,h1⟩:=Wc2 hb;have hi:=Xch hi;obtain⟨S,jU,aa,bN,ad,b,aS,ie,th,ho⟩:=hh.obj an;unfold Nu.hdr;simp only[aS];refine⟨.pointer (some ⟨b,(ν id).off+n.toNat*te.ty.size,none⟩),WcQ hu bo hp h0 (by omega),⟨jU,b,ie,?_⟩,rfl⟩;rw[th,he,Wa7,Xay,hi]
  grind
 grind
theorem WnL(hT:W5 P T)(hh:HRel w0 F G ν st.objs st.nx w){t et:TypeId}{te:TE}{k:IntKind}{n:Int}{id lo hi:Nat}{u:Value}{r:AVal}(hu:P.underlying t=some (.slice et))(bo:TEok P T et te)(hp:te.plain=true)
  (hx:AValRel G ν st.nx (.s (.one (.vw id lo hi))) u) (h:WsP te n id lo hi (Wj st.objs id)=some (true,r)):Gives P G ν st w (Instr.indexAt t u (.int k n)) r:=by
 obtain⟨⟨bj,g1,g2,g3,hv⟩,_⟩:=hx;subst hv;unfold WsP at h;split at h
 .rename_i e xs an;split at h
  .rename_i he;simp only[Option.some.injEq,Prod.mk.injEq]at h;obtain⟨hb,rfl⟩:=h;obtain⟨h0,h1⟩:=Wc2 hb;obtain⟨S,aa,bN,ho⟩:=hh.obj an;unfold Nu.vhdr;cases aS:(ν id).blk with
   |none=>grind
   |some b=>
    simp only[aS]at ho;have bZ:(ν id).cap≠lo:=by omega
    rw[Wc bZ];refine⟨.pointer (some ⟨b,(ν id).off+lo*(ν id).esz+n.toNat*te.ty.size,none⟩),WcQ hu bo hp h0 h1,⟨bj,by omega,b,aS,?_⟩,rfl⟩;rw[bN,he,Wa7,Xay,Xcn,Xav]
  grind
 grind
theorem Wnf(hT:W5 P T)(hh:HRel w0 F G ν st.objs st.nx w){t et:TypeId}{te:TE}{k:IntKind}{n:Int}{m id:Nat}{u:Value}{r:AVal}(hu:P.underlying t=some (.array m et))(bo:TEok P T et te)(hp:te.plain=true)
  (hx:AValRel G ν st.nx (.s (.one (.aptr id))) u) (h:WsJ te n m id (Wj st.objs id)=some (true,r)):Gives P G ν st w (Instr.indexAt t u (.int k n)) r:=by
 obtain⟨⟨bj,b,aS,hv⟩,_⟩:=hx;subst hv;unfold WsJ at h;split at h
 .rename_i e xs an;split at h
  .rename_i he;simp only[Option.some.injEq,Prod.mk.injEq,Xg,Wg]at h;obtain⟨⟨hb,hm⟩,rfl⟩:=h;obtain⟨h0,h1⟩:=Wc2 hb;obtain⟨S,aa,bN,ho⟩:=hh.obj an;refine⟨.pointer (some ⟨b,(ν id).off+n.toNat*e.size,none⟩),?_,⟨bj,by omega,b,aS,by rw[bN,Xay]⟩,rfl⟩;have:((0:Int)<=n/\n<(m:Int)):=⟨h0,h1⟩;simp only[Instr.indexAt,asIntOf,Sem.run_bind,Sem.run_pure,Result.andThen_ok,Wi hu,Instr.sureAddr,We this,bo.sizeOf,WJ hp,Wau,he]
  grind
 grind
theorem Wfp(hT:W5 P T)(hh:HRel w0 F G ν st.objs st.nx w){t:TypeId}{x i:AVal}{u v:Value}{r:AVal}(hx:AValRel G ν st.nx x u)(hi:AValRel G ν st.nx i v)
  (h:Wbn T st t x i=some (true,r)):Gives P G ν st w (Instr.indexAt t u v) r:=by
 unfold Wbn at h;split at h
 .rename_i ty ag et n hl hn;obtain⟨k,rfl⟩:=Wel _ _ _ hi hn;have hu:=(hT _ _ hl).und.2.1;split at h
  .rename_i te aG;split at h
   .rename_i hp;split at h
    .rename_i e l;split at h
     .rename_i he;simp only[Option.some.injEq,Prod.mk.injEq]at h;obtain⟨hb,rfl⟩:=h;obtain⟨h0,h1⟩:=Wc2 hb;obtain⟨⟨z,hz,hr⟩,_⟩:=hx;simp at hz;subst hz;rcases hr with⟨rfl,dB⟩|⟨b,off,cap,cs,rfl,h2,h3,h4,h5⟩|⟨a,cap,rfl,dB⟩
      rotate_left 2
      .grind
      .grind
      .have ad:n.toNat<Xb l:=by omega
       refine⟨_,WcQ hu (hT _ _ aG) hp h0 h1,⟨b,off+n.toNat*e.size,_,?_,Wkj (λx c hc=>WS e x c hc) l cs n.toNat e.dflt h4 ad,?_⟩,rfl⟩
       .grind
       .intro j v hj;rw[Xbg]at hj;split at hj
        .rw[Xbf]at hj;rw[Xav];exact h5 _ _ hj
        grind
     grind
    .simp at h
    .exact WpX hT hh hu (hT _ _ aG) hp hx h
    .exact WnL hT hh hu (hT _ _ aG) hp hx h
    grind
   grind
  grind
 .rename_i ty ag m et n hl hn;obtain⟨k,rfl⟩:=Wel _ _ _ hi hn;have hu:=(hT _ _ hl).und.2.1;split at h
  .rename_i te aG;split at h
   .rename_i hp;split at h
    .exact Wnf hT hh hu (hT _ _ aG) hp hx h
    grind
   grind
  grind
 grind
theorem WrG(s:List UInt8)(n:Nat)(h:n<s.length):(ByteArray.mk s.toArray)[n]?=some (s.getD n 0):=by
 grind [ByteArray.getElem?_lt',ByteArray.size,ByteArray.getElem_eq_getElem_data]
theorem WhY{k:IntKind}:∀(cs:List Cell) (us:List Value) (l:List Int),Wa8 k cs=some l->CellsRel G ν st.nx cs us->l.length=cs.length/\∀j,j<us.length->us[j]?=some (.int k (Xc l j (0:Int)))
 | [],us,l,h,hc=>by
  simp only[Wa8]at h;injection h with h;subst h;have:=hc.1;simp_all
 | .val (.int k') d::cs,us,l,h,hc=>by
  simp only[Wa8]at h;split at h
  .rename_i hk;subst hk;cases hi:Wa8 k' cs with
   |none=>simp_all
   |some l'=>
    rw[hi]at h;simp only[Xbv]at h;injection h with h;subst h;cases us with
    |nil=>have:=hc.1;grind
    |cons u us=>
     have h0:=(hc.2 0 _ u rfl rfl).1;have hu:u= .int k' d:=by grind [CellRel,Enc]
     obtain⟨h1,h2⟩:=WhY cs us l' hi ⟨by have:=hc.1;simp_all,λj c v hj hv=>hc.2 (j+1) c v (by simp_all) (by simp_all)⟩
     grind
  .cases h
 | .val .bool d::cs,us,l,h,_=>by simp[Wa8]at h
 | .val .str d::cs,us,l,h,_=>by simp[Wa8]at h
 | .val (.slice _) d::cs,us,l,h,_=>by simp[Wa8]at h
 | .val (.own _) d::cs,us,l,h,_=>by simp[Wa8]at h
 | .val (.prod _ _) d::cs,us,l,h,_=>by simp[Wa8]at h
 | .nils::cs,us,l,h,_=>by simp[Wa8]at h
 | .own _::cs,us,l,h,_=>by simp[Wa8]at h
 | .vw _ _ _::cs,us,l,h,_=>by simp[Wa8]at h
 | .aptr _::cs,us,l,h,_=>by simp[Wa8]at h
 | .ptr _ _::cs,us,l,h,_=>by simp[Wa8]at h
 | .eptr _ _ _::cs,us,l,h,_=>by simp[Wa8]at h
 | .rptr _ _ _::cs,us,l,h,_=>by simp[Wa8]at h
 | .clos _ _::cs,us,l,h,_=>by simp[Wa8]at h
 | .junk::cs,us,l,h,_=>by simp[Wa8]at h
theorem Wje(hT:W5 P T){t:TypeId}{x i:AVal}{u v:Value}{r:AVal}(hx:AValRel G ν st.nx x u)(hi:AValRel G ν st.nx i v)
  (h:WlB T t x i=some (true,r)):Gives P G ν st w (Instr.index t u v) r:=by
 unfold WlB at h;split at h
 .rename_i s n hl hn;obtain⟨k,rfl⟩:=Wel _ _ _ hi hn;have:=WiG hx;subst this;have hu:=(hT _ _ hl).und.2;simp only[Option.some.injEq,Prod.mk.injEq]at h;obtain⟨hb,rfl⟩:=h;obtain⟨h0,h1⟩:=Wc2 hb;have ad:n.toNat<Xb s:=by omega
  refine⟨.int .u8 ((Xc s n.toNat 0).toNat:Int),?_,WB rfl⟩;simp only[Instr.index,asIntOf,Sem.run_bind,Sem.run_pure,Result.andThen_ok,Wi hu,We h0,WrG s n.toNat ad]
 .rename_i k ag m et cs n hl hn;split at h
  .rename_i k' aG;split at h
   .rename_i l nw;split at h
    .rename_i hc;obtain⟨rfl,hm⟩:=hc;obtain⟨kk,rfl⟩:=Wel _ _ _ hi hn;obtain⟨us,rfl,bk⟩:=hx;simp only[Option.some.injEq,Prod.mk.injEq]at h;obtain⟨hb,rfl⟩:=h;obtain⟨h0,h1⟩:=Wc2 hb;obtain⟨aa,fa⟩:=WhY _ _ _ nw bk;have hu:=(hT _ _ hl).und.2.1;have rY:=hT _ _ aG;have pf:(Go.isAgg et).run P w= .ok false w:=rY.isAgg;have bE:(Go.sizeOf et).run P w= .ok 1 w:=rY.sizeOf;have ad:n.toNat<us.length:=by rw[bk.1];omega
     have ig:us[n.toNat]?=some (.int k' (Xc l n.toNat (0:Int))):=fa _ ad;refine⟨.int k' (Xc l n.toNat (0:Int)),?_,WB rfl⟩;simp only[Instr.index,asIntOf,Sem.run_bind,Sem.run_pure,Result.andThen_ok,Wi hu,h0,h1,and_self,W9,bE,part,pf,Nat.mul_one];simp[ig]
    grind
   grind
  grind
 grind
theorem Whk{k:IntKind}{n:Int}{y:Nat}{c:BoundsCode}(h0:0<=n)(h1:n<=y):(Instr.sliceBound (.int k n) y c).run P w= .ok n.toNat w:=by
 simp[Instr.sliceBound,asIntOf,h0,h1]
inductive BRel:Option Int->Option Value->Prop where
 |none:BRel .none .none
 |some (k:IntKind) (n:Int):BRel (.some n) (.some (.int k n))
theorem Wcn(h:Rel w0 F nt G0 G ν st a w)(o:Option Operand)(r:Option Int)(he:WjQ st o=some r):BRel r (o.map a.eval):=by
 cases o with
 |none=>simp[WjQ]at he;subst he;exact .none
 |some x=>
  simp only[WjQ]at he;cases hv:ev st x with
  |none=>simp_all
  |some av=>
   simp only[hv,Option.bind_some]at he;cases hi:asI av with
   |none=>simp_all
   |some n=>
    simp[hi]at he;subst he;obtain⟨k,hk⟩:=Wel _ _ _ (Wz h x av hv) hi;simp only[Xbv,hk];exact .some k n
theorem WbZ{isSlice:Bool}{n cap:Nat}{lo hi:Option Int}{vl vh:Option Value}(hl:BRel lo vl)(hh:BRel hi vh)(hc:n<=cap)(hb:(WbX n lo hi).1=true):
  (Instr.sliceBounds isSlice n cap vl vh none).run P w= .ok ((WbX n lo hi).2.1,(WbX n lo hi).2.2,cap) w/\(WbX n lo hi).2.1<=(WbX n lo hi).2.2/\(WbX n lo hi).2.2<=n:=by
 cases hl<;>cases hh<;>simp only[WbX,Xg,Wg]at hb⊢
 .simp[Instr.sliceBounds]
 .grind [Instr.sliceBounds,Sem.run_bind,Sem.run_pure,Result.andThen_ok,Whk]
 .grind [Instr.sliceBounds,Sem.run_bind,Sem.run_pure,Result.andThen_ok,Whk]
 .rename_i k l k' h;obtain⟨⟨⟨h1,h2⟩,h3⟩,h4⟩:=hb;refine⟨?_,by omega,by omega⟩;simp only[Instr.sliceBounds,Sem.run_bind,Sem.run_pure,Result.andThen_ok]
  grind [Whk,Result.andThen_ok]
theorem Wi9{α:Type}(l:List α)(lo hi:Option Int):Wrq l lo hi=(l.take (WbX l.length lo hi).2.2).drop (WbX l.length lo hi).2.1:=by
 cases lo<;>cases hi<;>simp[Wrq,WbX]
theorem WrT(s:List UInt8)(l h:Nat):(ByteArray.mk s.toArray).extract l h=⟨((s.take h).drop l).toArray⟩:=by
 apply ByteArray.ext;simp[ByteArray.data_extract,List.extract_eq_take_drop,List.drop_take]
theorem Wol{t:TypeId}{lo hi:Option Int}{vl vh:Option Value}(hu:P.underlying t=some .string)(s:List UInt8)(hl:BRel lo vl)(hh:BRel hi vh)(hb:(WbX s.length lo hi).1=true):
  (Instr.sliceAt t (.string ⟨s.toArray⟩) vl vh none).run P w= .ok (.string ⟨(Wrq s lo hi).toArray⟩) w:=by
 have bE:(ByteArray.mk (List.toArray s)).size=Xb s:=by simp[ByteArray.size]
 obtain⟨hr,h3,h4⟩:=WbZ (P:=P) (w:=w) (isSlice:=false) (cap:=Xb s) hl hh (Xm _) hb;simp only[Instr.sliceAt,Instr.slice,Sem.run_bind,Wi hu,Result.andThen_ok,Option.isSome_none,Bool.false_eq_true,Wae,Sem.run_pure,bE,hr,WrT,Wi9]
theorem Wqj{t et:TypeId}{te:TE}{lo hi:Option Int}{vl vh:Option Value}{α:Type}{R:α->List Value->Prop}{n:Nat}(hR:∀x c,R x c->c.length=n)(hu:P.underlying t=some (.slice et))(bo:TEok P T et te)(hp:te.plain=true)(hn:te.ty.size=n)
  (xs:List α) {v:Value} (hx:WhC G R xs v) (hl:BRel lo vl) (hh:BRel hi vh) (hb:(WbX xs.length lo hi).1=true):
  ∃v',(Instr.sliceAt t v vl vh none).run P w= .ok v' w/\WhC G R (Wrq xs lo hi) v':=by
 rcases hx with⟨rfl,bt⟩|⟨b,off,cap,cs,rfl,h3,h4,h5,h6⟩|⟨a,cap,rfl,bt⟩
 rotate_left 2
 .subst bt;obtain⟨hr,h3,h4⟩:=WbZ (P:=P) (w:=w) (isSlice:=true) (cap:=cap) hl hh (Xcb _) hb;have e1:(WbX 0 lo hi).2.2=0:=by omega
  have e2:(WbX 0 lo hi).2.1=0:=by omega
  rw[e1,e2]at hr;refine⟨.slice (some a) 0 cap,?_,.inr (.inr ⟨a,cap,rfl,?_⟩)⟩
  .simp only[Instr.sliceAt,Instr.slice,Sem.run_bind,Wi hu,Result.andThen_ok,hr,bo.sizeOf,Sem.run_pure,Xbv];simp[Addr.add]
  .rw[Wi9];simp
 .subst bt;obtain⟨hr,h3,h4⟩:=WbZ (P:=P) (w:=w) (isSlice:=true) (cap:=0) hl hh (Xm _) hb;refine⟨.slice none 0 0,?_,.inl ⟨rfl,?_⟩⟩
  .have e1:(WbX 0 lo hi).2.2=0:=by omega
   have e2:(WbX 0 lo hi).2.1=0:=by omega
   rw[e1,e2]at hr;simp[Instr.sliceAt,Instr.slice,Wi hu,hr,bo.sizeOf]
  .rw[Wi9];simp
 .obtain⟨hr,h7,h8⟩:=WbZ (P:=P) (w:=w) (isSlice:=true) (cap:=cap) hl hh h3 hb;have ti:=Wi9 xs lo hi;generalize (WbX xs.length lo hi).2.1=p at*;generalize (WbX xs.length lo hi).2.2=q at*;have bE:te.size=n:=by rw[WJ hp,hn]
  have aa:(Wrq xs lo hi).length=q-p:=by simp_all
  refine⟨.slice (some (if cap=p then⟨b,off,none⟩else⟨b,off+p*n,none⟩)) (q-p) (cap-p),?_,.inr (.inl ?_)⟩
  .simp only[Instr.sliceAt,Instr.slice,Sem.run_bind,Wi hu,Result.andThen_ok,hr,bo.sizeOf,Sem.run_pure,bE,Xbv,Wau];split<;>rfl
  .by_cases hc:cap=p
   .have h0:Wrq xs lo hi= []:=Xu (by omega);refine⟨b,off,cap-p,[],?_,by omega,by omega,?_,λj v hj=>by simp at hj⟩
    .rw[We hc];rw[aa]
    .rw[h0];rfl
   .refine⟨b,off+p*n,cap-p,(cs.take (q*n)).drop (p*n),?_,by omega,by omega,?_,?_⟩
    .rw[Wc hc,aa]
    .grind [Wdw,Wdq]
    .intro j v hj;rw[Xbf,Xbg]at hj;split at hj
     .rw[Xav];exact h6 _ _ hj
     grind
theorem WjE(hT:W5 P T){t:TypeId}{x:AVal}{u:Value}{vl vh:Option Value}{lo hi:Option Operand}{r:AVal}(hx:AValRel G ν st.nx x u)
  (hl:∀l,WjQ st lo=some l->BRel l vl) (hh:∀l,WjQ st hi=some l->BRel l vh)
  (h:Wjn T st t x lo hi=some (true,r)):Gives P G ν st w (Instr.sliceAt t u vl vh none) r:=by
 unfold Wjn at h;split at h
 .rename_i s l h' pg h1 h2;have:=WiG hx;subst this;simp only[Option.some.injEq,Prod.mk.injEq]at h;obtain⟨hb,rfl⟩:=h;exact⟨_,Wol (hT _ _ pg).und.2 s (hl _ h1) (hh _ h2) hb,WB rfl⟩
 .rename_i ty ag et e xs l h' pg h1 h2;have hu:=(hT _ _ pg).und.2.1;split at h
  .rename_i te aG;split at h
   .rename_i tj;obtain⟨he,hp⟩:=tj;simp only[Option.some.injEq,Prod.mk.injEq]at h;obtain⟨hb,rfl⟩:=h;obtain⟨⟨z,hz,hr⟩,_⟩:=hx;simp at hz;subst hz;obtain⟨v',h3,h4⟩:=Wqj (P:=P) (T:=T) (w:=w) (λx c hc=>WS e x c hc) hu (hT _ _ aG) hp (by rw[he]) xs hr (hl _ h1) (hh _ h2) hb;exact⟨v',h3,WB ⟨v',rfl,h4⟩⟩
   grind
  grind
 grind
end
end Go.Sx
namespace Go.Sx
set_option linter.unusedVariables false
set_option linter.unusedSimpArgs false
section
variable{w0:World}{F:CS}{nt:Slots}{G0 G:GH}{ν:Nat->Nu}{st:St}{a:Act}{w:World}{P:Program}{T:Tab}
theorem Wgt{k:IntKind}:∀(l:List Int) (cs:List Value),WcT (Enc G (.int k)) l cs->cs=l.map (Value.int k)
 | [],cs,h=>h
 |x::l,cs,⟨c1,c2,he,h1,h2⟩=>by
  have:=Wgt l c2 h2
  grind [Enc]
theorem Wkp{t e:TypeId}{dst:TypeId}(hs:P.underlying t=some (.slice e))(he:P.underlying e=some (.int .u8))(hd:P.underlying dst=some .string){b off cap:Nat}(l:List Int)
  (hm:∀j v,(l.map (Value.int .u8))[j]?=some v->w.cell? ⟨b,off+j,none⟩=some v):
  (convert t dst (.slice (some ⟨b,off,none⟩) l.length cap)).run P w= .ok (.string ⟨(WhJ l).toArray⟩) w:=by
 rw[run_convert_bytes_string w t dst e _ _ _ hs he hd];have h1:=run_loadCells_list (P:=P) w ⟨b,off,none⟩ (l.map (Value.int .u8)) (λj v hj=>by grind [Wau]);rw[Xad]at h1;rw[run_bytesToString w _ _ _ l h1,foldl_push_bytes];simp[ByteArray.ext,WhJ]
theorem Wgv{t e:TypeId}{dst:TypeId}(hs:P.underlying t=some (.slice e))(he:P.underlying e=some (.int .u8))(hd:P.underlying dst=some .string)(l c:Nat):
  (convert t dst (.slice none l c)).run P w= .ok (.string ⟨#[]⟩) w:=by
 rw[run_convert_bytes_string w t dst e _ _ _ hs he hd];rfl
theorem WnZ{t e:TypeId}{dst:TypeId}(hs:P.underlying t=some (.slice e))(he:P.underlying e=some (.int .u8))(hd:P.underlying dst=some .string)(a:Addr)(c:Nat):
  (convert t dst (.slice (some a) 0 c)).run P w= .ok (.string ⟨#[]⟩) w:=by
 rw[run_convert_bytes_string w t dst e _ _ _ hs he hd];have h1:=run_loadCells_list (P:=P) w a ([].map (Value.int .u8)) (λj v hj=>by simp at hj);simp only[Xbu,List.length_nil]at h1;rw[run_bytesToString w _ _ _ [] (by simp_all),foldl_push_bytes];rfl
theorem Wj1(hT:W5 P T)(hh:HRel w0 F G ν st.objs st.nx w){src dst:TypeId}{x:AVal}{u:Value}{r:AVal}(hx:AValRel G ν st.nx x u)
  (h:Wiq T st src dst x=some (true,r)):Gives P G ν st w (convert src dst u) r:=by
 unfold Wiq Wso at h;split at h
 .rename_i k0 k k1 n h1 h2;have:=Wfv hx;subst this;have hs:=(hT _ _ h1).und.2;have hd:=(hT _ _ h2).und.2;simp at h;subst h;exact⟨.int k (k.wrap n),by simp_all [convert,Wi,Conv.intToInt],WB rfl⟩
 .rename_i s h1 h2;have:=WiG hx;subst this;have hs:=(hT _ _ h1).und.2;have hd:=(hT _ _ h2).und.2;simp at h;subst h;exact⟨_,by simp[convert,Wi hs,Wi hd]<;>rfl,WB rfl⟩
 .rename_i ty ag et c h1 h2;have hs:=(hT _ _ h1).und.2.1;have hd:=(hT _ _ h2).und.2;split at h
  .rename_i h3;have he:=(hT _ _ h3).und.2;split at h
   .rename_i l;simp at h;subst h;obtain⟨⟨z,hz,hr⟩,_⟩:=hx;simp at hz;subst hz;rcases hr with⟨rfl,bt⟩|⟨b,off,cap,cs,rfl,h4,h5,h6,h7⟩|⟨a,cap,rfl,bt⟩
    rotate_left 2
    .refine⟨_,WnZ hs he hd a _,WB ?_⟩;rw[bt];rfl
    .refine⟨_,Wgv hs he hd _ _,WB ?_⟩;rw[bt];rfl
    .have bk:=Wgt _ _ h6;exact⟨_,Wkp hs he hd l (λj v hj=>hh.g (h7 j v (by simp_all))),WB rfl⟩
   .simp at h;subst h;obtain⟨hv,_⟩:=hx;simp only[CellRel]at hv;subst hv;exact⟨_,Wgv hs he hd _ _,WB rfl⟩
   .rename_i id;split at h
    .rename_i xs an;simp at h;subst h;obtain⟨⟨bj,hv⟩,_⟩:=hx;subst hv;obtain⟨S,ho⟩:=hh.obj an;unfold Nu.hdr;cases aS:(ν id).blk with
     |none=>
      have hn:=WbK ho aS;refine⟨_,Wgv hs he hd _ _,WB ?_⟩;rw[hn];rfl
     |some b=>
      obtain⟨aa,h4,h5,h6,cs,h7,h8,h9⟩:=Wcz (e:=.int .u8) rfl ho aS;have bk:=Wgt _ _ h7;simp only[←aa];exact⟨_,Wkp hs he hd xs (λj v hj=>h8 j v (by simp_all)),WB rfl⟩
    grind
   grind
  grind
 grind
theorem WrQ{x:Operand}{o:Oper}(ho:o.op= .nilCheck x){ρ:Operand->Value}{p:Addr}(h:ρ x= .pointer (some p)):(execOp ρ o).run P w= .ok (.value (.pointer (some p))) w:=by
 simp[execOp,ho,h]
theorem WpW{x r:AVal}{u:Value}(hx:AValRel G ν st.nx x u)(h:Wnh st x=some (true,r)):r=x/\∃p,u= .pointer (some p):=by
 unfold Wnh at h;split at h
 .simp at h;subst h;obtain⟨⟨b,o,cs,rfl,_⟩,_⟩:=hx;simp_all
 .split at h
  .simp at h;subst h;obtain⟨⟨_,b,_,rfl⟩,_⟩:=hx;simp_all
  grind
 .split at h
  .simp at h;subst h;obtain⟨⟨_,_,b,_,rfl⟩,_⟩:=hx;simp_all
  grind
 .split at h
  .simp at h;subst h;obtain⟨⟨_,b,_,rfl⟩,_⟩:=hx;simp_all
  grind
 grind
theorem Wia(hr:Rel w0 F nt G0 G ν st a w):∀(l:List Operand) (ids:List Nat),WeR st l=some ids->
  ids.length=l.length/\∀(j id:Nat) (u:Value),ids[j]?=some id->(l.map a.eval)[j]?=some u->id<st.nx/\u.oneCell'=true/\∃b,(ν id).blk=some b/\u= .pointer (some ⟨b,(ν id).off+0,none⟩)
 | [],ids,h=>by simp[WeR]at h;simp_all
 |o::l,ids,h=>by
  simp only[WeR]at h;split at h
  .rename_i id r h1 h2;injection h with h;subst h;obtain⟨h3,h4⟩:=Wia hr l r h2;refine⟨by simp[h3],λj i u hj hu=>?_⟩;cases j with
   |zero=>
    simp at hj hu;subst hj hu;obtain⟨⟨g1,g2⟩,g3⟩:=Wz hr o _ h1;simp_all
   |succ j=>grind
  grind
theorem WfL(hT:W5 P T)(hh:HRel w0 F G ν st.objs st.nx w){t:TypeId}{x:AVal}{u:Value}{r:AVal}(hx:AValRel G ν st.nx x u)(h:WfN T st t x=some r):
  Gives P G ν st w (Instr.loadAt t u) r:=by
 unfold WfN at h;split at h
 .rename_i te hl;split at h
  .rename_i hp;split at h
   .rename_i id off;split at h
    .rename_i cs an;obtain⟨⟨_,b,hb,rfl⟩,_⟩:=hx;obtain⟨S,b',vs,bV,aJ,ay,bk,_⟩:=hh.obj an;rw[hb]at bV;injection bV with bV;subst bV;obtain⟨v,h3,h4⟩:=Wfm (hT _ _ hl) hp bk (o:=(ν id).off) ay h;exact⟨v,by grind [Instr.loadAt,Instr.sureAddr],h4⟩
    grind
   .rename_i id i off;split at h
    .rename_i e xs an;obtain⟨⟨_,ad,b,hb,rfl⟩,_⟩:=hx;obtain⟨S,ho⟩:=hh.obj an;have bN:=ho.2.1;obtain⟨c,p,h1,h2⟩:=Wpl ho hb (by rw[ho.1];exact ad);obtain⟨v,h9,cG⟩:=Wfm (hT _ _ hl) hp (Wgm (ν:=ν) (nx:=st.nx) e _ _ _ h1) (w:=w) (b:=b) (o:=(ν id).off+i*e.size) h2 h;exact⟨v,by grind [Instr.loadAt,Instr.sureAddr,Xav],cG⟩
    grind
   .rename_i t' d off;obtain⟨⟨b,o,cs,rfl,h1,h2⟩,_⟩:=hx;obtain⟨v,h9,cG⟩:=Wfm (hT _ _ hl) hp (Wak (G:=G) (ν:=ν) (nx:=st.nx) t' d _ h1) (w:=w) (b:=b) (o:=o) (λj v hj=>hh.g (h2 j v hj)) h;exact⟨v,by grind [Instr.loadAt,Instr.sureAddr],cG⟩
   grind
  grind
 grind
theorem Wmv{G:GH}{k:IntKind}:∀(xs:List Int) (cs:List Value),WcT (Enc G (.int k)) xs cs->cs=xs.map λx=>Value.int k x
 | [],cs,h=>h
 |x::xs,cs,⟨c1,c2,h1,h2,h3⟩=>by
  have:c1= [.int k x]:=h2;rw[h1,this,Wmv xs c2 h3];rfl
theorem Wm6{k:IntKind}{xs:List Int}:∀(n i j:Nat),(Wro k xs i n)[j]?=if j<n then some (.val (.int k) (xs.getD (i+j) (0:Int)))else none
 |0,i,j=>by simp[Wro]
 |n+1,i,j=>by
  cases j with
  |zero=>simp[Wro]
  |succ j=>
   rw[Wro,List.getElem?_cons_succ,Wm6 n (i+1) j,show i+1+j=i+(j+1) by omega];simp_all
theorem Wmu{k:IntKind}{xs:List Int}:∀(n i:Nat),(Wro k xs i n).length=n
 |0,i=>rfl
 |n+1,i=>by rw[Wro,Xn,Wmu n (i+1)]
theorem Wjh(hT:W5 P T)(hh:HRel w0 F G ν st.objs st.nx w){t:TypeId}{x:AVal}{u:Value}{r:AVal}(hx:AValRel G ν st.nx x u)(h:Wez T st t x=some (true,r)):
  Gives P G ν st w (Instr.loadAt t u) r:=by
 unfold Wez at h;split at h
 .rename_i k n et hl;split at h
  .rename_i id;split at h
   .rename_i k' xs an;change List Int at xs;split at h
    .rename_i hk;subst hk;simp only[Option.some.injEq,Prod.mk.injEq,Wg]at h;obtain⟨hn,rfl⟩:=h;obtain⟨⟨_,b,hb,rfl⟩,_⟩:=hx;obtain⟨S,ho⟩:=hh.obj an;obtain⟨aa,h4,h5,h6,cs,h7,h8,h9⟩:=Wcz (e:=.int k') rfl ho hb;have bk:=Wmv _ _ h7;have bo:=hT _ _ hl;have pf:(Go.isAgg t).run P w= .ok true w:=bo.isAgg;have bE:(Go.sizeOf t).run P w= .ok n w:=by have:=bo.sizeOf (w:=w);grind [TE.size,Ty.size]
     have cK:cs.length=n:=by rw[bk,Xad];exact hn
     have hr:=run_loadCells_list (P:=P) w ⟨b,(ν id).off,none⟩ cs (λj v hj=>by rw[Wau];exact h8 j v hj);rw[cK]at hr;refine⟨.agg cs.toArray,?_,cs,rfl,?_,λj c v hj hv=>?_⟩
     .simp_all [Instr.loadAt,Instr.sureAddr,Sem.run_bind,Sem.run_pure,Result.andThen_ok,loadVar,W9]
     .rw[Wmu,cK]
     .rw[Wm6]at hj;split at hj
      .rename_i pQ;injection hj with hj;subst hj;rw[bk,Xai]at hv;have rZ:j<Xb xs:=Nat.lt_of_lt_of_eq pQ hn.symm;rw[Xp rZ]at hv;simp only[Xbv]at hv;injection hv with hv;subst hv;refine⟨?_,rfl⟩;simp[CellRel,Enc,rZ]
      .cases hj
    grind
   grind
  grind
 grind
end
section
variable{w0:World}{F:CS}{nt:Slots}{G0 G:GH}{ν:Nat->Nu}{st:St}{a:Act}{w:World}{P:Program}{T:Tab}
theorem Wbw{o:Oper}{s:Sem Value}{r:AVal}(he:execOp a.eval o=(do pure (.value (←s))))(h:Gives P G ν st w s r):
  ∃v,(execOp a.eval o).run P w= .ok (.value v) w/\AValRel G ν st.nx r v:=by
 obtain⟨v,h1,h2⟩:=h;simp_all
theorem WbA{α β:Type}{x:Option α}{f:α->Option (Bool×β)}{r:β}(h:x.bind f=some (true,r)):∃y,x=some y/\f y=some (true,r):=by
 cases x with
 |none=>simp at h
 |some y=>simp_all
theorem Wlk(hT:W5 P T)(hh:HRel w0 F G ν st.objs st.nx w){op:BinOp}{t:TypeId}{x y:AVal}{u v:Value}{r:AVal}(ox oy:Operand)(hx:AValRel G ν st.nx x u)(hy:AValRel G ν st.nx y v)
  (h:Wn9 T st op t x y=some (true,r)):Gives P G ν st w (do eqGuard op t ox oy u v;Go.binOp op t u v) r:=by
 unfold Wn9 at h;split at h
 .rename_i id;split at h
  .rename_i te e hl;have hu:=(hT _ _ hl).und.2.1;obtain⟨⟨_,hv⟩,_⟩:=hx;subst hv;obtain⟨hn,_⟩:=hy;simp only[CellRel]at hn;subst hn;split at h
   .rename_i e' xs ho;have key:∀n:Nat,Xfp 0 xs.length=true->(Op.equalIn (n+1) t (ν id).hdr (.slice none 0 0)).run P w= .ok false w:=λn hb=>by
     have bZ:xs≠ []:=by rintro rfl;simp at hb
     obtain⟨S,an⟩:=hh.obj ho;have hd:∃g,(ν id).hdr= .slice (some g) (ν id).len (ν id).cap:=by
      unfold Nu.hdr;obtain⟨aa,_,an⟩:=an;cases hb:(ν id).blk with
      |none=>simp_all
      |some g=>simp_all
     obtain⟨g,hd⟩:=hd;simp_all [Op.equalIn,Wi]
    have hg:∀op,(eqGuard op t ox oy (ν id).hdr (.slice none 0 0)).run P w= .ok () w:=λop=>Wbf (λcs=>by unfold Nu.hdr;split<;>exactλh=>nomatch h) (by unfold Nu.hdr;split<;>exactλh=>nomatch h);split at h
    .simp only[Option.some.injEq,Prod.mk.injEq]at h;obtain⟨h1,rfl⟩:=h;exact⟨.bool false,by simp[hg,Go.binOp,Op.equal,Op.maxDepth,show(Op.equalIn 10000 t (ν id).hdr (.slice none 0 0)).run P w= .ok false w from key 9999 h1],WB rfl⟩
    .simp only[Option.some.injEq,Prod.mk.injEq]at h;obtain⟨h1,rfl⟩:=h;exact⟨.bool true,by simp[hg,Go.binOp,Op.equal,Op.maxDepth,show(Op.equalIn 10000 t (ν id).hdr (.slice none 0 0)).run P w= .ok false w from key 9999 h1],WB rfl⟩
    grind
   grind
  grind
 grind
theorem Wnn(hT:W5 P T)(hr:Rel w0 F nt G0 G ν st a w){o:Oper}{r:AVal}(h:W1 T st o.op=some (true,r)):
  ∃v,(execOp a.eval o).run P w= .ok (.value v) w/\AValRel G ν st.nx r v:=by
 obtain⟨dst,op,type,pos,after,guard⟩:=o;simp only at h;unfold W1 at h;split at h
 .rename_i x;cases hx:ev st x with
  |none=>simp_all
  |some v=>simp[hx]at h;subst h;exact⟨_,rfl,Wz hr x _ hx⟩
 .rename_i x;cases hx:ev st x with
  |none=>simp_all
  |some v=>simp[hx]at h;subst h;exact⟨_,rfl,Wz hr x _ hx⟩
 .rename_i c x y;split at h
  .rename_i p h1;cases hc:ev st c with
   |none=>simp_all
   |some cv=>
    simp[hc]at h1;have e1:=Wlp _ _ _ (Wz hr c _ hc) h1;split at h
    .rename_i m n h2 h3;simp at h;subst h;have e2:=WiL (Wz hr x _ h2);have e3:=WiL (Wz hr y _ h3);refine⟨.bool (bif p then m else n),?_,WB rfl⟩;simp only[execOp,e1,e2,e3,asBool];cases p<;>rfl
    .cases p with
     |true=>
      cases hx:ev st x with
      |none=>simp_all
      |some v=>simp[hx]at h;subst h;exact⟨a.eval x,by simp_all [execOp,asBool],Wz hr x _ hx⟩
     |false=>
      cases hx:ev st y with
      |none=>simp_all
      |some v=>simp[hx]at h;subst h;exact⟨a.eval y,by simp_all [execOp,asBool],Wz hr y _ hx⟩
  grind
 .rename_i t x;obtain⟨y,hy,h⟩:=WbA h;cases ha:Wez T st t y with
  |some z=>rw[ha]at h;simp only[]at h;injection h with h;subst h;exact Wbw rfl (Wjh hT hr.h (Wz hr x _ hy) ha)
  |none=>
   rw[ha]at h;cases hl:WfN T st t y with
   |none=>simp_all
   |some z=>simp[hl]at h;subst h;exact Wbw rfl (WfL hT hr.h (Wz hr x _ hy) hl)
 .rename_i x;obtain⟨y,hy,h⟩:=WbA h;obtain⟨rfl,p,hp⟩:=WpW (Wz hr x _ hy) h;exact⟨_,WrQ rfl hp,by grind [Wz]⟩
 .rename_i op t x y _;split at h
  .rename_i u v h1 h2;split at h
   .rename_i z hz;injection h with h;subst h;exact Wbw rfl (Wlk hT hr.h x y (Wz hr x _ h1) (Wz hr y _ h2) hz)
   .exact Wbw rfl (Wli hT x y (Wz hr x _ h1) (Wz hr y _ h2) h)
  grind
 .rename_i op t x;obtain⟨y,hy,h⟩:=WbA h;exact Wbw rfl (WnK (Wz hr x _ hy) h)
 .rename_i src dst x;obtain⟨y,hy,h⟩:=WbA h;exact Wbw rfl (Wj1 hT hr.h (Wz hr x _ hy) h)
 .rename_i t x lo hi;obtain⟨y,hy,h⟩:=WbA h;exact Wbw rfl (WjE hT (Wz hr x _ hy) (λl hl=>Wcn hr lo l hl) (λl hl=>Wcn hr hi l hl) h)
 .rename_i s x f;obtain⟨y,hy,h⟩:=WbA h;exact Wbw rfl (Wfz hT hr.h (Wz hr x _ hy) h)
 .rename_i s x f;obtain⟨y,hy,h⟩:=WbA h;exact Wbw rfl (Wjy hT (Wz hr x _ hy) h)
 .rename_i t x i;split at h
  .rename_i u v h1 h2;exact Wbw rfl (Wfp hT hr.h (Wz hr x _ h1) (Wz hr i _ h2) h)
  grind
 .rename_i t x i;split at h
  .rename_i u v h1 h2;exact Wbw rfl (Wje hT (Wz hr x _ h1) (Wz hr i _ h2) h)
  grind
 .rename_i t ix;split at h
  .rename_i xs h1;cases hx:xs[ix]? with
   |none=>simp_all
   |some y=>
    simp[hx]at h;subst h;obtain⟨vs,hv,hl,ee⟩:=Wz hr t _ h1;have ad:ix<vs.length:=by grind
    exact Wbw rfl ⟨vs[ix],by simp[hv,Instr.extract,ad],ee ix y _ hx (Xp ad)⟩
  grind
 .rename_i f first captured
  split at h
  .rename_i hf;cases hc:WeR st captured.toList with
   |none=>simp_all
   |some ids=>
    simp[hc]at h;subst h;obtain⟨h1,h2⟩:=Wia hr _ _ hc;have ny:first= #[]:=by simp_all
    subst ny;refine Wbw rfl ⟨.func (.func f) #[] (captured.map a.eval),by simp[Instr.makeFunc],⟨captured.toList.map a.eval,?_,?_,h2⟩,rfl⟩
    .apply Wk
     grind
    grind
  grind
 .rename_i c;obtain⟨callee,args,argTypes⟩:=c;obtain⟨args⟩:=args;obtain⟨argTypes⟩:=argTypes;simp only at h;split at h
  .rename_i x t;obtain⟨y,hy,h⟩:=WbA h;obtain⟨v,h1,h2⟩:=WlU (ty:=type) hT hr.h (Wz hr x _ hy) h;refine⟨v,?_,h2⟩;simp only[execOp,resolve,invoke,builtin,Sem.run_bind,Sem.run_pure,Result.andThen_ok,Xdm,Xag,Xbu,h1]
  .rename_i x y _ _;split at h
   .rename_i k m k' n h1 h2;split at h
    .rename_i hk;subst hk;simp at h;subst h;have e1:=Wfv (Wz hr x _ h1);have e2:=Wfv (Wz hr y _ h2);refine⟨.int k (Wtk m n),?_,WB rfl⟩;simp only[execOp,resolve,invoke,builtin,Sem.run_bind,Sem.run_pure,Result.andThen_ok,Xdm,Xag,Xbu,e1,e2,Builtin.min_];rfl
    grind
   grind
  .rename_i x y _ _;split at h
   .rename_i k m k' n h1 h2;split at h
    .rename_i hk;subst hk;simp at h;subst h;have e1:=Wfv (Wz hr x _ h1);have e2:=Wfv (Wz hr y _ h2);refine⟨.int k (Wsj m n),?_,WB rfl⟩;simp only[execOp,resolve,invoke,builtin,Sem.run_bind,Sem.run_pure,Result.andThen_ok,Xdm,Xag,Xbu,e1,e2,Builtin.max_];rfl
    grind
   grind
  grind
 grind
end
end Go.Sx
namespace Go.Sx
set_option linter.unusedVariables false
set_option linter.unusedSimpArgs false
section
variable{w0:World}{F:CS}{nt:Slots}{G0 G G':GH}{ν ν':Nat->Nu}{φ φ':Nat->CS}{objs objs':WZ}{nx af:Nat}{w w':World}{P:Program}{T:Tab}
theorem Live.of{id:Nat}{ob:Ob}(h:Wj objs id=some ob)(hd:ob≠ .dead):Live objs id:=⟨ob,h,hd⟩
theorem Wv{α:Type}(k:Nat)(v:α)(l:List (Nat×α))(i:Nat):Wj ((k,v)::l) i=if k=i then some v else Wj l i:=by
 simp only[Wj];by_cases h:k=i
 .subst h;simp
 .have:Xaz k i=false:=by
   grind [Xaz,absurd,Xch]
  rw[this,Wc h]
theorem Wa4{α:Type}:∀(l m:List (Nat×α)) (i:Nat),Wj (l++m) i=match Wj l i with
  |some x=>some x
  |none=>Wj m i
 | [],m,i=>rfl
 |(k,v)::l,m,i=>by
  rw[List.cons_append,Wv,Wv];split
  .rfl
  .exact Wa4 l m i
theorem HR.blk_lt_g(h:HR w0 F G ν φ objs nx w){b o:Nat}{v:Value}(hg:G b o=some v):b<w.heap.size:=block_lt_of_cell (h.g b o v hg)
theorem WLe.refl(S:CS)(w:World):WLe S w w:=⟨Xm _,λ_ vs _ h=>⟨vs,h,rfl⟩,λ_ _ _ _=>rfl,λ_ _ _=>rfl,rfl,rfl,rfl⟩
theorem WLe.mono{S S':CS}(h:WLe S w w')(hl:CS.le S S'):WLe S' w w':=
 ⟨h.size,h.row,λb o hb hn=>h.cell b o hb (λhs=>hn (hl b o hs)),λb hb hn=>h.whole b hb (λo hs=>hn o (hl b o hs)),h.os,h.output,h.tape⟩
theorem WLe.same{S S':CS}(h:WLe S w w')(hd:CS.disj S S')(hb:∀b o,S' b o->b<w.heap.size):Same S' w w':=
 ⟨λb n ⟨vs,T,h1,h2⟩=>by obtain⟨aj,h3,h4⟩:=h.row b vs T h1;exact⟨aj,T,h3,by omega⟩,λb o hs=>h.cell b o (hb b o hs) (λcu=>hd b o cu hs)⟩
theorem WLe.rows{S:CS}(h:WLe S w w'):Same (λ_ _=>False) w w':=
 ⟨λb n ⟨vs,T,h1,h2⟩=>by obtain⟨aj,h3,h4⟩:=h.row b vs T h1;exact⟨aj,T,h3,by omega⟩,λ_ _ hs=>hs.elim⟩
theorem WLe.trans{S S':CS}{w1 w2 w3:World}(h:WLe S w1 w2)(h':WLe S' w2 w3)(hs:∀b o,S' b o->w1.heap.size<=b\/S b o):WLe S w1 w3 where
 size:=Xcr h.size h'.size
 row b vs T hb:=by
  obtain⟨aj,h1,h2⟩:=h.row b vs T hb;obtain⟨tm,h3,h4⟩:=h'.row b aj T h1;simp_all
 cell b o hb hn:=by
  rw[h'.cell b o (Xba hb h.size) (λcu=>by grind)];exact h.cell b o hb hn
 whole b hb hn:=by
  rw[h'.whole b (Xba hb h.size) (λo cu=>by grind)];exact h.whole b hb hn
 os:=h'.os.trans h.os
 output:=h'.output.trans h.output
 tape:=h'.tape.trans h.tape
theorem WLe.alloc(S:CS)(wd:World)(o:Obj)(hh:wd.heap=w.heap)(m6:wd.os=w.os)(gT:wd.output=w.output)(eh:wd.tape=w.tape):WLe S w (wd.alloc o) where
 size:=by simp[hh]
 row b vs T hb:=by
  have ad:b<w.heap.size:=(Array.getElem?_eq_some_iff.1 hb).1;exact⟨vs,by grind [heap_alloc_old],rfl⟩
 cell b o' hb _:=World.cell?_of_block (by show(wd.alloc o).heap[b]?=w.heap[b]?;rw[heap_alloc_old wd o (by simp_all),hh])
 whole b hb _:=by rw[heap_alloc_old wd o (by simp_all),hh]
 os:=m6
 output:=gT
 tape:=eh
theorem WLe.setRow{S:CS}{b:Nat}{vs us:Array Value}{T:TypeId}(h:w.heap[b]?=some (Obj.cells vs T (0,0)))(bE:us.size=vs.size)(hc:∀o,¬S b o->us[o]?=vs[o]?):WLe S w (w.setRow b us) where
 size:=by simp
 row k aj T' hk:=by
  by_cases e:k=b
  .grind [setRow_heap]
  .exact⟨aj,by grind [setRow_other],rfl⟩
 cell k o hk hn:=by
  by_cases e:k=b
  .subst e;rw[cell_of_row _ k o us T (0,0) (setRow_heap w k vs us T (0,0) h),cell_of_row w k o vs T (0,0) h]
   grind
  grind [World.cell?_of_block,setRow_other]
 whole k hk hn:=by
  by_cases e:k=b
  .subst e;have:us=vs:=Array.ext_getElem? λo=>hc o (hn o);rw[setRow_heap w k vs us T (0,0) h,h,this]
  grind [setRow_other]
 os:=rfl
 output:=rfl
 tape:=rfl
def Wr8(φ:Nat->CS)(objs:WZ):CS:=λb o=>∃id,Live objs id/\φ id b o
theorem HR.step(h:HR w0 F G ν φ objs nx w)(hw:WLe (Wr8 φ objs) w w')
  (an:∀id ob,Wj objs' id=some ob->ob≠ .dead->WbR G ν' af w' id (φ' id) ob)
  (ad:∀id,Live objs' id->id<af)
  (cL:∀id b o,Live objs' id->φ' id b o->Wr8 φ objs b o\/w.heap.size<=b)
  (fL:∀id b o,Live objs' id->φ' id b o->b<w'.heap.size)
  (pR:∀id bw b o,Live objs' id->Live objs' bw->φ' id b o->φ' bw b o->id=bw):
  HR w0 F G ν' φ' objs' af w' where
 g b o v hg:=by
  rw[hw.cell b o (h.blk_lt_g hg) (λ⟨id,hl,hp⟩=>by rw[h.gf id b o hl hp]at hg;cases hg)];exact h.g b o v hg
 ob id ob ho:=by
  by_cases hd:ob= .dead
  .subst hd;trivial
  simp_all
 gf id b o hl hp:=by
  rcases cL id b o hl hp with⟨pS,m7,pT⟩|eS
  .exact h.gf pS b o m7 pT
  .cases hg:G b o with
   |none=>rfl
   |some v=>have:=h.blk_lt_g hg;omega
 inj:=pR
 own id b o hl hp:=by
  rcases cL id b o hl hp with⟨pS,m7,pT⟩|eS
  .exact h.own pS b o m7 pT
  .exact .inl (Xcr h.le.size eS)
 lt:=ad
 bl:=fL
 le:=h.le.trans hw (λb o ⟨id,hl,hp⟩=>h.own id b o hl hp)
def Wsy(φ:Nat->CS)(i:Nat)(S:CS):Nat->CS:=λj=>if j=i then S else φ j
theorem Whm(φ:Nat->CS)(i:Nat)(S:CS):Wsy φ i S i=S:=by simp[Wsy]
theorem WeF(φ:Nat->CS){i j:Nat}(S:CS)(h:j≠i):Wsy φ i S j=φ j:=by simp[Wsy,h]
theorem Wdm:∀(l:List Nat) (id:Nat) (ob:Ob),Wj (kill objs l) id=some ob->ob≠ .dead->Wj objs id=some ob/\id∉l
 | [],id,ob,h,_=>⟨h,by simp⟩
 |i::l,id,ob,h,hd=>by
  simp only[kill]at h;rw[Wv]at h;split at h
  .simp_all
  .rename_i bZ;obtain⟨h1,h2⟩:=Wdm l id ob h hd
   grind
theorem Wcx{l:List Nat}{id:Nat}(h:Live (kill objs l) id):Live objs id/\id∉l:=by
 obtain⟨ob,h1,h2⟩:=h;obtain⟨h3,h4⟩:=Wdm l id ob h1 h2;exact⟨⟨ob,h3,h2⟩,h4⟩
def WsU(φ:Nat->CS)(objs:WZ)(t:Nat)(m:List Nat):CS:=λb o=>∃i,(i=t\/i∈m)/\Live objs i/\φ i b o
theorem HR.put(h:HR w0 F G ν φ objs nx w){t:Nat}{m:List Nat}{ob:Ob}{S:CS}(hn:Wpt nx ν ν')(hx:nx<=af)(ht:t<af)
  (hw:WLe (WsU φ objs t m) w w') (hS:∀b o,S b o->WsU φ objs t m b o\/(w.heap.size<=b/\b<w'.heap.size))
  (cE:ob≠ .dead->WbR G ν' af w' t S ob):HR w0 F G ν' (Wsy φ t S) ((t,ob)::kill objs m) af w':=by
 have hl:∀id cp,Wj ((t,ob)::kill objs m) id=some cp->cp≠ .dead->(id=t/\cp=ob)\/(id≠t/\id∉m/\Wj objs id=some cp):=λid cp ho hd=>by
  grind [Wv,Wdm]
 have jV:∀id,Live ((t,ob)::kill objs m) id->(id=t)\/(id≠t/\id∉m/\Live objs id):=λid ⟨cp,ho,hd⟩=>by
  rcases hl id cp ho hd with⟨h1,h2⟩|⟨h1,h2,h3⟩
  .omega
  .exact .inr ⟨h1,h2,cp,h3,hd⟩
 refine h.step (hw.mono λb o ⟨i,_,h1,h2⟩=>⟨i,h1,h2⟩) (λid cp ho hd=>?_) (λid ax=>?_) (λid b o ax hp=>?_) (λid b o ax hp=>?_) (λid bw b o ax iO hp dI=>?_)
 .rcases hl id cp ho hd with⟨h1,h2⟩|⟨h1,h2,h3⟩
  .grind [Whm]
  .rw[WeF φ S h1];have ax:Live objs id:=⟨cp,h3,hd⟩;refine WcF (λ_ _ _ hh=>hh) (hw.same (λb o ⟨i,hi,pU,tn⟩ hp=>?_) (λb o hp=>h.bl id b o ax hp)) (λ_ _ hh=>hh) hn hx (h.lt id ax) cp (h.ob id cp h3);have:=h.inj i id b o pU ax tn hp;simp_all
 .rcases jV id ax with h1|⟨_,_,h3⟩
  .omega
  .exact Xba (h.lt id h3) hx
 .rcases jV id ax with h1|⟨h1,_,h3⟩
  .subst h1;rw[Whm]at hp;rcases hS b o hp with⟨i,_,h4,h5⟩|h4
   .exact .inl ⟨i,h4,h5⟩
   omega
  .rw[WeF φ S h1]at hp;exact .inl ⟨id,h3,hp⟩
 .rcases jV id ax with h1|⟨h1,_,h3⟩
  .subst h1;rw[Whm]at hp;rcases hS b o hp with⟨i,_,h4,h5⟩|h4
   .exact Xba (h.bl i b o h4 h5) hw.size
   omega
  .rw[WeF φ S h1]at hp;exact Xba (h.bl id b o h3 hp) hw.size
 .have key:∀bw,bw≠t->bw∉m->Live objs bw->φ bw b o->S b o->False:=λbw h1 h2 h3 h4 h5=>by
   rcases hS b o h5 with⟨i,hi,h6,h7⟩|h6
   .have:=h.inj i bw b o h6 h3 h7 h4;simp_all
   .have:=h.bl bw b o h3 h4;omega
  rcases jV id ax with h1|⟨h1,h2,h3⟩<;>rcases jV bw iO with ii|⟨ii,ij,pV⟩
  .rw[h1,ii]
  .simp_all [Whm,WeF]
  .simp_all [Whm,WeF]
  .rw[WeF φ S h1]at hp;rw[WeF φ S ii]at dI;exact h.inj id bw b o h3 pV hp dI
theorem HR.drew(h:HR w0 F G ν φ objs nx w):HR w0 F G ν φ objs nx w.drew:=by
 have hw:WLe (Wr8 φ objs) w w.drew:=⟨Xm _,λ_ vs _ h=>⟨vs,h,rfl⟩,λ_ _ _ _=>rfl,λ_ _ _=>rfl,rfl,rfl,rfl⟩;exact h.step hw (λid ob ho _=>WcF (w:=w) (w':=w.drew) (S:=φ id) (λ_ _ _ hh=>hh) ⟨λ_ _ hh=>hh,λ_ _ _=>rfl⟩ (λ_ _ hh=>hh) (λ_ _=>rfl) (Xm _) (h.lt id ⟨ob,ho,by assumption⟩) ob (h.ob id ob ho))
  h.lt (λid b o hl hp=>.inl ⟨id,hl,hp⟩) (λid b o hl hp=>h.bl id b o hl hp) h.inj
theorem HRel.drew(h:HRel w0 F G ν objs nx w):HRel w0 F G ν objs nx w.drew:=by
 obtain⟨φ,h⟩:=h;exact⟨φ,h.drew⟩
end
section
variable{w0:World}{F:CS}{nt:Slots}{G0 G G':GH}{ν ν':Nat->Nu}{st:St}{a:Act}{w w':World}{P:Program}{T:Tab}
theorem Rel.put(h:Rel w0 F nt G0 G ν st a w){dst:Option Tmp}(hd:∀d,dst=some d->nt.Ok d){x:AVal}{v:Value}(hx:AValRel G ν st.nx x v):Rel w0 F nt G0 G ν (st.put dst x) (a.put dst v) w:=by
 cases dst with
 |none=>exact h
 |some d=>
  have ad:d<a.tmps.size:=by rw[h.ntm];exact(hd d rfl).1
  refine⟨h.defers,by simpa [Act.put]using h.ntm,λp hp=>?_,λi y hy=>?_,h.h,h.gx,h.ex⟩
  .simp only[Act.put];rw[Xeg (λe=>(hd d rfl).2 p hp e.symm)];exact h.par p hp
  simp only[St.put]at hy;rw[Wv]at hy;split at hy
  .rename_i e;subst e;injection hy with hy;subst hy;exact⟨v,by simp[Act.put,ad],hx⟩
  .rename_i bZ;obtain⟨u,hu,hr⟩:=h.env i y hy;exact⟨u,by grind [Act.put,Xeg],hr⟩
theorem Rel.on(h:Rel w0 F nt G0 G ν st a w){objs':WZ}{af:Nat}(hg:GLe G G')(hn:Wpt st.nx ν ν')(hx:st.nx<=af)
  (hh:HRel w0 F G' ν' objs' af w') (gx:GExt w0.heap.size F G0 G'):Rel w0 F nt G0 G' ν' {env:=st.env,objs:=objs',nx:=af} a w':=
 ⟨h.defers,h.ntm,h.par,λi y hy=>by
  obtain⟨u,hu,hr⟩:=h.env i y hy
  grind [AValRel.mono],hh,gx,λx v hv=>AValRel.mono hg hn hx x v (h.ex x v hv)⟩
def upd(ν:Nat->Nu)(i:Nat)(n:Nu):Nat->Nu:=λj=>if j=i then n else ν j
theorem Weg(ν:Nat->Nu)(i:Nat)(n:Nu):Wpt i ν (upd ν i n):=λj hj=>by simp[upd];omega
theorem WaX(ν:Nat->Nu)(i:Nat)(n:Nu):upd ν i n i=n:=by simp[upd]
theorem Rel.lay(h:Rel w0 F nt G0 G ν st a w){dst:Option Tmp}(hd:∀d,dst=some d->nt.Ok d){objs':WZ}{af:Nat}(hn:Wpt st.nx ν ν')(hx:st.nx<=af)
  (hh:HRel w0 F G ν' objs' af w') {x:AVal} {v:Value} (hv:AValRel G ν' af x v):Rel w0 F nt G0 G ν' (({env:=st.env,objs:=objs',nx:=af}:St).put dst x) (a.put dst v) w':=
 (h.on (λ_ _ _ hh=>hh) hn hx hh h.gx).put hd hv
theorem Rel.fresh(h:Rel w0 F nt G0 G ν st a w){dst:Option Tmp}(hd:∀d,dst=some d->nt.Ok d)(m:List Nat)(ob:Ob)(nu:Nu)(S:(Nat->CS)->CS)(x:AVal)(v:Value)
  (hw:∀φ,HR w0 F G ν φ st.objs st.nx w->WLe (WsU φ st.objs st.nx m) w w') (hS:∀φ,HR w0 F G ν φ st.objs st.nx w->∀b o,S φ b o->WsU φ st.objs st.nx m b o\/(w.heap.size<=b/\b<w'.heap.size))
  (cE:∀φ,HR w0 F G ν φ st.objs st.nx w->WbR G (upd ν st.nx nu) (st.nx+1) w' st.nx (S φ) ob)
  (hv:AValRel G (upd ν st.nx nu) (st.nx+1) x v):
  Rel w0 F nt G0 G (upd ν st.nx nu) (({env:=st.env,objs:=(st.nx,ob)::kill st.objs m,nx:=st.nx+1}:St).put dst x) (a.put dst v) w':=by
 obtain⟨φ,hφ⟩:=h.h;exact h.lay hd (Weg ν st.nx nu) (Xcw _) ⟨_,hφ.put (Weg ν st.nx nu) (Xcw _) (Xbo _) (hw φ hφ) (hS φ hφ) (λ_=>cE φ hφ)⟩ hv
theorem Rel.new(h:Rel w0 F nt G0 G ν st a w){dst:Option Tmp}(hd:∀d,dst=some d->nt.Ok d)(ob:Ob)(nu:Nu)(x:AVal)(v:Value)
  (hw:WLe (λ_ _=>False) w w')
  (cE:WbR G (upd ν st.nx nu) (st.nx+1) w' st.nx (λb _=>w.heap.size<=b/\b<w'.heap.size) ob)
  (hv:AValRel G (upd ν st.nx nu) (st.nx+1) x v):
  Rel w0 F nt G0 G (upd ν st.nx nu) (st.new dst ob x) (a.put dst v) w':=
 h.fresh hd [] ob nu (λ_ b _=>w.heap.size<=b/\b<w'.heap.size) x v (λφ _=>hw.mono λ_ _ hh=>hh.elim) (λφ _ b o hs=>.inr hs) (λφ _=>cE) hv
end
end Go.Sx
namespace Go.Sx
set_option linter.unusedVariables false
set_option linter.unusedSimpArgs false
theorem WpV{v:Value}(h:v.oneCell'=true):v.cells= #[v]:=by
 cases v<;>first|rfl|simp[Value.oneCell']at h
section
variable{w0:World}{F:CS}{nt:Slots}{G0 G:GH}{ν:Nat->Nu}{objs:WZ}{nx:Nat}{st:St}{a:Act}{w w':World}{P:Program}{T:Tab}
theorem Ws8:∀(t:Ty),t.data=true->Enc G t t.dflt (Wa3 t)
 | .int _,_=>rfl
 | .bool,_=>rfl
 | .str,_=>rfl
 | .slice e,_=>⟨_,rfl,.inl ⟨rfl,rfl⟩⟩
 | .own _,h=>by simp[Ty.data]at h
 | .prod a b,h=>by
  simp only[Ty.data,Xg]at h;exact⟨_,_,rfl,Ws8 a h.1,Ws8 b h.2⟩
theorem WsZ:∀(t:Ty),CellsRel G ν nx (Wdy t) (Wa3 t)
 | .int _=>CellsRel.one rfl rfl
 | .bool=>CellsRel.one rfl rfl
 | .str=>CellsRel.one rfl rfl
 | .slice e=>CellsRel.one rfl rfl
 | .own _=>CellsRel.one trivial rfl
 | .prod a b=>(WsZ a).append (WsZ b)
theorem WaT:∀(t:Ty),(Wa3 t).length=t.size
 | .int _| .bool| .str| .slice _| .own _=>rfl
 | .prod a b=>by simp[Wa3,WaT a,WaT b,Ty.size]
theorem Wjz{α:Type}(l:List α):∀n,(rep l n).length=n*l.length
 |0=>by simp[rep]
 |n+1=>by rw[rep,Xo,Wjz l n,Xbl,Xcq]
theorem Wfk{e:Ty}(h:e.data=true):∀n,WcT (Enc G e) (Xr n e.dflt) (rep (Wa3 e) n)
 |0=>rfl
 |n+1=>⟨_,_,rfl,Ws8 e h,Wfk h n⟩
theorem WdS{t:TypeId}{te:TE}(bo:TEok P T t te):∃z,(zeroValue t).run P w= .ok z w/\z.cells.toList=te.cells:=by
 obtain⟨i,z,hi,_,hz,hc,_⟩:=bo.info;simp_all [zeroValue,WfO]
theorem Wa1{te:TE}(h:te.plain=true):te.cells=Wa3 te.ty:=by
 unfold TE.plain at h;unfold TE.cells;split at h<;>simp_all
theorem Wjt(w:World)(o:Obj):(w.alloc o).heap[w.heap.size]?=some o:=heap_alloc_new w o
theorem zty:∀(t:Ty),∃ps,Wm G w t t.dflt (Wa3 t.ro) ps/\∀p∈ps,p.fp= λ_ _=>False
 | .int _=>⟨[],⟨rfl,rfl⟩,by simp⟩
 | .bool=>⟨[],⟨rfl,rfl⟩,by simp⟩
 | .str=>⟨[],⟨rfl,rfl⟩,by simp⟩
 | .slice e=>⟨[],⟨rfl,_,rfl,.inl ⟨rfl,rfl⟩⟩,by simp⟩
 | .own e=>⟨[⟨⟨none,0,0,0,e.size⟩,λ_ _=>False⟩],⟨_,rfl,rfl,rfl,rfl,rfl⟩,by simp⟩
 | .prod a b=>by
  obtain⟨p1,h1,h2⟩:=zty a;obtain⟨p2,h3,h4⟩:=zty b;refine⟨p1++p2,⟨_,_,p1,p2,rfl,rfl,h1,h3⟩,λp hp=>?_⟩
  grind
theorem Wrj(e:Ty):∀n,∃ps,WdQ (Wm G w e) (Xr n e.dflt) (rep (Wa3 e.ro) n) ps/\∀p∈ps,p.fp= λ_ _=>False
 |0=>⟨[],⟨rfl,rfl⟩,by simp⟩
 |n+1=>by
  obtain⟨p1,h1,h2⟩:=zty (G:=G) (w:=w) e;obtain⟨p2,h3,h4⟩:=Wrj e n;refine⟨p1++p2,⟨_,_,p1,p2,rfl,rfl,h1,h3⟩,λp hp=>?_⟩
  grind
theorem WjV:∀(ps:List Pc),(∀p∈ps,p.fp= λ_ _=>False)->Sep (ps.map Pc.fp)
 | [],_=>List.Pairwise.nil
 |p::ps,h=>Xw.2 ⟨λs _ b o hb _=>by simp_all,WjV ps λq hq=>h q (Xe _ hq)⟩
theorem Wo3(h:Rel w0 F nt G0 G ν st a w){dst:Option Tmp}(hd:∀d,dst=some d->nt.Ok d){cs:List Cell}{vs:Array Value}{t:TypeId}(hc:CellsRel G ν st.nx cs vs.toList):
  ∃ν',Rel w0 F nt G0 G ν' (st.new dst (.box cs) (.s (.one (.ptr st.nx 0)))) (a.put dst (.pointer (some ⟨w.heap.size,0,none⟩))) (w.alloc (.cells vs t)):=by
 refine⟨upd ν st.nx ⟨some w.heap.size,0,0,0,0⟩,h.new hd (.box cs) _ _ _ (WLe.alloc _ w _ rfl rfl rfl rfl) ?_ ?_⟩
 .have hl:vs.size=cs.length:=by have:=hc.1;omega
  refine⟨w.heap.size,vs.toList,by rw[WaX],⟨vs,t,Wjt w _,by grind [WaX]⟩,?_,hc.mono (λ_ _ _ hh=>hh) (Weg _ _ _) (Xcw _),λb o ⟨hb,_⟩=>by simp_all⟩;rw[WaX];exact Wpg (Wjt w _) (λj v hj=>by simp_all)
 .exact⟨⟨Xbo _,w.heap.size,by rw[WaX],by rw[WaX]⟩,rfl⟩
def FromL(φ:Nat->CS)(objs:WZ)(m:List Nat):CS:=λb o=>∃i∈m,Live objs i/\φ i b o
theorem Wgj(h:Rel w0 F nt G0 G ν st a w){dst:Option Tmp}(hd:∀d,dst=some d->nt.Ok d)(m:List Nat){e:Ty}{xs:List e.den}{cap:Nat}{vs:Array Value}{t:TypeId}{cs:List Value}(hx:xs.length<=cap)(fM:cap<=maxLen)
  (bE:vs.size=cap*e.size) (hc:∀φ,HR w0 F G ν φ st.objs st.nx w->∃ps,WdQ (Wm G w e) xs cs ps/\Sep (ps.map Pc.fp)/\∀p∈ps,CS.le p.fp (FromL φ st.objs m)) (hp:cs<+:vs.toList)
  (wd:World) (pi:wd.heap=w.heap) (m6:wd.os=w.os) (gT:wd.output=w.output) (eh:wd.tape=w.tape):
  (∃ν',Rel w0 F nt G0 G ν' (({env:=st.env,objs:=(st.nx,.arr e xs)::kill st.objs m,nx:=st.nx+1}:St).put dst (.s (.one (.own st.nx)))) (a.put dst (.slice (some ⟨w.heap.size,0,none⟩) xs.length cap)) (wd.alloc (.cells vs t)))/\
  (∃ν',Rel w0 F nt G0 G ν' (({env:=st.env,objs:=(st.nx,.arr e xs)::kill st.objs m,nx:=st.nx+1}:St).put dst (.s (.one (.aptr st.nx)))) (a.put dst (.pointer (some ⟨w.heap.size,0,none⟩))) (wd.alloc (.cells vs t))):=by
 have kD:(wd.alloc (.cells vs t)).heap[w.heap.size]?=some (Obj.cells vs t (0,0)):=by grind [Wjt]
 have key:∀(x:AVal) (v:Value),AValRel G (upd ν st.nx ⟨some w.heap.size,0,xs.length,cap,e.size⟩) (st.nx+1) x v->
   ∃ν',Rel w0 F nt G0 G ν' (({env:=st.env,objs:=(st.nx,.arr e xs)::kill st.objs m,nx:=st.nx+1}:St).put dst x) (a.put dst v) (wd.alloc (.cells vs t)):=λx v hv=>by
  refine⟨upd ν st.nx ⟨some w.heap.size,0,xs.length,cap,e.size⟩,h.fresh hd m (.arr e xs) _ (λφ b o=>FromL φ st.objs m b o\/b=w.heap.size) x v (λφ _=>WLe.alloc _ wd _ pi m6 gT eh) (λφ hφ b o hs=>?_) (λφ hφ=>?_) hv⟩
  .rcases hs with⟨i,hi,h1,h2⟩|hs
   .exact .inl ⟨i,.inr hi,h1,h2⟩
   simp_all
  .obtain⟨ps,h1,h2,h3⟩:=hc φ hφ;have fL:∀p∈ps,∀b o,p.fp b o->b<w.heap.size:=λp dI b o hh=>by
    obtain⟨i,_,g1,g2⟩:=h3 p dI b o hh;exact hφ.bl i b o g1 g2
   show Wa9 (wd.alloc (.cells vs t)) (Wm G _ e) e.size (upd ν st.nx ⟨some w.heap.size,0,xs.length,cap,e.size⟩ st.nx) xs _;rw[WaX];refine⟨rfl,rfl,hx,fM,⟨vs,t,kD,by simp_all⟩,cs,ps,?_,?_,Xw.2 ⟨λs hs b o ⟨hb,_⟩ gU=>?_,h2⟩,λs hs b o gU=>?_⟩
   .refine Wbd (Q:=λp=>∀b o,p.fp b o->b<w.heap.size) (λx c p dI hh=>?_) _ _ _ fL h1;exact Wag (λ_ _ _ hh=>hh) e x c p (λq hq=>(WLe.alloc (λ_ _=>False) wd _ pi m6 gT eh).same (λ_ _ hh _=>hh) (dI q hq)) hh
   .obtain⟨tl,pg⟩:=hp;exact Wpg kD (λj v hj=>by grind)
   .obtain⟨p,dI,rfl⟩:=Xv.1 hs
    grind
   .rcases Xq.1 hs with rfl|hs
    .exact .inr gU.1
    .obtain⟨p,dI,rfl⟩:=Xv.1 hs;exact .inl (h3 p dI b o gU)
 refine⟨key _ _ ⟨⟨Xbo _,?_⟩,rfl⟩,key _ _ ⟨⟨Xbo _,w.heap.size,by rw[WaX],by rw[WaX]⟩,rfl⟩⟩;rw[WaX];rfl
theorem WlW(h:Rel w0 F nt G0 G ν st a w){dst:Option Tmp}(hd:∀d,dst=some d->nt.Ok d){e:Ty}(he:e.data=true){xs:List e.den}{cap:Nat}{vs:Array Value}{t:TypeId}{cs:List Value}(hx:xs.length<=cap)(fM:cap<=maxLen)
  (bE:vs.size=cap*e.size) (hc:WcT (Enc G e) xs cs) (hp:cs<+:vs.toList) (wd:World) (pi:wd.heap=w.heap) (m6:wd.os=w.os) (gT:wd.output=w.output) (eh:wd.tape=w.tape):
  (∃ν',Rel w0 F nt G0 G ν' (st.new dst (.arr e xs) (.s (.one (.own st.nx)))) (a.put dst (.slice (some ⟨w.heap.size,0,none⟩) xs.length cap)) (wd.alloc (.cells vs t)))/\
  (∃ν',Rel w0 F nt G0 G ν' (st.new dst (.arr e xs) (.s (.one (.aptr st.nx)))) (a.put dst (.pointer (some ⟨w.heap.size,0,none⟩))) (wd.alloc (.cells vs t))):=
 Wgj h hd [] hx fM bE (λφ _=>⟨[],(WbM he xs cs []).2 ⟨hc,rfl⟩,List.Pairwise.nil,by simp⟩) hp wd pi m6 gT eh
theorem Wcw{x:AVal}{v:Value}{cs:List Cell}(hx:AValRel G ν nx x v)(hb:Wfs x=some cs):CellsRel G ν nx cs v.cells.toList/\∀u∈v.cells.toList,u.oneCell'=true:=by
 cases x with
 |tup xs=>simp[Wfs]at hb
 |s y=>
  cases y with
  |one c=>
   simp[Wfs]at hb;subst hb;obtain⟨h1,h2⟩:=hx
   grind [WpV,CellsRel.one]
  |agg ds=>
   simp[Wfs]at hb;subst hb;obtain⟨vs,rfl,h1⟩:=hx;refine⟨by grind [Value.cells],λu hu=>?_⟩;simp[Value.cells]at hu;obtain⟨j,hj⟩:=List.getElem?_of_mem hu;have ad:j<ds.length:=by rw[←h1.1];grind
   exact(h1.2 j _ u (Xp ad) hj).2
theorem WbY(t:TypeId)(vs:Array Value):(newRow t vs).run P w= .ok ⟨w.heap.size,0,none⟩ (w.alloc (.cells vs t)):=rfl
theorem WdR{cs ds:List Cell}{off:Nat}(h:off+ds.length<=cs.length):(Wc8 cs off ds).length=cs.length:=by
 simp[Wc8];omega
theorem Wd2{cs ds:List Cell}{vs us:List Value}{off:Nat}(hc:CellsRel G ν nx cs vs)(hd:CellsRel G ν nx ds us):
  CellsRel G ν nx (Wc8 cs off ds) (vs.take off++us++vs.drop (off+us.length)):=by
 rw[hd.1];exact((hc.take off).append hd).append (hc.drop _)
theorem Whp(us:List Value):∀(off k:Nat) (cs:Array Value),off+k+us.length<=cs.size->
  ((us.zipIdx k).foldl (λcs (c,j)=>cs.setIfInBounds (off+j) c) cs).toList=cs.toList.take (off+k)++us++cs.toList.drop (off+k+us.length):=by
 induction us with
 |nil=>simp_all
 |cons u us ih=>
  intro off k cs h;simp only[List.zipIdx_cons,List.foldl_cons,Xn]at h⊢;rw[ih off (k+1) _ (by simp;omega)];have ad:off+k<cs.toList.length:=by simp;omega
  simp only[Array.toList_setIfInBounds];generalize cs.toList=l at*;have e1:(l.set (off+k) u).take (off+(k+1))=l.take (off+k)++ [u]:=by
   rw[←Xav,List.take_succ_eq_append_getElem (by simp_all),List.take_set_of_le (Xm _)];simp
  grind [List.drop_set_of_lt]
end
end Go.Sx
namespace Go.Sx
set_option linter.unusedVariables false
set_option linter.unusedSimpArgs false
section
variable{w0:World}{F:CS}{nt:Slots}{G0 G:GH}{ν:Nat->Nu}{objs:WZ}{nx:Nat}{st ac:St}{a:Act}{w w':World}{P:Program}{T:Tab}
def Done(P:Program)(w0:World)(F:CS)(nt:Slots)(G0:GH)(o:Oper)(a:Act)(w:World)(ac:St):Prop:=
 ∃n v w' G' ν',(execOp a.eval o).run P w= .ok n w'/\(n= .value v\/(n= .skip/\v=undef))/\Rel w0 F nt G0 G' ν' ac (a.put o.dst v) w'
theorem WeO(hr:Rel w0 F nt G0 G ν st a w):∀(l:List (Nat×Operand)) (ps:List (Nat×AVal)),WbP st l=some ps->
  ps.length=l.length/\∀(j:Nat) (p:Nat×AVal) (q:Nat×Operand),ps[j]?=some p->l[j]?=some q->p.1=q.1/\AValRel G ν st.nx p.2 (a.eval q.2)
 | [],ps,h=>by simp[WbP]at h;simp_all
 |(i,x)::l,ps,h=>by
  simp only[WbP]at h;split at h
  .rename_i y ys h1 h2;injection h with h;subst h;obtain⟨h3,h4⟩:=WeO hr l ys h2;refine⟨by simp[h3],λj p q hp hq=>?_⟩;cases j with
   |zero=>simp at hp hq;subst hp hq;exact⟨rfl,Wz hr x _ h1⟩
   |succ j=>grind
  grind
theorem Wh2(hT:W5 P T){fs:List (Nat×TypeId)}{place:Nat->Option (Nat×Nat)}
  (ec:∀(i off:Nat) (ft:TypeId) (te:TE),fs[i]?=some (off,ft)->Wj T ft=some te->place i=some (off,te.size)) (fN:∀(i off:Nat) (ft:TypeId) (te:TE),fs[i]?=some (off,ft)->Wj T ft=some te->te.plain=true):
  ∀(l:List (Nat×AVal)) (ps:List (Nat×Value)) (cs bY:List Cell) (vs:Array Value),CellsRel G ν nx cs vs.toList->ps.length=l.length->
   (∀(j:Nat) (p:Nat×AVal) (q:Nat×Value),l[j]?=some p->ps[j]?=some q->p.1=q.1/\AValRel G ν nx p.2 q.2)->WkS T fs l cs=some bY->
   ∃aj,Instr.fill place vs ps=some aj/\CellsRel G ν nx bY aj.toList
 | [],[],cs,bY,vs,hc,_,_,h=>by simp[WkS]at h;subst h;exact⟨vs,rfl,hc⟩
 |(i,x)::l,[],_,_,_,_,hl,_,_=>by simp at hl
 | [],_::_,_,_,_,_,hl,_,_=>by simp at hl
 |(i,x)::l,(i',v)::ps,cs,bY,vs,hc,hl,hp,h=>by
  obtain⟨he,hx⟩:=hp 0 _ _ rfl rfl;simp only at he hx;subst he;simp only[WkS]at h;split at h
  .rename_i off ft hf;split at h
   .rename_i te ds bo fA;split at h
    .rename_i bc;simp only[Xg,Wg]at bc;obtain⟨h1,h2⟩:=bc;obtain⟨h3,_⟩:=Wcw hx fA;have bE:v.cells.size=ds.length:=by have:=h3.1;omega
     have ee:vs.size=cs.length:=by have:=hc.1;omega
     have tp:=fN _ _ _ _ hf bo;have dv:=Whp v.cells.toList off 0 vs (by simp;omega);simp only[Xay,Xam]at dv;have iP:CellsRel G ν nx (Wc8 cs off ds) (v.cells.toList.zipIdx.foldl (λcs (c,j)=>cs.setIfInBounds (off+j) c) vs).toList:=by
      rw[dv];have:=Wd2 (off:=off) hc h3;omega
     obtain⟨aj,h4,h5⟩:=Wh2 hT ec fN l ps _ bY _ iP (by simp_all) (λj p q hj hq=>hp (j+1) p q (by simp_all) (by simp_all)) h;refine⟨aj,?_,h5⟩;simp only[Instr.fill,ec _ _ _ _ hf bo];rw[Wc (by grind [WJ])];rw[←h4];congr 1;rw[←Array.foldl_toList];simp
    grind
   grind
  grind
theorem WeV{α β:Type}(f:α->Sem β)(g:α->β):∀(l:List α),(∀x∈l,(f x).run P w= .ok (g x) w)->(l.mapM f).run P w= .ok (l.map g) w
 | [],_=>by simp
 |x::l,h=>by
  simp only[Xep,Sem.run_bind,h x (Xh ..),Result.andThen_ok,WeV f g l (λy hy=>h y (Xe _ hy)),Sem.run_pure,Xag]
theorem Wj2{α β:Type}(f:α->Sem β)(g:α->β)(l:Array α)(h:∀x∈l,(f x).run P w= .ok (g x) w):(l.mapM f).run P w= .ok (l.map g) w:=by
 rw[Array.mapM_eq_mapM_toList];simp only[Sem.run_map,WeV f g l.toList (λx hx=>h x (by simp_all)),Result.andThen_ok];congr 1
 grind
theorem Wn1(hT:W5 P T)(hr:Rel w0 F nt G0 G ν st a w){o:Oper}(hd:∀d,o.dst=some d->nt.Ok d){t:TypeId}{parts:Array (Nat×Operand)}(ho:o.op= .build t parts)
  {ty:Ty} {fs:List (Nat×TypeId)} {ps:List (Nat×AVal)} {cs:List Cell} (hl:Wj T t=some ⟨ty,true,.struct fs⟩) (cq:WbP st parts.toList=some ps) (hf:WkS T fs ps (Wdy ty)=some cs)
  (ec:∀f∈fs,∃te,Wj T f.2=some te/\te.plain=true):
  Done P w0 F nt G0 o a w (st.put o.dst (.s (.agg cs))):=by
 have bo:=hT _ _ hl;obtain⟨_,fields,hu,dN,_⟩:=bo.und;obtain⟨z,hz,dh⟩:=WdS (w:=w) bo;obtain⟨h1,h2⟩:=WeO hr _ _ cq;have bE:∀f∈fields,∃te,Wj T f.type=some te/\te.plain=true:=λf hf=>ec (f.offset,f.type) (by grind)
 let sz:Field->Nat:=λf=>match Wj T f.type with|some te=>te.size|none=>0
 have aM:(fields.mapM λf=>(do pure (f.offset,←sizeOf f.type):Sem (Nat×Nat))).run P w= .ok (fields.map λf=>(f.offset,sz f)) w:=by
  refine Wj2 _ (λf=>(f.offset,sz f)) fields (λf hf=>?_);obtain⟨te,dB,_⟩:=bE f hf;simp[sz,(hT _ _ dB).sizeOf,dB]
 have ls:∀(i off:Nat) (ft:TypeId) (te:TE),fs[i]?=some (off,ft)->Wj T ft=some te->(fields.map λf=>(f.offset,sz f))[i]?=some (off,te.size):=λi off ft te hi dB=>by
  grind
 have nz:CellsRel G ν st.nx (Wdy ty) z.cells.toList:=by
  rw[dh];exact WsZ ty
 obtain⟨aj,h3,h4⟩:=Wh2 hT ls (λi off ft te hi dB=>by
   obtain⟨da,h5,h6⟩:=ec _ (List.mem_of_getElem? hi);simp_all) ps (parts.toList.map λp=>(p.1,a.eval p.2)) _ cs z.cells nz (by simp[h1]) (λj p q hp hq=>by
   grind) hf
 refine⟨.value (.agg aj),.agg aj,w,G,ν,?_,.inl rfl,hr.put hd ⟨aj.toList,by simp,h4⟩⟩;simp only[execOp,ho,Instr.build,Sem.run_bind,hz,Result.andThen_ok,Wi hu,aM];have:(parts.map λx=>match x with|(i,x)=>(i,a.eval x)).toList=parts.toList.map λp=>(p.1,a.eval p.2):=by simp
 rw[this,h3];rfl
theorem WnN(hT:W5 P T)(hr:Rel w0 F nt G0 G ν st a w){o:Oper}(hd:∀d,o.dst=some d->nt.Ok d){t:TypeId}(ho:o.op= .alloc t){te:TE}(hl:Wj T t=some te)(hp:te.plain=true):
  Done P w0 F nt G0 o a w (st.new o.dst (.box (Wdy te.ty)) (.s (.one (.ptr st.nx 0)))):=by
 obtain⟨z,hz,dh⟩:=WdS (w:=w) (hT _ _ hl);obtain⟨ν',h⟩:=Wo3 (t:=t) (vs:=z.cells) hr hd (cs:=Wdy te.ty) (by grind [Wa1,WsZ]);refine⟨_,_,_,G,ν',?_,.inl rfl,h⟩;simp_all [execOp,Instr.alloc,Sem.run_bind,Result.andThen_ok,newVar,WbY,Sem.run_pure]
theorem Wjp(hT:W5 P T)(hr:Rel w0 F nt G0 G ν st a w){o:Oper}(hd:∀d,o.dst=some d->nt.Ok d){t:TypeId}(ho:o.op= .alloc t){e:Ty}{n:Nat}{et:TypeId}(hl:Wj T t=some ⟨e,true,.arr n et⟩)(aO:e.data=true)(aq:WV n=true):
  Done P w0 F nt G0 o a w (st.new o.dst (.arr e (Xr n e.dflt)) (.s (.one (.aptr st.nx)))):=by
 obtain⟨z,hz,dh⟩:=WdS (w:=w) (hT _ _ hl);have hn:n<=maxLen:=by grind [WV,maxLen]
 have aa:z.cells.size=n*e.size:=by
  grind [Xam,TE.cells,Wjz,WaT]
 obtain⟨_,ν',h⟩:=WlW (t:=t) (vs:=z.cells) hr hd (e:=e) aO (xs:=Xr n e.dflt) (cap:=n) (cs:=rep (Wa3 e) n) (by simp) hn aa (Wfk aO n) (by rw[dh];exact List.prefix_refl _) w rfl rfl rfl rfl;refine⟨_,_,_,G,ν',?_,.inl rfl,h⟩;simp_all [execOp,Instr.alloc,Sem.run_bind,Result.andThen_ok,newVar,WbY,Sem.run_pure]
theorem Wqf(hr:Rel w0 F nt G0 G ν st a w){o:Oper}(hd:∀d,o.dst=some d->nt.Ok d){t:TypeId}{x:Operand}(ho:o.op= .box t x){v:AVal}{cs:List Cell}(hv:ev st x=some v)(hb:Wfs v=some cs):
  Done P w0 F nt G0 o a w (st.new o.dst (.box cs) (.s (.one (.ptr st.nx 0)))):=by
 obtain⟨h1,_⟩:=Wcw (Wz hr x _ hv) hb;obtain⟨ν',h⟩:=Wo3 (t:=t) hr hd h1;refine⟨_,_,_,G,ν',?_,.inl rfl,h⟩;simp only[execOp,ho,Instr.box,Sem.run_bind,Result.andThen_ok,newVar,WbY,Sem.run_pure]
theorem WpL(hT:W5 P T)(hr:Rel w0 F nt G0 G ν st a w){o:Oper}(hd:∀d,o.dst=some d->nt.Ok d){r:AVal}(h:W1 T st o.op=some (true,r)):Done P w0 F nt G0 o a w (st.put o.dst r):=by
 obtain⟨v,h1,h2⟩:=Wnn hT hr h;exact⟨_,v,w,G,ν,h1,.inl rfl,hr.put hd h2⟩
end
end Go.Sx
namespace Go.Sx
set_option linter.unusedVariables false
set_option linter.unusedSimpArgs false
theorem Wex{t t':Ty}{d:t.den}{d':t'.den}(h:Wke t t' d=some d'):∃e:t=t',e▸d=d':=by
 grind [Wke]
theorem Wab{e e':Ty}{d:List e.den}{d':List e'.den}(h:WeM e e' d=some d'):∃he:e=e',he▸d=d':=by
 grind [WeM]
theorem WoP{A A':Type}(hA:A=A')(h:List A=List A')(l:List A)(i:Nat):cast h (l.take i)=(cast h l).take i:=by
 grind
theorem Wpd{A A':Type}(hA:A=A')(h:List A=List A')(l:List A)(i:Nat):cast h (l.drop i)=(cast h l).drop i:=by
 grind
theorem WnO(e:Ty)(l:List e.den)(i:Nat):WbQ e (l.take i)=(WbQ e l).take i:=WoP (Wde e).symm _ l i
theorem Woa(e:Ty)(l:List e.den)(i:Nat):WbQ e (l.drop i)=(WbQ e l).drop i:=Wpd (Wde e).symm _ l i
section
variable{w0:World}{F:CS}{G G':GH}{ν:Nat->Nu}{φ:Nat->CS}{objs:WZ}{nx:Nat}{w:World}
def Lent(G':GH)(w:World)(φ:Nat->CS)(objs:WZ)(l:List Nat):Prop:=∀id∈l,Live objs id->Froz G' w (φ id)
theorem Lent.mono{l m:List Nat}(h:Lent G' w φ objs m)(hs:∀i∈l,i∈m):Lent G' w φ objs l:=λid bj=>h id (hs id bj)
theorem CellsRel.single{c:Cell}{vs:List Value}(h:CellsRel G ν nx [c] vs):∃v,vs= [v]/\CellRel G ν nx c v/\v.oneCell'=true:=by
 obtain⟨h1,h2⟩:=h
 match vs,h1 with
 | [v],_=>exact⟨v,rfl,h2 0 c v rfl rfl⟩
theorem Wfc{t:Ty}{c:Cell}{d:t.den}{v:Value}(hg:GLe G G')(h:CellRel G ν nx c v)(hf:WhB t c=some d):Enc G' t d [v]:=by
 unfold WhB at hf;split at hf
 .obtain⟨e,hd⟩:=Wex hf;subst e;simp only at hd;subst hd;exact WaG hg _ _ _ h
 grind
theorem FromL.mono{m m':List Nat}(h:∀i∈m,i∈m'):CS.le (FromL φ objs m) (FromL φ objs m'):=λb o ⟨i,hi,h1⟩=>⟨i,h i hi,h1⟩
theorem FromL.one{i:Nat}{m:List Nat}(hi:i∈m)(hl:Live objs i):CS.le (φ i) (FromL φ objs m):=λb o h=>⟨i,hi,hl,h⟩
theorem FromL.disj(h:HR w0 F G ν φ objs nx w){m m':List Nat}(hd:∀i∈m,i∉m'):CS.disj (FromL φ objs m) (FromL φ objs m'):=λb o ⟨i,hi,h1,h2⟩ ⟨j,hj,h3,h4⟩=>by
 have:=h.inj i j b o h1 h3 h2 h4;simp_all
theorem CS.disj.mono{A B A' B':CS}(h:CS.disj A B)(h1:CS.le A' A)(h2:CS.le B' B):CS.disj A' B':=λb o ha hb=>h b o (h1 b o ha) (h2 b o hb)
theorem CS.disj.symm{A B:CS}(h:CS.disj A B):CS.disj B A:=λb o ha hb=>h b o hb ha
theorem WlH{l m:List CS}{A B:CS}(h1:Sep l)(h2:Sep m)(ha:∀s∈l,CS.le s A)(hb:∀s∈m,CS.le s B)(hd:CS.disj A B):Sep (l++m):=
 Xah.2 ⟨h1,h2,λs hs t ht=>hd.mono (ha s hs) (hb t ht)⟩
theorem WjS{l1 l2 l3:List CS}(r9:Sep (l1++l3))(h2:Sep l2)(hd:∀s∈l2,∀t∈l1++l3,CS.disj s t):Sep (l1++(l2++l3)):=by
 obtain⟨h1,h3,h4⟩:=Xah.1 r9;refine Xah.2 ⟨h1,Xah.2 ⟨h2,h3,λs hs t ht=>hd s hs t (Xf _ ht)⟩,λs hs t ht=>?_⟩;rcases Xl.1 ht with ht|ht
 .exact(hd t ht s (Xj _ hs)).symm
 simp_all
theorem Wfh{b off i n cap:Nat}(hi:i<cap){S:CS}(h1:CS.le (rng b off (i*n)) S)(h2:CS.le (rng b (off+i*n) n) S)(h3:CS.le (rng b (off+(i+1)*n) ((cap-(i+1))*n)) S):CS.le (rng b off (cap*n)) S:=λb' o ⟨e,g1,g2⟩=>by
 have e1:(i+1)*n=i*n+n:=Xbl i n;have e2:(cap-(i+1))*n+(i+1)*n=cap*n:=by rw[←Xcn];grind
 by_cases c1:o<off+i*n
 .exact h1 b' o ⟨e,g1,c1⟩
 .by_cases c2:o<off+i*n+n
  .exact h2 b' o ⟨e,by omega,c2⟩
  .exact h3 b' o ⟨e,by omega,by omega⟩
theorem Wqr{b a n c m:Nat}(h:a+n<=c):CS.disj (rng b a n) (rng b c m):=λb' o ⟨_,h1,h2⟩ ⟨_,h3,h4⟩=>by omega
theorem WmI{e:Ty}{nu np:Nu}{xs:List e.den}{i:Nat}{S S1 S2:CS}(h:Wf4 w (Wm G w e) e.size nu np xs i S){d:e.den}{vs:List Value}{ns:List Pc}(hd:Wm G w e d vs ns)
  {b:Nat} (hb:np.blk=some b) (hm:Mem w b np.off vs) (hr:CS.le (rng b np.off e.size) S1) (hs:Sep (ns.map Pc.fp)) (dC:∀p∈ns,CS.le p.fp S2) (d1:CS.disj S S1) (d2:CS.disj S S2) (d3:CS.disj S1 S2)
  {S':CS} (l1:CS.le S S') (l2:CS.le S1 S') (l3:CS.le S2 S'):Wa9 w (Wm G w e) e.size nu (xs.set i d) S':=by
 obtain⟨h1,h2,h3,b',h4,h5,h6,h7,h8,h9,c1,c2,p1,p2,g1,g2,g3,g4,g5,g6⟩:=h;rw[hb]at h5;injection h5 with h5;subst h5;have bz:=Waw (λx c q hx=>Wu e x c q hx) _ _ _ g1;rw[Xbe,Xbw (by omega)]at bz;have ax:=Wu _ _ _ _ hd;have e1:(i+1)*e.size=i*e.size+e.size:=Xbl i e.size;refine⟨by simp_all,h2,?_⟩;simp only[h4];have gA:=g6 _ (Xh ..);have gC:=g6 _ (Xe _ (Xh ..));have gp:∀s∈(p1++p2).map Pc.fp,CS.le s S:=λs hs=>g6 s (Xe _ (Xe _ hs));obtain⟨q1,q2⟩:=Xw.1 g5;obtain⟨q3,q4⟩:=Xw.1 q2;rw[h6]at hm hr;refine⟨by simp_all,h8,h9,c1++(vs++c2),p1++(ns++p2),Wm4 h3 g1 hd g2,?_,Xw.2 ⟨λs cu=>?_,?_⟩,λs cu=>?_⟩
 .refine g3.app (n:=i*e.size) ?_ bz;refine hm.app (n:=e.size) ?_ ax
  grind
 .
  simp only[Xy,Xl]at cu;have key:∀s,(CS.disj s (rng b nu.off (i*e.size)))->CS.disj s (rng b (nu.off+i*e.size) e.size)->CS.disj s (rng b (nu.off+(i+1)*e.size) ((nu.cap-(i+1))*e.size))->CS.disj (rng b nu.off (nu.cap*e.size)) s:=λs k1 k2 k3 b' o kE gU=>
   (Wfh (show i<nu.cap by omega) (S:=λb o=>¬s b o) (λb o hh hs=>k1 b o hs hh) (λb o hh hs=>k2 b o hs hh) (λb o hh hs=>k3 b o hs hh) b' o kE) gU
  have tq:∀s∈(p1++p2).map Pc.fp,CS.disj (rng b nu.off (nu.cap*e.size)) s:=λs hs=>key s (q1 s (Xe _ hs)).symm (d1.mono (gp s hs) hr) (q3 s hs).symm;rcases cu with cu|cu|cu
  .simp_all
  .obtain⟨p,hp,rfl⟩:=Xv.1 cu;exact key _ (d2.mono gA (dC p hp)).symm (d3.mono hr (dC p hp)).symm (d2.mono gC (dC p hp)).symm
  simp_all
 .rw[Xy,Xy];rw[Xy]at q4 gp;refine WjS q4 hs (λs cu t ht=>?_);obtain⟨p,hp,rfl⟩:=Xv.1 cu;exact(d2.mono (gp t ht) (dC p hp)).symm
 .rcases Xq.1 cu with rfl|cu
  .exact Wfh (show i<nu.cap by omega) (λb o hh=>l1 b o (gA b o hh)) (λb o hh=>l2 b o (hr b o hh)) (λb o hh=>l1 b o (gC b o hh))
  .simp only[Xy,Xl]at cu;rcases cu with cu|cu|cu
   .exactλb o hh=>l1 b o (gp s (by simp_all) b o hh)
   .obtain⟨p,hp,rfl⟩:=Xv.1 cu
    exactλb o hh=>l3 b o (dC p hp b o hh)
   .exactλb o hh=>l1 b o (gp s (by simp_all) b o hh)
def Nu.part(n:Nu)(lo hi:Nat):Nu:=⟨n.blk,if n.cap=lo then n.off else n.off+lo*n.esz,hi-lo,n.cap-lo,n.esz⟩
theorem WjF{n:Nu}{lo hi:Nat}:(n.part lo hi).hdr=n.vhdr lo hi:=by
 unfold Nu.hdr Nu.vhdr Nu.part;cases n.blk<;>rfl
theorem WmG{e:Ty}{nu:Nu}{xs:List e.den}{S:CS}{lo hi:Nat}(h:Wa9 w (Wm G w e) e.size nu xs S)(h1:lo<=hi)(h2:hi<=nu.len):Wa9 w (Wm G w e) e.size (nu.part lo hi) ((xs.take hi).drop lo) S:=by
 obtain⟨g1,g2,g3⟩:=h;refine⟨by simp[Nu.part];omega,g2,?_⟩;show match nu.blk with|none=>_|some b=>_
 cases hb:nu.blk with
 |none=>simp_all
 |some b=>
  simp only[hb]at g3;obtain⟨g4,g5,g6,cs,ps,g7,g8,g9,pj⟩:=g3;obtain⟨c1,c2,p1,p2,k1,k2,k3,k4⟩:=WdE xs cs ps hi g7;obtain⟨d1,d2,q1,q2,k5,k6,k7,k8⟩:=WdE (xs.take hi) c1 p1 lo k3;have hl:=Waw (λx c q hx=>Wu e x c q hx) _ _ _ k7;rw[Xbe,Xbe,Xbw (by omega)]at hl;have cK:(nu.cap-lo)*e.size+lo*e.size=nu.cap*e.size:=by rw[←Xcn];grind
  have aa:((xs.take hi).drop lo).length=hi-lo:=by simp;omega
  by_cases hc:nu.cap=lo
  .have h0:(xs.take hi).drop lo= []:=Xu (by omega);have e0:nu.cap-lo=0:=by omega
   simp only[Nu.part,We hc,e0,Nat.zero_mul,Xay];rw[h0]at k8⊢;refine⟨Xcb _,Xcb _,?_,[],[],⟨rfl,rfl⟩,λj v hj=>by simp at hj,Xw.2 ⟨by simp,List.Pairwise.nil⟩,λs hs=>?_⟩
   .obtain⟨vs,T,r1,r2⟩:=g6;exact⟨vs,T,r1,by omega⟩
   .simp at hs;subst hs
    exactλb o ⟨_,r1,r2⟩=>Ww r2 (by omega)
  .simp only[Nu.part,Wc hc,g2];have aG:CS.le (rng b (nu.off+lo*e.size) ((nu.cap-lo)*e.size)) (rng b nu.off (nu.cap*e.size)):=λb' o ⟨r0,r1,r2⟩=>⟨r0,by omega,by omega⟩;refine⟨by omega,by omega,?_,d2,q2,k8,?_,?_,λs hs=>?_⟩
   .grind
   .rw[k1,k5,List.append_assoc]at g8;exact(g8.right hl).left
   .obtain⟨r1,r2⟩:=Xw.1 g9;rw[k2,k6,Xy,Xy]at r1 r2;refine Xw.2 ⟨λs hs=>(r1 s (Xj _ (Xf _ hs))).mono aG (λ_ _ hh=>hh),?_⟩
    grind
   .rcases Xq.1 hs with rfl|hs
    .exactλb' o hh=>pj _ (Xh ..) b' o (aG b' o hh)
    simp_all
theorem Wkv{e:Ty}{nu:Nu}{xs:List e.den}{S:CS}{lo hi:Nat}(h:Wa9 w (Wm G w e) e.size nu xs S)(h1:lo<=hi)(h2:hi<=nu.len):Wa9 w (Wm G w e) e.size (nu.part lo hi) (List.drop lo (List.take hi xs)) S:=WmG h h1 h2
theorem WnF(hg:GLe G G'){e:Ty}{nu np:Nu}{xs:List e.den}{i:Nat}{S S1:CS}(h:Wf4 w (Wm G w e) e.size nu np xs i S){d:e.ro.den}{vs:List Value}(hd:Enc G' e.ro d vs)
  {b:Nat} (hb:np.blk=some b) (hm:Mem w b np.off vs) (hr:CS.le (rng b np.off e.size) S1) (f1:Froz G' w S) (f2:Froz G' w S1):WhC G' (Enc G' e.ro) ((WbQ e xs).set i d) nu.hdr:=by
 obtain⟨h1,h2,h3,b',h4,h5,h6,h7,h8,h9,c1,c2,p1,p2,g1,g2,g3,g4,g5,g6⟩:=h;rw[hb]at h5;injection h5 with h5;subst h5;have bz:=Waw (λx c q hx=>Wu e x c q hx) _ _ _ g1;have kF:=Waw (λx c q hx=>Wu e x c q hx) _ _ _ g2;rw[Xbe,Xbw (by omega)]at bz;rw[Xdl]at kF;have ax:=WS _ _ _ hd;rw[Wa7]at ax;have e1:(i+1)*e.size=i*e.size+e.size:=Xbl i e.size;rw[h6]at hm hr;have gA:=g6 _ (Xh ..);have gC:=g6 _ (Xe _ (Xh ..));have gp:∀p∈p1++p2,Froz G' w p.fp:=λp hp=>f1.mono (g6 _ (Xe _ (Xe _ (Xaj hp))));have iN:(xs.length-(i+1))*e.size<=(nu.cap-(i+1))*e.size:=Xau _ (by omega);have E1:=Wjs (λx c p hp hx=>WcJ hg e x c p hp hx) _ _ _ (λq hq=>gp q (Xj _ hq)) g1;have E2:=Wjs (λx c p hp hx=>WcJ hg e x c p hp hx) _ _ _ (λq hq=>gp q (Xf _ hq)) g2;rw[WnO]at E1;rw[Woa]at E2;have aa:(WbQ e xs).length=xs.length:=WeT e xs;have eset:(WbQ e xs).set i d=(WbQ e xs).take i++(d::(WbQ e xs).drop (i+1)):=by
  rw[Xdz,We (by omega)]
 unfold Nu.hdr;simp only[h4];refine .inr (.inl ⟨b,nu.off,nu.cap,c1++(vs++c2),by rw[List.length_set,aa,h1],by grind,h8,?_,λj v hj=>?_⟩)
 .rw[eset];exact WcV _ _ _ _ E1 ⟨vs,c2,rfl,hd,E2⟩
 .have s1:Weh G' b nu.off c1:=g3.stored (n:=i*e.size) (by omega) (f1.mono gA);have s2:Weh G' b (nu.off+i*e.size) vs:=hm.stored (n:=e.size) (by omega) (f2.mono hr);have s3:Weh G' b (nu.off+(i+1)*e.size) c2:=g4.stored (n:=(nu.cap-(i+1))*e.size) (by omega) (f1.mono gC);rw[Xan]at hj;split at hj
  .exact s1 j v hj
  .rename_i eS;rw[Xan]at hj;split at hj
   .have:=s2 _ v hj
    grind
   .have:=s3 _ v hj
    grind
theorem WnS{α:Type}{R:α->List Value->Prop}{n:Nat}(hR:∀x c,R x c->c.length=n){nu:Nu}{xs:List α}(h:WhC G R xs nu.hdr)(aa:xs.length=nu.len)(hn:nu.esz=n){lo hi:Nat}(h1:lo<=hi)(h2:hi<=nu.len)(h3:nu.blk=none->hi=0)(fM:nu.blk≠none->nu.len<=nu.cap/\nu.cap<=maxLen):
  WhC G R ((xs.take hi).drop lo) (nu.vhdr lo hi):=by
 unfold Nu.hdr at h;unfold Nu.vhdr;cases hb:nu.blk with
 |none=>
  have:=h3 hb;refine .inl ⟨rfl,Xu (by simp;omega)⟩
 |some b=>
  obtain⟨pk,jW⟩:=fM (by grind);simp only[hb]at h;have aG:((xs.take hi).drop lo).length=hi-lo:=by simp;omega
  by_cases h0:hi-lo=0
  .refine .inr (.inr ⟨_,nu.cap-lo,by rw[h0],Xu (by omega)⟩)
  .rcases h with⟨e,_⟩|⟨b',off,cap,cs,e,g1,g2,g3,g4⟩|⟨a,cap,e,bt⟩
   .cases e
   .injection e with e1 e2 e3;injection e1 with e1;injection e1 with e4 e5 e6;subst e4 e5 e3;rw[Wc (by omega)];refine .inr (.inl ⟨b,nu.off+lo*nu.esz,nu.cap-lo,(cs.take (hi*n)).drop (lo*n),by rw[aG],by omega,by omega,Wdw hR _ _ lo (Wdq hR _ _ hi g3),λj v hj=>?_⟩);rw[Xbf,Xbg]at hj;split at hj
    .rw[Xav,hn];exact g4 _ _ hj
    grind
   simp_all
def Leaf(ν:Nat->Nu)(t:Ty)(cs:List Cell)(ns:List Pc):Prop:=∀(lf k r:Nat),Wa0 t lf=some k->cs[k]?=some (.own r)->∃pc,ns[lf]?=some pc/\pc.nu=ν r
theorem WdO:∀(t:Ty) (lf k:Nat),Wa0 t lf=some k->lf<t.owns/\k<t.size
 | .own _,lf,k,h=>by
  cases lf with
  |zero=>simp[Wa0]at h;subst h;exact⟨Nat.one_pos,Nat.one_pos⟩
  |succ n=>simp[Wa0]at h
 | .prod a b,lf,k,h=>by
  simp only[Wa0]at h;split at h
  .obtain⟨h1,h2⟩:=WdO a lf k h;exact⟨by show _<a.owns+b.owns;omega,by show _<a.size+b.size;omega⟩
  .obtain⟨j,hj,rfl⟩:=Xs.1 h;obtain⟨h1,h2⟩:=WdO b _ j hj;exact⟨by show _<a.owns+b.owns;omega,by show _<a.size+b.size;omega⟩
 | .int _,_,_,h=>by simp[Wa0]at h
 | .bool,_,_,h=>by simp[Wa0]at h
 | .str,_,_,h=>by simp[Wa0]at h
 | .slice _,_,_,h=>by simp[Wa0]at h
theorem Leaf.none{ν:Nat->Nu}{t:Ty}{cs:List Cell}{ns:List Pc}(h:t.owns=0):Leaf ν t cs ns:=λlf k r h1 h2=>by
 have:=(WdO t lf k h1).1;omega
theorem WsE{ν:Nat->Nu}{e:Ty}{c:Cell}{ns:List Pc}(hc:∀r,c≠ .own r):Leaf ν (.own e) [c] ns:=λlf k r k1 k2=>by
 grind
theorem W2(h:HR w0 F G ν φ objs nx w)(hg:GLe G G'):∀(t:Ty) (cs:List Cell) (vs:List Value) (d:t.den) (m l:List Nat),CellsRel G ν nx cs vs->Lent G' w φ objs l->m.Nodup->
  Wac t cs objs=some (d,m,l)->∃ns,Wm G' w t d vs ns/\Sep (ns.map Pc.fp)/\(∀p∈ns,CS.le p.fp (FromL φ objs m))/\(∀i∈m,Live objs i)/\(∀i∈l,Live objs i)/\Leaf ν t cs ns
 | .prod a b,cs,vs,d,m,l,hc,hl,aH,hf=>by
  simp only[Wac]at hf;split at hf
  .rename_i x m1 l1 y m2 l2 h1 h2;simp only[Option.some.injEq,Prod.mk.injEq]at hf;obtain⟨rfl,rfl,rfl⟩:=hf;obtain⟨n1,n2,n3⟩:=List.nodup_append.1 aH;obtain⟨q1,h3,s1,h4,h5,h5',f1⟩:=W2 h hg a _ (vs.take a.size) x m1 l1 (hc.take _) (hl.mono (by simp_all)) n1 h1;obtain⟨q2,h6,s2,h7,h8,h8',f2⟩:=W2 h hg b _ (vs.drop a.size) y m2 l2 (hc.drop _) (hl.mono (by simp_all)) n2 h2;refine⟨q1++q2,⟨_,_,q1,q2,(List.take_append_drop a.size vs).symm,rfl,h3,h6⟩,?_,?_,?_,?_,?_⟩
   .rw[Xy];refine WlH s1 s2 (A:=FromL φ objs m1) (B:=FromL φ objs m2) (λs hs=>?_) (λs hs=>?_) (FromL.disj h (λi hi hj=>n3 i hi i hj rfl))
    .grind
    grind
   .intro p hp b o hh;rcases Xl.1 hp with hp|hp
    .exact FromL.mono (λi hi=>Xj _ hi) b o (h4 p hp b o hh)
    .exact FromL.mono (λi hi=>Xf _ hi) b o (h7 p hp b o hh)
   .grind
   .grind
   .intro lf k r k1 k2;have hq:=WR _ _ _ _ h3;simp only[Wa0]at k1;split at k1
    .rename_i ad;obtain⟨_,hk⟩:=WdO a lf k k1;obtain⟨pc,k3,k4⟩:=f1 lf k r k1 (by simp_all)
     grind
    .obtain⟨j,hj,rfl⟩:=Xs.1 k1;obtain⟨pc,k3,k4⟩:=f2 _ j r hj (by simp_all)
     grind
  grind
 | .own e,cs,vs,d,m,l,hc,hl,aH,hf=>by
  simp only[Wac]at hf;split at hf
  .rename_i id;obtain⟨v,rfl,⟨_,hv⟩,_⟩:=hc.single;subst hv;have kG:∀{S:CS},Leaf ν (.own e) [.own id] [⟨ν id,S⟩]:=λ{S} lf k r k1 k2=>by
    cases lf with
    |zero=>
     simp[Wa0]at k1;simp_all
    |succ n=>simp[Wa0]at k1
   obtain⟨⟨ys,m'⟩,ho,hf⟩:=Xs.1 hf;simp only[Prod.mk.injEq]at hf;obtain⟨rfl,rfl,rfl⟩:=hf;unfold WqI at ho;split at ho
   .rename_i e' xs aR;obtain⟨zs,bd,ho⟩:=Xs.1 ho;have ho:=Prod.mk.inj ho;obtain⟨rfl,rfl⟩:=ho;obtain⟨he,hy⟩:=Wab bd;subst he;simp only at hy;subst hy;have ax:Live objs id:=⟨_,aR,by simp⟩;have an:Wa9 w (Wm G w e') e'.size (ν id) xs (φ id):=h.ob _ _ aR;refine⟨[⟨ν id,φ id⟩],⟨_,rfl,rfl,Wcc hg (Same.refl _ w) (λ_ _ hh=>hh) an⟩,Xbd _ _,?_,?_,by simp,kG⟩
    .simp_all [FromL.one]
    simp_all
   .rename_i e' xs i p aR;split at ho
    .rename_i zs bY bd eT;split at ho
     .rename_i d' m'' ny;simp only[Option.some.injEq,Prod.mk.injEq]at ho;obtain⟨rfl,rfl⟩:=ho;obtain⟨he,hy⟩:=Wab bd;subst he;simp only at hy;subst hy;obtain⟨n1,n2⟩:=Xaa.1 aH;obtain⟨n3,n4⟩:=Xaa.1 n2;have ax:Live objs id:=⟨_,aR,by simp⟩;have dO:Live objs p:=⟨_,eT,by simp⟩;obtain⟨jU,hole⟩:p<nx/\Wf4 w (Wm G w e') e'.size (ν id) (ν p) xs i (φ id):=h.ob _ _ aR;obtain⟨b,us,hb,aJ,ay,bk,dW⟩:WbR G ν nx w p (φ p) (.box bY):=h.ob _ _ eT;obtain⟨ns,t1,t2,t3,t4,_,_⟩:=W2 h hg e' bY us d' m'' [] bk (λi hi=>by simp at hi) n4 ny;have cH:=Wu _ _ _ _ t1;have nA:=WhZ hg (Same.refl _ w) (λ_ _ hh=>hh) hole;rw[←bk.1,cH]at dW;have bZ:id≠p:=λe=>n1 (by simp_all);refine⟨[⟨ν id,FromL φ objs (id::p::m'')⟩],⟨_,rfl,rfl,WmI nA t1 hb ay dW t2 t3 ?_ ?_ ?_ ?_ ?_ ?_⟩,Xbd _ _,?_,?_,by simp,kG⟩
      .exactλb o h1 h2=>bZ (h.inj id p b o ax dO h1 h2)
      .exactλb o h1 ⟨j,hj,h2,h3⟩=>by
        have:=h.inj id j b o ax h2 h1 h3;simp_all
      .exactλb o h1 ⟨j,hj,h2,h3⟩=>by
        have:=h.inj p j b o dO h2 h1 h3;simp_all
      .simp_all [FromL.one]
      .simp_all [FromL.one]
      .grind [FromL.mono,Xe]
      .intro p hp;simp at hp;subst hp;exactλ_ _ hh=>hh
      simp_all
     grind
    grind
   grind
  .rename_i id lo hi;obtain⟨v,rfl,⟨_,g1,g2,g3,hv⟩,_⟩:=hc.single;subst hv;split at hf
   .rename_i e' xs aR;obtain⟨zs,bd,hf⟩:=Xs.1 hf;have hf:=And.intro (Prod.mk.inj hf).1 (Prod.mk.inj (Prod.mk.inj hf).2);obtain⟨rfl,rfl,rfl⟩:=hf;obtain⟨he,hy⟩:=Wab bd;subst he;simp only at hy;subst hy;have ax:Live objs id:=⟨_,aR,by simp⟩;have an:Wa9 w (Wm G w e') e'.size (ν id) xs (φ id):=h.ob _ _ aR;refine⟨[⟨(ν id).part lo hi,φ id⟩],⟨_,rfl,by rw[WjF],Wkv (Wcc hg (Same.refl _ w) (λ_ _ hh=>hh) an) g1 g2⟩,Xbd _ _,?_,?_,by simp,WsE (by simp_all)⟩
    .simp_all [FromL.one]
    simp_all
   grind
  .simp only[Option.some.injEq,Prod.mk.injEq]at hf;obtain⟨rfl,rfl,rfl⟩:=hf;obtain⟨v,rfl,hv,_⟩:=hc.single;simp only[CellRel]at hv;subst hv;exact⟨[⟨⟨none,0,0,0,e.size⟩,λ_ _=>False⟩],⟨_,rfl,rfl,rfl,rfl,rfl⟩,Xbd _ _,λp hp b o hh=>by simp_all,by simp,by simp,WsE (by simp_all)⟩
  grind
 | .slice e,cs,vs,d,m,l,hc,hl,aH,hf=>by
  simp only[Wac]at hf;split at hf
  .rename_i id;obtain⟨v,rfl,⟨_,hv⟩,_⟩:=hc.single;subst hv;obtain⟨⟨ys,l'⟩,ho,hf⟩:=Xs.1 hf;simp only[Prod.mk.injEq]at hf;obtain⟨rfl,rfl,rfl⟩:=hf;unfold Wq6 at ho;split at ho
   .rename_i e' xs aR;obtain⟨zs,bd,ho⟩:=Xs.1 ho;have ho:=Prod.mk.inj ho;obtain⟨rfl,rfl⟩:=ho;obtain⟨he,hy⟩:=Wab bd;subst he;simp only at hy;subst hy;have ax:Live objs id:=⟨_,aR,by simp⟩;have an:Wa9 w (Wm G w e') e'.size (ν id) xs (φ id):=h.ob _ _ aR;refine⟨[],⟨rfl,_,rfl,Wg6 hg (hl id (by simp) ax) an⟩,List.Pairwise.nil,by simp,by simp,?_,Leaf.none rfl⟩;simp_all
   .rename_i e' xs i p aR;split at ho
    .rename_i zs bY bd eT;split at ho
     .rename_i d' l'' ny;simp only[Option.some.injEq,Prod.mk.injEq]at ho;obtain⟨rfl,rfl⟩:=ho;obtain⟨he,hy⟩:=Wab bd;subst he;simp only at hy;subst hy;have ax:Live objs id:=⟨_,aR,by simp⟩;have dO:Live objs p:=⟨_,eT,by simp⟩;obtain⟨jU,hole⟩:p<nx/\Wf4 w (Wm G w e') e'.size (ν id) (ν p) xs i (φ id):=h.ob _ _ aR;obtain⟨b,us,hb,aJ,ay,bk,dW⟩:WbR G ν nx w p (φ p) (.box bY):=h.ob _ _ eT;obtain⟨ns,t1,t2,t3,t4,t5,_⟩:=W2 h hg e'.ro bY us d' [] l'' bk (hl.mono (λi hi=>Xe _ (Xe _ hi))) Xcy ny;obtain⟨t6,_⟩:=(Way e'.ro d' us ns (WlI e')).1 t1;have cH:=WS _ _ _ t6;rw[Wa7]at cH;rw[←bk.1,cH]at dW;refine⟨[],⟨rfl,_,rfl,WnF hg hole t6 hb ay dW (hl id (by simp) ax) (hl p (by simp) dO)⟩,List.Pairwise.nil,by simp,by simp,?_,Leaf.none rfl⟩;simp_all
     grind
    grind
   grind
  .rename_i id lo hi;obtain⟨v,rfl,⟨_,g1,g2,g3,hv⟩,_⟩:=hc.single;subst hv;split at hf
   .rename_i e' xs aR;obtain⟨zs,bd,hf⟩:=Xs.1 hf;have hf:=And.intro (Prod.mk.inj hf).1 (Prod.mk.inj (Prod.mk.inj hf).2);obtain⟨rfl,rfl,rfl⟩:=hf;obtain⟨he,hy⟩:=Wab bd;subst he;simp only at hy;subst hy;have ax:Live objs id:=⟨_,aR,by simp⟩;have an:Wa9 w (Wm G w e') e'.size (ν id) xs (φ id):=h.ob _ _ aR;have gz:=Wg6 hg (hl id (by simp) ax) an;refine⟨[],⟨rfl,_,rfl,?_⟩,List.Pairwise.nil,by simp,by simp,?_,Leaf.none rfl⟩
    .refine WnS (n:=e'.size) (λx c hc=>by grind [Wa7,WS]) gz (by rw[WeT];exact an.1) an.2.1 g1 g2 g3 (λhb=>?_);cases pW:(ν id).blk with
     |none=>simp_all
     |some b=>
      have:=an.2.2;simp only[pW]at this;exact⟨by rw[←an.1];omega,this.2.1⟩
    simp_all
   grind
  .simp only[Option.some.injEq,Prod.mk.injEq]at hf;obtain⟨rfl,rfl,rfl⟩:=hf;obtain⟨v,rfl,hv,_⟩:=hc.single;simp only[CellRel]at hv;subst hv;exact⟨[],⟨rfl,_,rfl,.inl ⟨rfl,rfl⟩⟩,List.Pairwise.nil,by simp,by simp,by simp,Leaf.none rfl⟩
  .rename_i c _ _ _;cases dN:WhB (.slice e) c with
   |none=>simp_all
   |some x=>
    simp only[dN,Xbv,Option.some.injEq,Prod.mk.injEq]at hf;obtain⟨rfl,rfl,rfl⟩:=hf;obtain⟨v,rfl,hv,_⟩:=hc.single;exact⟨[],⟨rfl,Wfc hg hv dN⟩,List.Pairwise.nil,by simp,by simp,by simp,Leaf.none rfl⟩
  grind
 | .int k,cs,vs,d,m,l,hc,hl,aH,hf=>by
  simp only[Wac]at hf;split at hf
  .rename_i c;cases dN:WhB (.int k) c with
   |none=>simp_all
   |some x=>
    simp only[dN,Xbv,Option.some.injEq,Prod.mk.injEq]at hf;obtain⟨rfl,rfl,rfl⟩:=hf;obtain⟨v,rfl,hv,_⟩:=hc.single;exact⟨[],⟨rfl,Wfc hg hv dN⟩,List.Pairwise.nil,by simp,by simp,by simp,Leaf.none rfl⟩
  grind
 | .bool,cs,vs,d,m,l,hc,hl,aH,hf=>by
  simp only[Wac]at hf;split at hf
  .rename_i c;cases dN:WhB .bool c with
   |none=>simp_all
   |some x=>
    simp only[dN,Xbv,Option.some.injEq,Prod.mk.injEq]at hf;obtain⟨rfl,rfl,rfl⟩:=hf;obtain⟨v,rfl,hv,_⟩:=hc.single;exact⟨[],⟨rfl,Wfc hg hv dN⟩,List.Pairwise.nil,by simp,by simp,by simp,Leaf.none rfl⟩
  grind
 | .str,cs,vs,d,m,l,hc,hl,aH,hf=>by
  simp only[Wac]at hf;split at hf
  .rename_i c;cases dN:WhB .str c with
   |none=>simp_all
   |some x=>
    simp only[dN,Xbv,Option.some.injEq,Prod.mk.injEq]at hf;obtain⟨rfl,rfl,rfl⟩:=hf;obtain⟨v,rfl,hv,_⟩:=hc.single;exact⟨[],⟨rfl,Wfc hg hv dN⟩,List.Pairwise.nil,by simp,by simp,by simp,Leaf.none rfl⟩
  grind
theorem WkG(h:HRel w0 F G ν objs nx w){t:Ty}{cs:List Cell}{vs:List Value}{d:t.den}(hc:CellsRel G ν nx cs vs)(ht:t.data=true)(hf:Wac t cs objs=some (d,[],[])):Enc G t d vs:=by
 obtain⟨φ,h⟩:=h;obtain⟨ns,h1,_⟩:=W2 (G':=G) h (λ_ _ _ hh=>hh) t cs vs d [] [] hc (λid bj=>by simp at bj) Xcy hf
 grind [Way]
end
end Go.Sx
namespace Go.Sx
set_option linter.unusedVariables false
set_option linter.unusedSimpArgs false
section
variable{w0:World}{F:CS}{nt:Slots}{G0 G G':GH}{ν ν':Nat->Nu}{φ:Nat->CS}{objs objs':WZ}{nx af:Nat}{st ac:St}{a:Act}{w w':World}{P:Program}{T:Tab}{Γ:Ctx}
theorem WfC(i:Nat):∀(l:List Nat),WbB i l=true↔i∈l
 | []=>by simp[WbB]
 |j::l=>by
  simp only[WbB,Bool.or_eq_true,WfC i l,Xq];simp_all
open Classical in
noncomputable def Woh(G:GH)(w:World)(S:CS):GH:=λb o=>if S b o then w.cell? ⟨b,o,none⟩else G b o
theorem Wow{S:CS}{b o:Nat}(h:S b o):Woh G w S b o=w.cell? ⟨b,o,none⟩:=by unfold Woh;rw[We h]
theorem Wck{S:CS}{b o:Nat}(h:¬S b o):Woh G w S b o=G b o:=by unfold Woh;rw[Wc h]
theorem Wgz(S:CS):Froz (Woh G w S) w S:=λb o v hs hv=>by grind [Wow]
theorem HR.addG_le(h:HR w0 F G ν φ objs nx w)(l:List Nat):GLe G (Woh G w (FromL φ objs l)):=λb o v hv=>by
 by_cases hs:FromL φ objs l b o
 .obtain⟨i,_,h1,h2⟩:=hs;rw[h.gf i b o h1 h2]at hv;cases hv
 grind [Wck]
theorem HR.addG_w(h:HR w0 F G ν φ objs nx w)(l:List Nat):∀b o v,Woh G w (FromL φ objs l) b o=some v->w.cell? ⟨b,o,none⟩=some v:=λb o v hv=>by
 by_cases hs:FromL φ objs l b o
 .grind [Wow]
 .rw[Wck hs]at hv;exact h.g b o v hv
theorem HRel.freezeL(h:HRel w0 F G ν objs nx w)(gx:GExt w0.heap.size F G0 G)(l:List Nat):∃G1,GLe G G1/\HRel w0 F G1 ν (Sx.kill objs l) nx w/\GExt w0.heap.size F G0 G1/\
  ∀id∈l,∀(e:Ty) (xs:List e.den),Wj objs id=some (.arr e xs)->WhC G1 (Enc G1 e.ro) (WbQ e xs) (ν id).hdr:=by
 obtain⟨φ,h⟩:=h;have fb:=h.addG_le l;refine⟨Woh G w (FromL φ objs l),fb,⟨φ,?_⟩,⟨λb o v hv=>fb b o v (gx.le b o v hv),λb o v hv=>?_⟩,λid bj e xs ho=>?_⟩
 .exact{
   g:=h.addG_w l
   ob:=λj ob hj=>by
    by_cases hd:ob= .dead
    .subst hd;trivial
    .obtain⟨hj,hn⟩:=Wdm l j ob hj hd;exact WcF fb (Same.refl _ w) (λ_ _ hh=>hh) (λ_ _=>rfl) (Xm _) (h.lt j ⟨ob,hj,hd⟩) ob (h.ob j ob hj)
   gf:=λj b o hj hp=>by
    obtain⟨hj,hn⟩:=Wcx hj;rw[Wck (λ⟨i,hi,h1,h2⟩=>hn (by rw[h.inj j i b o hj h1 hp h2];exact hi))];exact h.gf j b o hj hp
   inj:=λj j' b o hj d4=>h.inj j j' b o (Wcx hj).1 (Wcx d4).1
   own:=λj b o hj=>h.own j b o (Wcx hj).1
   lt:=λj hj=>h.lt j (Wcx hj).1
   bl:=λj b o hj=>h.bl j b o (Wcx hj).1
   le:=h.le}
 .by_cases hs:FromL φ objs l b o
  .obtain⟨i,_,h1,h2⟩:=hs;exact .inr (h.own i b o h1 h2)
  .rw[Wck hs]at hv;exact gx.new b o v hv
 .exact Wg6 fb ((Wgz _).mono (FromL.one bj ⟨_,ho,by simp⟩)) (h.ob _ _ ho)
structure Frz(w0:World)(F:CS)(nt:Slots)(G0 G:GH)(ν:Nat->Nu)(st:St)(l:List Nat)(a:Act)(w:World)(G1:GH):Prop where
 le:GLe G G1
 rel:Rel w0 F nt G0 G1 ν {env:=st.env,objs:=kill st.objs l,nx:=st.nx} a w
 sl:∀id∈l,∀(e:Ty) (xs:List e.den),Wj st.objs id=some (.arr e xs)->WhC G1 (Enc G1 e.ro) (WbQ e xs) (ν id).hdr
theorem Rel.frz(h:Rel w0 F nt G0 G ν st a w)(l:List Nat):∃G1,Frz w0 F nt G0 G ν st l a w G1:=by
 obtain⟨G1,h1,h2,h3,h4⟩:=h.h.freezeL h.gx l;exact⟨G1,h1,h.on h1 (λ_ _=>rfl) (Xm _) h2 h3,h4⟩
theorem Frz.cell{l:List Nat}{G1:GH}(h:Frz w0 F nt G0 G ν st l a w G1):∀(c:Cell) (v:Value),CellRel G ν st.nx c v->CellRel G1 ν st.nx (WjJ st.objs l c) v:=by
 have mono:=λc v (hc:CellRel G ν st.nx c v)=>CellRel.mono (G':=G1) (ν':=ν) (af:=st.nx) h.le (λ_ _=>rfl) (Xm _) c v hc;intro c v hc;cases c with
 |own id=>
  simp only[WjJ];cases he:WbB id l with
  |false=>simp_all
  |true=>
   simp only[Wa];have hm:=(WfC id l).1 he;split
   .rename_i e xs ho;obtain⟨_,hv⟩:=hc;rw[hv];exact⟨_,rfl,h.sl id hm e xs ho⟩
   .trivial
 |vw id lo hi=>exact mono _ v hc
 |val t d=>exact mono _ v hc
 |nils=>exact mono _ v hc
 |aptr id=>exact mono _ v hc
 |ptr id off=>exact mono _ v hc
 |eptr id i off=>exact mono _ v hc
 |rptr t d off=>exact mono _ v hc
 |clos f caps=>exact mono _ v hc
 |junk=>trivial
theorem Frz.val{l:List Nat}{G1:GH}(h:Frz w0 F nt G0 G ν st l a w G1):∀(x:AVal) (v:Value),AValRel G ν st.nx x v->AValRel G1 ν st.nx (WfT st.objs l x) v
 | .s (.one c),v,hx=>⟨h.cell c v hx.1,hx.2⟩
 | .s (.agg cs),v,⟨vs,he,h1,h2⟩=>by
  refine⟨vs,he,by simp[h1],λj c u hc hu=>?_⟩;rw[Xai]at hc;obtain⟨d,hd,rfl⟩:=Xs.1 hc;exact⟨h.cell d u (h2 j d u hd hu).1,(h2 j d u hd hu).2⟩
 | .tup xs,v,hx=>AValRel.mono h.le (λ_ _=>rfl) (Xm _) (.tup xs) v hx
end
end Go.Sx
