/- The abstract machine, part 1: a reflective interpreter of the program's code over data, with its soundness over the model. -/
import Derived.WalkKit
import Derived.LoopN
import Derived.KernelRfl
import Derived.ProofKit
import Derived.OpenShut
import Derived.JoinedCond
open Nat renaming beq→bq,blt→Ht,succ_mul→eY,add_comm→pT,add_assoc→dB,lt_of_lt_of_le→lh,mul_le_mul_right→fO,min_eq_left→lB,add_zero→c5,eq_of_beq_eq_true→vG,add_mul→j8,le_refl→Xm,zero_le→j6,le_trans→fP,le_succ→nZ,lt_succ_self→j3
open List renaming length→Xb,getD→Xc,append→Xf,replicate→Xk,length_append→Xz,length_cons→Xs,drop_drop→AE,take_length_add_append→Yv,drop_left→YJ,getElem?_append→eW,getElem?_take→lm,getElem?_drop→li,mem_append_left→Xo,mem_append_right→Xi,set_eq_take_append_cons_drop→Yi,getElem?_eq_some_iff→dp,mem_cons_of_mem→Xg,mem_map_of_mem→eB,mem_cons_self→Xl,mem_singleton→cw,length_take→dA,length_drop→D9,pairwise_cons→Xu,getElem?_eq_getElem→Xq,mapM_cons→Ed,map_cons→bz,getElem?_map→dF,eq_nil_of_length_eq_zero→dV,length_map→Xt,map_nil→eX,map_toArray→AF,mem_map→Xv,mem_cons→Xr,pairwise_append→d0,mem_append→Xp,map_append→Xx,pairwise_singleton→rP,nodup_cons→cr,nodup_nil→p0
open Bool renaming and_eq_true→Xh
open Option renaming map_some→lr,map_eq_some_iff→Xw
open Array renaming getElem?_setIfInBounds_ne→Yk,length_toList→fi
namespace Go.Sx
abbrev We:=@if_neg
abbrev Wf:=@if_pos
abbrev Wc:=@decide_eq_true
abbrev Wi:=@decide_eq_false
abbrev Wg:=@decide_eq_true_eq
abbrev Wm:=@decide_eq_false_iff_not
abbrev Waf:=@of_decide_eq_true
abbrev Wz:=@absurd
abbrev Wq:=@congrArg
abbrev WN:=@if_true
abbrev W4:=@if_false
theorem Wa{A:Type}(a b:A):cond true a b=a:=rfl
theorem Wb{A:Type}(a b:A):cond false a b=b:=rfl
inductive Ty where
 |int (k:IntKind)|bool|str|slice (e:Ty)|own (e:Ty)|prod (a b:Ty)
 deriving DecidableEq
def Ty.den:Ty->Type
 | .int _=>Int
 | .bool=>Bool
 | .str=>List UInt8
 | .slice e=>List e.den
 | .own e=>List e.den
 | .prod a b=>a.den×b.den
def Ty.size:Ty->Nat
 | .prod a b=>a.size+b.size
 |_=>1
def Ty.dflt:(t:Ty)->t.den
 | .int _=>(0:Int)
 | .bool=>false
 | .str=>([]:List UInt8)
 | .slice e=>([]:List e.den)
 | .own e=>([]:List e.den)
 | .prod a b=>(a.dflt,b.dflt)
def Ty.noRo:Ty->Bool
 | .slice _=>false
 | .own e=>e.noRo
 | .prod a b=>a.noRo&&b.noRo
 |_=>true
def Ty.ro:Ty->Ty
 | .own e=>.slice e.ro
 | .slice e=>.slice e
 | .prod a b=>.prod a.ro b.ro
 | .int k=>.int k
 | .bool=>.bool
 | .str=>.str
theorem kI:∀t:Ty,t.ro.den=t.den
 | .own e=>Wq List (kI e)
 | .slice _=>rfl
 | .prod a b=>by show(a.ro.den×b.ro.den)=(a.den×b.den);rw[kI a,kI b]
 | .int _| .bool| .str=>rfl
def rF(t:Ty)(d:t.den):t.ro.den:=cast (kI t).symm d
def du(t:Ty)(l:List t.den):List t.ro.den:=cast (Wq List (kI t).symm) l
def DE(t a:Ty)(d:t.den):Option a.den:=
 if h:t=a then some (h▸d)else none
def iZ(e e':Ty)(l:List e.den):Option (List e'.den):=
 if h:e=e' then some (h▸l)else none
inductive Cell where
 |val (t:Ty) (d:t.den)
 |nils
 |own (id:Nat)
 |vw (id lo hi:Nat)
 |aptr (id:Nat)
 |ptr (id off:Nat)
 |eptr (id i off:Nat)
 |rptr (t:Ty) (d:t.den) (off:Nat)
 |clos (f:FuncId) (caps:List Nat)
 |junk
inductive AV where
 |one (c:Cell)
 |agg (cs:List Cell)
inductive AVal where
 |s (x:AV)
 |tup (xs:List AV)
inductive Ob where
 |box (cs:List Cell)
 |arr (e:Ty) (xs:List e.den)
 |hole (e:Ty) (xs:List e.den) (i p:Nat)
 |dead
abbrev aa:=List (Nat×Ob)
structure St where
 env:List (Nat×AVal)
 objs:aa
 nx:Nat
universe u
def Wt{α:Type u}:List (Nat×α)->Nat->Option α
 | [],_=>none
 |(k,v)::l,i=>match bq k i with|true=>some v|false=>Wt l i
abbrev GH:=Nat->Nat->Option Value
abbrev CS:=Nat->Nat->Prop
def CS.disj(A B:CS):Prop:=∀b o,A b o->B b o->False
def CS.le(A B:CS):Prop:=∀b o,A b o->B b o
def rng(b lo n:Nat):CS:=λa o=>a=b/\lo<=o/\o<lo+n
def Sep(l:List CS):Prop:=l.Pairwise CS.disj
structure Nu where
 blk:Option Nat
 off:Nat
 len:Nat
 cap:Nat
 esz:Nat
def Nu.hdr(n:Nu):Value:=match n.blk with
 |none=>.slice none 0 0
 |some b=>.slice (some ⟨b,n.off,none⟩) n.len n.cap
def Nu.vhdr(n:Nu)(lo hi:Nat):Value:=match n.blk with
 |none=>.slice none 0 0
 |some b=>.slice (some ⟨b,if n.cap=lo then n.off else n.off+lo*n.esz,none⟩) (hi-lo) (n.cap-lo)
structure Pc where
 nu:Nu
 fp:CS
def m9(G:GH)(b off:Nat)(cs:List Value):Prop:=∀(j:Nat) (v:Value),cs[j]?=some v->G b (off+j)=some v
def bG{α:Type}(R:α->List Value->Prop):List α->List Value->Prop
 | [],cs=>cs= []
 |x::l,cs=>∃a b,cs=a++b/\R x a/\bG R l b
def nD{α:Type}(G:GH)(R:α->List Value->Prop)(l:List α)(v:Value):Prop:=
 (v= .slice none 0 0/\l= [])\/
 (∃b d c e,v= .slice (some ⟨b,d,none⟩) l.length c/\l.length<=c/\c<=maxLen/\bG R l e/\m9 G b d e)\/
 ∃a c,v= .slice (some a) 0 c/\l= []
def Enc(G:GH):(t:Ty)->t.den->List Value->Prop
 | .int k,n,cs=>cs= [.int k n]
 | .bool,b,cs=>cs= [.bool b]
 | .str,s,cs=>cs= [.string ⟨List.toArray s⟩]
 | .slice e,l,cs=>∃v,cs= [v]/\nD G (Enc G e) l v
 | .own _,_,_=>False
 | .prod a b,d,cs=>∃c f,cs=c++f/\Enc G a d.1 c/\Enc G b d.2 f
def CellRel(G:GH)(ν:Nat->Nu)(nx:Nat):Cell->Value->Prop
 | .val t d,v=>Enc G t d [v]
 | .nils,v=>v= .slice none 0 0
 | .own a,v=>a<nx/\v=(ν a).hdr
 | .vw a lo hi,v=>a<nx/\lo<=hi/\hi<=(ν a).len/\((ν a).blk=none->hi=0)/\v=(ν a).vhdr lo hi
 | .aptr a,v=>a<nx/\∃b,(ν a).blk=some b/\v= .pointer (some ⟨b,(ν a).off,none⟩)
 | .ptr a off,v=>a<nx/\∃b,(ν a).blk=some b/\v= .pointer (some ⟨b,(ν a).off+off,none⟩)
 | .eptr a i off,v=>a<nx/\i<(ν a).len/\∃b,(ν a).blk=some b/\v= .pointer (some ⟨b,(ν a).off+(i*(ν a).esz+off),none⟩)
 | .rptr t d off,v=>∃b o e,v= .pointer (some ⟨b,o+off,none⟩)/\Enc G t d e/\m9 G b o e
 | .clos f caps,v=>∃c:List Value,v= .func (.func f) #[] c.toArray/\c.length=caps.length/\
   ∀(j a:Nat) (u:Value),caps[j]?=some a->c[j]?=some u->a<nx/\u.oneCell'=true/\∃b,(ν a).blk=some b/\u= .pointer (some ⟨b,(ν a).off+0,none⟩)
 | .junk,_=>True
def CellsRel(G:GH)(ν:Nat->Nu)(nx:Nat)(cs:List Cell)(vs:List Value):Prop:=
 vs.length=cs.length/\∀(j:Nat) (c:Cell) (v:Value),cs[j]?=some c->vs[j]?=some v->CellRel G ν nx c v/\v.oneCell'=true
def AvRel(G:GH)(ν:Nat->Nu)(nx:Nat):AV->Value->Prop
 | .one c,v=>CellRel G ν nx c v/\v.oneCell'=true
 | .agg cs,v=>∃a:List Value,v= .agg a.toArray/\CellsRel G ν nx cs a
def M8(G:GH)(ν:Nat->Nu)(nx:Nat)(xs:List AV)(vs:List Value):Prop:=
 vs.length=xs.length/\∀(j:Nat) (x:AV) (v:Value),xs[j]?=some x->vs[j]?=some v->AvRel G ν nx x v
def AValRel(G:GH)(ν:Nat->Nu)(nx:Nat):AVal->Value->Prop
 | .s x,v=>AvRel G ν nx x v
 | .tup xs,v=>∃a:List Value,v= .tuple a.toArray/\M8 G ν nx xs a
def Row(w:World)(b n:Nat):Prop:=∃a T,w.heap[b]?=some (.cells a T (0,0))/\n<=a.size
def Mem(w:World)(b o:Nat)(vs:List Value):Prop:=∀(j:Nat) (v:Value),vs[j]?=some v->w.cell? ⟨b,o+j,none⟩=some v
def cq{α:Type}(R:α->List Value->List Pc->Prop):List α->List Value->List Pc->Prop
 | [],a,ps=>a= []/\ps= []
 |x::l,a,ps=>∃b c d e,a=b++c/\ps=d++e/\R x b d/\cq R l c e
def ah{α:Type}(w:World)(R:α->List Value->List Pc->Prop)(n:Nat)(nu:Nu)(xs:List α)(S:CS):Prop:=
 xs.length=nu.len/\nu.esz=n/\match nu.blk with
  |none=>xs= []
  |some b=>xs.length<=nu.cap/\nu.cap<=maxLen/\Row w b (nu.off+nu.cap*n)/\∃c a,cq R xs c a/\Mem w b nu.off c/\
    Sep (rng b nu.off (nu.cap*n)::a.map Pc.fp)/\∀s∈rng b nu.off (nu.cap*n)::a.map Pc.fp,CS.le s S
def WC(G:GH)(w:World):(t:Ty)->t.den->List Value->List Pc->Prop
 | .own e,h,c,ns=>∃p:Pc,ns= [p]/\c= [p.nu.hdr]/\ah w (WC G w e) e.size p.nu h p.fp
 | .prod a b,d,c,ns=>∃v1 v2 f g,c=v1++v2/\ns=f++g/\WC G w a d.1 v1 f/\WC G w b d.2 v2 g
 | .int k,d,c,ns=>ns= []/\Enc G (.int k) d c
 | .bool,d,c,ns=>ns= []/\Enc G .bool d c
 | .str,d,c,ns=>ns= []/\Enc G .str d c
 | .slice e,d,c,ns=>ns= []/\Enc G (.slice e) d c
def kQ{α:Type}(w:World)(R:α->List Value->List Pc->Prop)(n:Nat)(nu f:Nu)(xs:List α)(i:Nat)(S:CS):Prop:=
 xs.length=nu.len/\nu.esz=n/\i<xs.length/\∃b,nu.blk=some b/\f.blk=some b/\f.off=nu.off+i*n/\xs.length<=nu.cap/\nu.cap<=maxLen/\Row w b (nu.off+nu.cap*n)/\
  ∃d e a c,cq R (xs.take i) d a/\cq R (xs.drop (i+1)) e c/\Mem w b nu.off d/\Mem w b (nu.off+(i+1)*n) e/\
   Sep (rng b nu.off (i*n)::rng b (nu.off+(i+1)*n) ((nu.cap-(i+1))*n)::(a++c).map Pc.fp)/\
   ∀s∈rng b nu.off (i*n)::rng b (nu.off+(i+1)*n) ((nu.cap-(i+1))*n)::(a++c).map Pc.fp,CS.le s S
def dt(G:GH)(ν:Nat->Nu)(nx:Nat)(w:World)(a:Nat)(S:CS):Ob->Prop
 | .box cs=>∃b c,(ν a).blk=some b/\Row w b ((ν a).off+cs.length)/\Mem w b (ν a).off c/\CellsRel G ν nx cs c/\CS.le (rng b (ν a).off cs.length) S
 | .arr e xs=>ah w (WC G w e) e.size (ν a) xs S
 | .hole e xs i p=>p<nx/\kQ w (WC G w e) e.size (ν a) (ν p) xs i S
 | .dead=>True
def Live(objs:aa)(b:Nat):Prop:=∃a,Wt objs b=some a/\a≠ .dead
structure WLe(F:CS)(w w':World):Prop where
 size:w.heap.size<=w'.heap.size
 row:∀(b:Nat) (vs:Array Value) (T:TypeId),w.heap[b]?=some (Obj.cells vs T (0,0))->∃ay:Array Value,w'.heap[b]?=some (Obj.cells ay T (0,0))/\ay.size=vs.size
 cell:∀(b o:Nat),b<w.heap.size->¬F b o->w'.cell? ⟨b,o,none⟩=w.cell? ⟨b,o,none⟩
 whole:∀(b:Nat),b<w.heap.size->(∀o,¬F b o)->w'.heap[b]?=w.heap[b]?
 os:w'.os=w.os
 output:w'.output=w.output
 tape:w'.tape=w.tape
structure HR(w0:World)(F:CS)(G:GH)(ν:Nat->Nu)(φ:Nat->CS)(objs:aa)(nx:Nat)(w:World):Prop where
 g:∀b o v,G b o=some v->w.cell? ⟨b,o,none⟩=some v
 ob:∀id ob,Wt objs id=some ob->dt G ν nx w id (φ id) ob
 gf:∀id b o,Live objs id->φ id b o->G b o=none
 inj:∀id cA b o,Live objs id->Live objs cA->φ id b o->φ cA b o->id=cA
 own:∀id b o,Live objs id->φ id b o->w0.heap.size<=b\/F b o
 lt:∀id,Live objs id->id<nx
 bl:∀id b o,Live objs id->φ id b o->b<w.heap.size
 le:WLe F w0 w
def HRel(w0:World)(F:CS)(G:GH)(ν:Nat->Nu)(objs:aa)(nx:Nat)(w:World):Prop:=∃φ,HR w0 F G ν φ objs nx w
structure GExt(B:Nat)(F:CS)(G G':GH):Prop where
 le:∀b o v,G b o=some v->G' b o=some v
 new:∀b o v,G' b o=some v->G b o=some v\/B<=b\/F b o
structure Slots where
 n:Nat
 kept:List (Nat×Value)
 ex:AVal->Value->Prop
def Slots.Ok(s:Slots)(d:Nat):Prop:=d<s.n/\∀p∈s.kept,p.1≠d
structure Rel(w0:World)(F:CS)(nt:Slots)(G0 G:GH)(ν:Nat->Nu)(st:St)(a:Act)(w:World):Prop where
 defers:a.defers= []
 ntm:a.tmps.size=nt.n
 par:∀p∈nt.kept,a.tmps[p.1]?=some p.2
 env:∀i x,Wt st.env i=some x->∃v,a.tmps[i]?=some v/\AValRel G ν st.nx x v
 h:HRel w0 F G ν st.objs st.nx w
 gx:GExt w0.heap.size F G0 G
 ex:∀x v,nt.ex x v->AValRel G ν st.nx x v
set_option linter.unusedVariables false
inductive Shape where
 |basic|slice (e:TypeId)|struct (fs:List (Nat×TypeId))|ptr (e:TypeId)|arr (n:Nat) (e:TypeId)
structure TE where
 ty:Ty
 agg:Bool
 shape:Shape
abbrev Tab:=List (TypeId×TE)
def TE.plain(a:TE):Bool:=match a.shape with
 | .arr _ _=>false
 |_=>true
def Wj(k:IntKind)(a b:Int):Int:=k.wrap (a+b)
def Wv(k:IntKind)(a b:Int):Int:=k.wrap (a-b)
def ea(k:IntKind)(a b:Int):Int:=k.wrap (a*b)
def d9(k:IntKind)(a b:Int):Int:=k.wrap (a.tdiv b)
def aP(a b:Int):Int:=a.tmod b
def WyP(k:IntKind)(a b:Int):Int:=k.wrap (BitVec.ofInt k.bits a&&&BitVec.ofInt k.bits b).toNat
def ior(k:IntKind)(a b:Int):Int:=k.wrap (BitVec.ofInt k.bits a|||BitVec.ofInt k.bits b).toNat
def WyR(k:IntKind)(a b:Int):Int:=k.wrap (BitVec.ofInt k.bits a^^^BitVec.ofInt k.bits b).toNat
def Wys(k:IntKind)(a b:Int):Int:=k.wrap (BitVec.ofInt k.bits a&&& ~~~BitVec.ofInt k.bits b).toNat
def NE(k:IntKind)(a b:Int):Int:=k.wrap (a*2^(min b.toNat k.bits))
def Nv(k:IntKind)(a b:Int):Int:=a.fdiv (2^(min b.toNat k.bits))
def ad(a b:List UInt8):Bool:=!decide (((a.length+b.length:Nat):Int)>IntKind.i64.max)
def Wh{α:Type}(l:List α):Int:=(l.length:Int)
def inb(i:Int)(n:Nat):Bool:=decide (0<=i)&&decide (i<(n:Int))
def Wx(n:Nat):Bool:=decide (n<=1073741824)
def cE(l:List Int):List UInt8:=l.map λn=>UInt8.ofNat n.toNat
def ieq(a b:Int):Bool:=a==b
def beq(a b:Bool):Bool:=a==b
def seq(a b:List UInt8):Bool:=a==b
def inz(b:Int):Bool:=!decide (b=0)
def inn(b:Int):Bool:=!decide (b<0)
def one(t:Ty)(d:t.den):AVal:=.s (.one (.val t d))
def Nw(c:BinOp)(k:IntKind)(a b:Int):Option (Bool×AVal):=
 match c with
 | .add=>some (true,one (.int k) (Wj k a b))
 | .sub=>some (true,one (.int k) (Wv k a b))
 | .mul=>some (true,one (.int k) (ea k a b))
 | .quo=>some (inz b,one (.int k) (d9 k a b))
 | .rem=>some (inz b,one (.int k) (aP a b))
 | .and=>some (true,one (.int k) (WyP k a b))
 | .or=>some (true,one (.int k) (ior k a b))
 | .xor=>some (true,one (.int k) (WyR k a b))
 | .andNot=>some (true,one (.int k) (Wys k a b))
 | .eql=>some (true,one .bool (a==b))
 | .neq=>some (true,one .bool (a !=b))
 | .lss=>some (true,one .bool (decide (a<b)))
 | .leq=>some (true,one .bool (decide (a<=b)))
 | .gtr=>some (true,one .bool (decide (a>b)))
 | .geq=>some (true,one .bool (decide (a>=b)))
 |_=>none
def Ny(c:BinOp)(a b:List UInt8):Option (Bool×AVal):=
 match c with
 | .add=>some (ad a b,one .str (a++b))
 | .eql=>some (true,one .bool (seq a b))
 | .neq=>some (true,one .bool (!seq a b))
 |_=>none
def Gj(e:TE)(c d:Cell):Option Bool:=
 match e,c,d with
 |⟨.int _,false,.basic⟩,.val (.int k) a,.val (.int k') b=>if k=k' then some (ieq a b)else none
 |⟨.bool,false,.basic⟩,.val .bool a,.val .bool b=>some (beq a b)
 |⟨.str,false,.basic⟩,.val .str a,.val .str b=>some (seq a b)
 |_,_,_=>none
def l9(T:Tab):List TypeId->List Cell->List Cell->Option Bool
 | [],[],[]=>some true
 |t::ts,c::cs,d::ds=>match Wt T t with
  |some te=>match Gj te c d,l9 T ts cs ds with
   |some x,some y=>some (x&&y)
   |_,_=>none
  |none=>none
 |_,_,_=>none
def binOp(T:Tab)(c:BinOp)(t:TypeId)(x y:AVal):Option (Bool×AVal):=
 match x,y with
 | .s (.one (.val (.int k) a)),.s (.one (.val (.int k') b))=>
  match c with
  | .shl=>some (inn b,one (.int k) (NE k a b))
  | .shr=>some (inn b,one (.int k) (Nv k a b))
  |_=>if k=k' then Nw c k a b else none
 | .s (.one (.val .str a)),.s (.one (.val .str b))=>Ny c a b
 | .s (.one (.val .bool a)),.s (.one (.val .bool b))=>
  match Wt T t with
  |some ⟨.bool,false,.basic⟩=>
   match c with
   | .eql=>some (true,one .bool (beq a b))
   | .neq=>some (true,one .bool (!beq a b))
   |_=>none
  |_=>none
 | .s (.agg cs),.s (.agg ds)=>
  match Wt T t with
  |some ⟨_,true,.struct fs⟩=>
   if decide (fs.map (·.1)=List.range fs.length)then
    match c,l9 T (fs.map (·.2)) cs ds with
    | .eql,some b=>some (true,one .bool b)
    | .neq,some b=>some (true,one .bool (!b))
    |_,_=>none
   else none
  |_=>none
 |_,_=>none
def unOp(a:UnOp)(x:AVal):Option (Bool×AVal):=
 match a,x with
 | .not,.s (.one (.val .bool b))=>some (true,one .bool (!b))
 | .neg,.s (.one (.val (.int k) n))=>some (true,one (.int k) (Wv k 0 n))
 |_,_=>none
def split:(t:Ty)->t.den->List Cell
 | .prod a b,d=>split a d.1++split b d.2
 | .int k,d=>[.val (.int k) d]
 | .bool,d=>[.val .bool d]
 | .str,d=>[.val .str d]
 | .slice e,d=>[.val (.slice e) d]
 | .own e,d=>[.junk]
def fX:Value->Option Cell
 | .int k n=>some (.val (.int k) n)
 | .bool b=>some (.val .bool b)
 | .string s=>some (.val .str s.data.toList)
 | .slice none 0 0=>some .nils
 | .pointer none=>some .junk
 | .nilFunc=>some .junk
 |_=>none
def Vi:Value->Option AVal
 | .agg cs=>(cs.toList.mapM fX).map λl=>.s (.agg l)
 |v=>(fX v).map λc=>.s (.one c)
def ev(st:St):Operand->Option AVal
 | .tmp t=>Wt st.env t
 | .const v=>Vi v
 | .func f=>some (.s (.one (.clos f [])))
 | .global _=>none
def St.put(st:St)(dst:Option Tmp)(x:AVal):St:=
 match dst with
 |some d=>{st with env:=(d,x)::st.env}
 |none=>st
def sub(a:Bool)(cs:List Cell)(off n:Nat):Option AVal:=
 if a then(if off+n<=cs.length then some (.s (.agg ((cs.drop off).take n)))else none)
 else(cs[off]?).map λc=>.s (.one c)
def qW(T:Tab)(st:St)(t:TypeId)(x:AVal):Option AVal:=
 match Wt T t with
 |some te=>
  if te.plain then
   match x with
   | .s (.one (.ptr id off))=>match Wt st.objs id with
    |some (.box cs)=>sub te.agg cs off te.ty.size
    |_=>none
   | .s (.one (.eptr id i off))=>match Wt st.objs id with
    |some (.arr e xs)=>sub te.agg (split e (xs.getD i e.dflt)) off te.ty.size
    |_=>none
   | .s (.one (.rptr t' d off))=>sub te.agg (split t' d) off te.ty.size
   |_=>none
  else none
 |none=>none
def ry(k:IntKind)(xs:List Int):Nat->Nat->List Cell
 |_,0=>[]
 |i,n+1=>.val (.int k) (xs.getD i (0:Int))::ry k xs (i+1) n
def uf(T:Tab)(st:St)(t:TypeId)(x:AVal):Option (Bool×AVal):=
 match Wt T t with
 |some ⟨.int k,true,.arr n _⟩=>match x with
  | .s (.one (.aptr id))=>match Wt st.objs id with
   |some (.arr (.int k') xs)=>if k'=k then some (decide (Xb xs=n),.s (.agg (ry k xs 0 n)))else none
   |_=>none
  |_=>none
 |_=>none
def ep(k:IntKind):List Cell->Option (List Int)
 | []=>some []
 | .val (.int k') d::cs=>if k'=k then(ep k cs).map λl=>(d:Int)::l else none
 |_=>none
def asI:AVal->Option Int
 | .s (.one (.val (.int _) n))=>some n
 |_=>none
def asB:AVal->Option Bool
 | .s (.one (.val .bool b))=>some b
 |_=>none
def obL(o:Option Ob):Option (Bool×AVal):=match o with
 |some (.arr _ xs)=>some (true,one (.int .i64) (Wh xs))
 |some (.hole _ xs _ _)=>some (true,one (.int .i64) (Wh xs))
 |_=>none
def nC(T:Tab)(st:St)(t:TypeId)(x:AVal):Option (Bool×AVal):=
 match Wt T t,x with
 |some ⟨_,false,.slice _⟩,.s (.one (.val (.slice _) l))=>some (true,one (.int .i64) (Wh l))
 |some ⟨_,false,.slice _⟩,.s (.one .nils)=>some (true,one (.int .i64) (0:Int))
 |some ⟨_,false,.slice _⟩,.s (.one (.own id))=>obL (Wt st.objs id)
 |some ⟨_,false,.slice _⟩,.s (.one (.vw _ lo hi))=>some (true,one (.int .i64) ((hi-lo:Nat):Int))
 |some ⟨.str,false,.basic⟩,.s (.one (.val .str s))=>some (true,one (.int .i64) (Wh (α:=UInt8) s))
 |_,_=>none
def Do(T:Tab)(t:TypeId)(f:Nat):Option (Nat×TE):=
 match Wt T t with
 |some ⟨_,_,.struct fs⟩=>match fs[f]? with
  |some (off,ft)=>match Wt T ft with
   |some te=>if te.plain then some (off,te)else none
   |none=>none
  |none=>none
 |_=>none
def yx(T:Tab)(st:St)(t:TypeId)(x:AVal)(f:Nat):Option (Bool×AVal):=
 match Do T t f,x with
 |some (off,_),.s (.one (.ptr id o))=>match Wt st.objs id with
  |some (.box _)=>some (true,.s (.one (.ptr id (o+off))))
  |_=>none
 |some (off,_),.s (.one (.eptr id i o))=>match Wt st.objs id with
  |some (.arr _ _)=>some (true,.s (.one (.eptr id i (o+off))))
  |_=>none
 |some (off,_),.s (.one (.rptr t' d o))=>some (true,.s (.one (.rptr t' d (o+off))))
 |_,_=>none
def MD(T:Tab)(t:TypeId)(x:AVal)(f:Nat):Option (Bool×AVal):=
 match Do T t f,x with
 |some (off,te),.s (.agg cs)=>(sub te.agg cs off te.ty.size).map λv=>(true,v)
 |_,_=>none
def obI(a:TE)(n:Int)(b:Nat)(o:Option Ob):Option (Bool×AVal):=match o with
 |some (.arr e xs)=>if a.ty=e.ro then some (inb n xs.length,.s (.one (.eptr b n.toNat 0)))else none
 |some (.hole e xs i p)=>if a.ty=e.ro then some (inb n xs.length&&bq n.toNat i,.s (.one (.ptr p 0)))else none
 |_=>none
def DV(b:TE)(n:Int)(a lo hi:Nat)(o:Option Ob):Option (Bool×AVal):=match o with
 |some (.arr e xs)=>if b.ty=e.ro then some (inb n (hi-lo),.s (.one (.eptr a (lo+n.toNat) 0)))else none
 |_=>none
def DZ(b:TE)(n:Int)(k a:Nat)(o:Option Ob):Option (Bool×AVal):=match o with
 |some (.arr e xs)=>if b.ty=e then some (inb n k&&decide (xs.length=k),.s (.one (.eptr a n.toNat 0)))else none
 |_=>none
def yD(T:Tab)(st:St)(t:TypeId)(x i:AVal):Option (Bool×AVal):=
 match Wt T t,asI i with
 |some ⟨_,_,.slice et⟩,some n=>match Wt T et with
  |some te=>
   if te.plain then match x with
    | .s (.one (.val (.slice e) l))=>if te.ty=e then some (inb n (Xb l),.s (.one (.rptr e (Xc l n.toNat e.dflt) 0)))else none
    | .s (.one .nils)=>some (false,.s (.one .junk))
    | .s (.one (.own id))=>obI te n id (Wt st.objs id)
    | .s (.one (.vw id lo hi))=>DV te n id lo hi (Wt st.objs id)
    |_=>none
   else none
  |none=>none
 |some ⟨_,_,.arr k et⟩,some n=>match Wt T et with
  |some te=>
   if te.plain then match x with
    | .s (.one (.aptr id))=>DZ te n k id (Wt st.objs id)
    |_=>none
   else none
  |none=>none
 |_,_=>none
def ME(T:Tab)(t:TypeId)(x i:AVal):Option (Bool×AVal):=
 match Wt T t,x,asI i with
 |some ⟨.str,_,.basic⟩,.s (.one (.val .str s)),some n=>some (inb n (Xb s),one (.int .u8) ((Xc s n.toNat 0).toNat:Int))
 |some ⟨.int k,_,.arr m et⟩,.s (.agg cs),some n=>match Wt T et with
  |some ⟨.int k',false,.basic⟩=>match ep k cs with
   |some l=>if k'=k/\cs.length=m then some (inb n m,one (.int k) (Xc l n.toNat (0:Int)))else none
   |none=>none
  |_=>none
 |_,_,_=>none
def aI(n:Nat)(lo hi:Option Int):Bool×Nat×Nat:=
 match lo,hi with
 |none,none=>(true,0,n)
 |some l,none=>(decide (0<=l)&&decide (l<=(n:Int)),l.toNat,n)
 |none,some h=>(decide (0<=h)&&decide (h<=(n:Int)),0,h.toNat)
 |some l,some h=>(decide (0<=h)&&decide (h<=(n:Int))&&decide (0<=l)&&decide (l<=h),l.toNat,h.toNat)
def rx{α:Type}(l:List α)(lo hi:Option Int):List α:=
 match lo,hi with
 |none,none=>l
 |some a,none=>l.drop a.toNat
 |none,some b=>l.take b.toNat
 |some a,some b=>(l.take b.toNat).drop a.toNat
def fe(st:St):Option Operand->Option (Option Int)
 |none=>some none
 |some x=>((ev st x).bind asI).map some
def Gk(T:Tab)(st:St)(t:TypeId)(x:AVal)(lo hi:Option Operand):Option (Bool×AVal):=
 match Wt T t,x,fe st lo,fe st hi with
 |some ⟨.str,_,.basic⟩,.s (.one (.val .str s)),some l,some h=>some ((aI (Xb s) l h).1,one .str (rx s l h))
 |some ⟨_,_,.slice et⟩,.s (.one (.val (.slice e) xs)),some l,some h=>match Wt T et with
  |some te=>if te.ty=e/\te.plain then some ((aI (Xb xs) l h).1,one (.slice e) (rx xs l h))else none
  |none=>none
 |_,_,_,_=>none
def G4(st:St):AVal->Option Ob
 | .s (.one (.own id))=>Wt st.objs id
 |_=>none
def XY(T:Tab)(o:Option Ob)(a dst:TypeId)(x:AVal):Option (Bool×AVal):=
 match Wt T a,Wt T dst,x with
 |some ⟨.int _,false,.basic⟩,some ⟨.int k,false,.basic⟩,.s (.one (.val (.int _) n))=>some (true,one (.int k) (k.wrap n))
 |some ⟨.str,false,.basic⟩,some ⟨.str,false,.basic⟩,.s (.one (.val .str s))=>some (true,one .str s)
 |some ⟨_,_,.slice et⟩,some ⟨.str,false,.basic⟩,.s (.one c)=>
  match Wt T et with
  |some ⟨.int .u8,false,.basic⟩=>match c with
   | .val (.slice (.int .u8)) l=>some (true,one .str (cE l))
   | .nils=>some (true,one .str ([]:List UInt8))
   | .own _=>match o with
    |some (.arr (.int .u8) xs)=>some (true,one .str (cE xs))
    |_=>none
   |_=>none
  |_=>none
 |_,_,_=>none
def zw(T:Tab)(st:St)(a dst:TypeId)(x:AVal):Option (Bool×AVal):=XY T (G4 st x) a dst x
def z8(st:St)(x:AVal):Option (Bool×AVal):=
 match x with
 | .s (.one (.rptr _ _ _))=>some (true,x)
 | .s (.one (.ptr id _))=>match Wt st.objs id with
  |some (.box _)=>some (true,x)
  |_=>none
 | .s (.one (.eptr id _ _))| .s (.one (.aptr id))=>match Wt st.objs id with
  |some (.arr _ _)=>some (true,x)
  |_=>none
 |_=>none
def pk(st:St):List Operand->Option (List Nat)
 | []=>some []
 |o::l=>match ev st o,pk st l with
  |some (.s (.one (.ptr a 0))),some r=>some (a::r)
  |_,_=>none
def X0(a b:Int):Int:=if b<a then b else a
def mz(a b:Int):Int:=if a<b then b else a
def zZ(T:Tab)(st:St)(c:BinOp)(t:TypeId)(a b:AVal):Option (Bool×AVal):=
 match a,b with
 | .s (.one (.own id)),.s (.one .nils)=>match Wt T t with
  |some ⟨_,false,.slice _⟩=>match Wt st.objs id with
   |some (.arr _ xs)=>match c with
    | .eql=>some (Ht 0 xs.length,one .bool false)
    | .neq=>some (Ht 0 xs.length,one .bool true)
    |_=>none
   |_=>none
  |_=>none
 |_,_=>none
def b5(T:Tab)(st:St):Op->Option (Bool×AVal)
 | .move x| .assign x=>(ev st x).map λv=>(true,v)
 | .pick c a b=>match(ev st c).bind asB with
  |some p=>match ev st a,ev st b with
   |some (.s (.one (.val .bool x))),some (.s (.one (.val .bool y)))=>some (true,one .bool (bif p then x else y))
   |e,vb=>(bif p then e else vb).map λv=>(true,v)
  |none=>none
 | .load t a=>(ev st a).bind λv=>match uf T st t v with
  |some r=>some r
  |none=>(qW T st t v).map λr=>(true,r)
 | .nilCheck x=>(ev st x).bind (z8 st)
 | .binOp op t x y _=>match ev st x,ev st y with
  |some a,some b=>match zZ T st op t a b with
   |some r=>some r
   |none=>binOp T op t a b
  |_,_=>none
 | .unOp op _ x=>(ev st x).bind (unOp op)
 | .convert src dst x=>(ev st x).bind (zw T st src dst)
 | .slice t x lo hi none=>(ev st x).bind λv=>Gk T st t v lo hi
 | .fieldAddr s x f=>(ev st x).bind λv=>yx T st s v f
 | .field t x f=>(ev st x).bind λv=>MD T t v f
 | .indexAddr t x i=>match ev st x,ev st i with
  |some a,some b=>yD T st t a b
  |_,_=>none
 | .index t x i=>match ev st x,ev st i with
  |some a,some b=>ME T t a b
  |_,_=>none
 | .extract t ix=>match ev st t with
  |some (.tup xs)=>(xs[ix]?).map λx=>(true,.s x)
  |_=>none
 | .makeFunc (.func f) first captured=>if first.isEmpty then(pk st captured.toList).map λd=>(true,.s (.one (.clos f d)))else none
 | .call c=>match c.callee,c.args.toList,c.argTypes.toList with
  | .builtin .len,[x],[t]=>(ev st x).bind (nC T st t)
  | .builtin .min,[x,y],[_,_]=>match ev st x,ev st y with
   |some (.s (.one (.val (.int k) a))),some (.s (.one (.val (.int k') b)))=>if k=k' then some (true,one (.int k) (X0 a b))else none
   |_,_=>none
  | .builtin .max,[x,y],[_,_]=>match ev st x,ev st y with
   |some (.s (.one (.val (.int k) a))),some (.s (.one (.val (.int k') b)))=>if k=k' then some (true,one (.int k) (mz a b))else none
   |_,_=>none
  |_,_,_=>none
 |_=>none
def mc:Ty->List Cell
 | .prod a b=>mc a++mc b
 | .int k=>[.val (.int k) (0:Int)]
 | .bool=>[.val .bool false]
 | .str=>[.val .str ([]:List UInt8)]
 | .slice _=>[.nils]
 | .own _=>[.junk]
def Ty.data:Ty->Bool
 | .own _=>false
 | .prod a b=>a.data&&b.data
 |_=>true
def unfold:(t:Ty)->t.den->Nat->List Cell×aa×Nat
 | .prod a b,d,nx=>
  let x:=unfold a d.1 nx
  let y:=unfold b d.2 x.2.2
  (x.1++y.1,x.2.1++y.2.1,y.2.2)
 | .own e,d,nx=>([.own nx],[(nx,.arr e d)],nx+1)
 | .int k,d,nx=>([.val (.int k) d],[],nx)
 | .bool,d,nx=>([.val .bool d],[],nx)
 | .str,d,nx=>([.val .str d],[],nx)
 | .slice e,d,nx=>([.val (.slice e) d],[],nx)
def nF(t:Ty)(c:Cell):Option t.den:=
 match c with
 | .val t' d=>DE t' t d
 |_=>none
def GX(e:Ty)(objs:aa)(c:List Cell->Option (e.den×List Nat×List Nat))(a:Nat):Option (List e.den×List Nat):=
 match Wt objs a with
 |some (.arr e' xs)=>(iZ e' e xs).map λb=>(b,[a])
 |some (.hole e' xs i p)=>match iZ e' e xs,Wt objs p with
  |some b,some (.box cs)=>match c cs with
   |some (d,m,[])=>some (b.set i d,a::p::m)
   |_=>none
  |_,_=>none
 |_=>none
def VX(e:Ty)(objs:aa)(c:List Cell->Option (e.den×List Nat×List Nat))(a:Nat):Option (List e.den×List Nat):=
 match Wt objs a with
 |some (.arr e' xs)=>(iZ e'.ro e (du e' xs)).map λb=>(b,[a])
 |some (.hole e' xs i p)=>match iZ e'.ro e (du e' xs),Wt objs p with
  |some b,some (.box cs)=>match c cs with
   |some (d,[],l)=>some (b.set i d,a::p::l)
   |_=>none
  |_,_=>none
 |_=>none
def aC:(t:Ty)->List Cell->aa->Option (t.den×List Nat×List Nat)
 | .prod a b,f,objs=>match aC a (f.take a.size) objs,aC b (f.drop a.size) objs with
  |some (x,m,r),some (y,h,r')=>some ((x,y),m++h,r++r')
  |_,_=>none
 | .own e,f,objs=>match f with
  | [.own id]=>(GX e objs (λf=>aC e f objs) id).map λp=>(p.1,p.2,[])
  | [.vw id lo hi]=>match Wt objs id with
   |some (.arr e' xs)=>(iZ e' e xs).map λg=>((g.take hi).drop lo,[id],[])
   |_=>none
  | [.nils]=>some (([]:List e.den),[],[])
  |_=>none
 | .slice e,f,objs=>match f with
  | [.own id]=>(VX e objs (λf=>aC e f objs) id).map λp=>(p.1,[],p.2)
  | [.vw id lo hi]=>match Wt objs id with
   |some (.arr e' xs)=>(iZ e'.ro e (du e' xs)).map λg=>((g.take hi).drop lo,[],[id])
   |_=>none
  | [.nils]=>some (([]:List e.den),[],[])
  | [c]=>(nF (.slice e) c).map λd=>(d,[],[])
  |_=>none
 | .int k,f,_=>match f with
  | [c]=>(nF (.int k) c).map λd=>(d,[],[])
  |_=>none
 | .bool,f,_=>match f with
  | [c]=>(nF .bool c).map λd=>(d,[],[])
  |_=>none
 | .str,f,_=>match f with
  | [c]=>(nF .str c).map λd=>(d,[],[])
  |_=>none
def dl(i:Nat):List Nat->Bool
 | []=>false
 |j::l=>bq i j||dl i l
def d8:List Nat->Bool
 | []=>true
 |i::l=>!dl i l&&d8 l
def eqN:List Nat->List Nat->Bool
 | [],[]=>true
 |i::l,j::m=>bq i j&&eqN l m
 |_,_=>false
def gZ(l m:List Nat):Bool:=l.all λi=>!dl i m
def kill(objs:aa):List Nat->aa
 | []=>objs
 |i::l=>(i,.dead)::kill objs l
def cellsOf(a:Bool):AVal->Option (List Cell)
 | .s (.one c)=>if a then none else some [c]
 | .s (.agg cs)=>if a then some cs else none
 | .tup _=>none
inductive PTy where
 |v (t:Ty) (agg:Bool)
 |box (t:Ty)
 |mut (e:Ty)
 |clos (g:FuncId) (n:Nat)
 |kv (t:Ty) (agg:Bool)
 |rp (t:Ty)
 |boxal (t:Ty) (lf:Nat)
 |vj (t:Ty)
def Ty.owns:Ty->Nat
 | .own _=>1
 | .prod a b=>a.owns+b.owns
 |_=>0
def cu:List PTy->Type
 | []=>Unit
 | .v t _::ps=>t.den×cu ps
 | .box t::ps=>t.den×cu ps
 | .mut e::ps=>List e.den×cu ps
 | .clos _ _::ps=>cu ps
 | .kv t _::ps=>t.den×cu ps
 | .rp t::ps=>t.den×cu ps
 | .vj _::ps=>cu ps
 | .boxal t _::ps=>t.den×Nat×cu ps
def cT:List PTy->Type
 | []=>Unit
 | .v _ _::ps=>cT ps
 | .box t::ps=>t.den×cT ps
 | .mut e::ps=>List e.den×cT ps
 | .clos _ _::ps=>cT ps
 | .kv t _::ps=>t.den×cT ps
 | .rp _::ps=>cT ps
 | .vj _::ps=>cT ps
 | .boxal t _::ps=>t.den×cT ps
def db:List PTy->Type
 | []=>Unit
 | .v t _::rs=>t.den×db rs
 | .box t::rs=>t.den×db rs
 | .mut _::rs=>db rs
 | .clos _ _::rs=>db rs
 | .kv _ _::rs=>db rs
 | .rp _::rs=>db rs
 | .vj t::rs=>t.den×db rs
 | .boxal _ _::rs=>db rs
structure Kp where
 id:Nat
 off:Nat
def kp0(l:List Nat):List Kp:=l.map λi=>⟨i,0⟩
structure Args(ps:List PTy) where
 d:cu ps
 moved:List Nat
 lent:List Nat
 kept:List Kp
 all:List Nat
def gT:Ty->Nat->Option Nat
 | .own _,n=>match n with
  |0=>some 0
  |_+1=>none
 | .prod a b,n=>if n<a.owns then gT a n else(gT b (n-a.owns)).map (a.size+ ·)
 | .int _,_=>none
 | .bool,_=>none
 | .str,_=>none
 | .slice _,_=>none
def M2(objs:aa):Cell->AVal->Option Nat
 | .own r,.s (.one (.ptr p off))=>match off,Wt objs r with
  |0,some (.hole _ _ i p')=>if bq p p' then some i else none
  |_,_=>none
 | .own r,.s (.one (.eptr r' i off))=>match off,Wt objs r with
  |0,some (.arr _ _)=>if bq r r' then some i else none
  |_,_=>none
 |_,_=>none
def Nf:Cell->Bool
 | .vw _ _ _=>false
 |_=>true
def XP:AVal->Bool
 | .s (.one c)=>Nf c
 | .s (.agg cs)=>cs.all Nf
 | .tup _=>true
def DD(objs:aa)(t:Ty)(m:List Nat)(x:AVal):Bool:=decide (m.length=t.owns)&&XP x&&m.all λa=>match Wt objs a with
 |some (.arr _ _)=>true
 |_=>false
def da(l:List Nat):List AVal:=l.map λa=>.s (.one (.ptr a 0))
def d4:(f:List PTy)->List AVal->aa->Option (Args f)
 | [],a,_=>match a with
  | []=>some ⟨(),[],[],[],[]⟩
  |_=>none
 | .v t agg::f,a,objs=>match a with
  |x::a=>match(cellsOf agg x).bind λh=>aC t h objs,d4 f a objs with
   |some (d,m,r),some A=>some ⟨(d,A.d),m++A.moved,r++A.lent,A.kept,m++A.all⟩
   |_,_=>none
  |_=>none
 | .box t::f,a,objs=>match a with
  | .s (.one (.ptr id b))::a=>match Wt objs id with
   |some (.box h)=>match aC t ((h.drop b).take t.size) objs,d4 f a objs with
    |some (d,m,[]),some A=>some ⟨(d,A.d),m++A.moved,A.lent,⟨id,b⟩::A.kept,id::(m++A.all)⟩
    |_,_=>none
   |_=>none
  |_=>none
 | .mut e::f,a,objs=>match a with
  | .s (.one (.own id))::a=>match Wt objs id with
   |some (.arr e' ys)=>match iZ e' e ys,d4 f a objs with
    |some d,some A=>some ⟨(d,A.d),A.moved,A.lent,⟨id,0⟩::A.kept,id::A.all⟩
    |_,_=>none
   |_=>none
  |_=>none
 | .clos g n::f,a,objs=>match a with
  | .s (.one (.clos g' caps))::a=>if g'=g/\caps.length=n then(d4 f (da caps++a) objs).map λA=>⟨A.d,A.moved,A.lent,A.kept,A.all⟩else none
  |_=>none
 | .kv t agg::f,a,objs=>match a with
  |x::a=>match(cellsOf agg x).bind λh=>aC t h objs,d4 f a objs with
   |some (d,m,r),some A=>if DD objs t m x then some ⟨(d,A.d),A.moved,r++A.lent,kp0 m++A.kept,m++A.all⟩else none
   |_,_=>none
  |_=>none
 | .rp t::f,a,objs=>match a with
  | .s (.one (.ptr id b))::a=>match Wt objs id with
   |some (.box h)=>match aC t ((h.drop b).take t.size) objs,d4 f a objs with
    |some (d,[],r),some A=>if t.data then some ⟨(d,A.d),A.moved,id::(r++A.lent),A.kept,A.all⟩else none
    |_,_=>none
   |_=>none
  | .s (.one (.rptr t' d b))::a=>match aC t (((split t' d).drop b).take t.size) objs,d4 f a objs with
   |some (d,[],[]),some A=>if t.data then some ⟨(d,A.d),A.moved,A.lent,A.kept,A.all⟩else none
   |_,_=>none
  |_=>none
 | .vj _::_,_,_=>none
 | .boxal t lf::f,a,objs=>match a with
  | .s (.one (.ptr id b))::y::a=>match Wt objs id with
   |some (.box h)=>match aC t ((h.drop b).take t.size) objs,d4 f a objs,((gT t lf).bind λk=>((h.drop b).take t.size)[k]?).bind λc=>M2 objs c y with
    |some (d,m,[]),some A,some i=>some ⟨(d,i,A.d),m++A.moved,A.lent,⟨id,b⟩::A.kept,id::(m++A.all)⟩
    |_,_,_=>none
   |_=>none
  |_=>none
def dv:(t:Ty)->t.den->List Nat->aa
 | .own e,d,ids=>match ids with
  |id::_=>[(id,.arr e d)]
  | []=>[]
 | .prod a b,d,ids=>dv a d.1 (ids.take a.owns)++dv b d.2 (ids.drop a.owns)
 | .int _,_,_=>[]
 | .bool,_,_=>[]
 | .str,_,_=>[]
 | .slice _,_,_=>[]
def kB(cs:List Cell)(off:Nat)(a:List Cell):List Cell:=cs.take off++a++cs.drop (off+a.length)
def qX(o:Option Ob)(off:Nat)(a:List Cell):Ob:=match o with
 |some (.box cs)=>.box (kB cs off a)
 |_=>.dead
def di:(b:List PTy)->cT b->List Kp->aa->Nat->aa×Nat
 | [],_,_,objs,nx=>(objs,nx)
 | .v _ _::b,o,a,objs,nx=>di b o a objs nx
 | .box t::b,o,a,objs,nx=>match a with
  |k::a=>
   let x:=unfold t o.1 nx
   di b o.2 a ((k.id,qX (Wt objs k.id) k.off x.1)::(x.2.1++objs)) x.2.2
  | []=>(objs,nx)
 | .mut e::b,o,a,objs,nx=>match a with
  |k::a=>di b o.2 a ((k.id,.arr e o.1)::objs) nx
  | []=>(objs,nx)
 | .clos _ _::b,o,a,objs,nx=>di b o a objs nx
 | .kv t _::b,o,a,objs,nx=>di b o.2 (a.drop t.owns) (dv t o.1 ((a.take t.owns).map Kp.id)++objs) nx
 | .rp _::b,o,a,objs,nx=>di b o a objs nx
 | .vj _::b,o,a,objs,nx=>di b o a objs nx
 | .boxal t _::b,o,a,objs,nx=>match a with
  |k::a=>
   let x:=unfold t o.1 nx
   di b o.2 a ((k.id,qX (Wt objs k.id) k.off x.1)::(x.2.1++objs)) x.2.2
  | []=>(objs,nx)
def D3(a:Bool)(cs:List Cell):AV:=if a then .agg cs else match cs with
 | [c]=>.one c
 |_=>.agg cs
def d5:(a:List PTy)->db a->aa->Nat->List AV×aa×Nat
 | [],_,objs,nx=>([],objs,nx)
 | .v t agg::a,d,objs,nx=>
  let x:=unfold t d.1 nx
  let y:=d5 a d.2 (x.2.1++objs) x.2.2
  (D3 agg x.1::y.1,y.2)
 | .box t::a,d,objs,nx=>
  let x:=unfold t d.1 (nx+1)
  let y:=d5 a d.2 ((nx,.box x.1)::(x.2.1++objs)) x.2.2
  (.one (.ptr nx 0)::y.1,y.2)
 | .mut _::a,d,objs,nx=>d5 a d objs nx
 | .clos _ _::a,d,objs,nx=>d5 a d objs nx
 | .kv _ _::a,d,objs,nx=>d5 a d objs nx
 | .rp _::a,d,objs,nx=>d5 a d objs nx
 | .vj t::a,d,objs,nx=>
  let x:=unfold t d.1 nx
  let y:=d5 a d.2 (x.2.1++objs) x.2.2
  (.agg (x.1++ [.junk])::y.1,y.2)
 | .boxal _ _::a,d,objs,nx=>d5 a d objs nx
def XS:List AV->AVal
 | [x]=>.s x
 |a=>.tup a
abbrev KV(R:Type):=AVal->aa->Nat->Option R
abbrev Out:=AVal×aa×Nat
def cC(x:AVal)(objs:aa)(nx:Nat):Option Out:=some (x,objs,nx)
structure Inl where
 fn:(R:Type)->St->KV R->Option R
 law:∀(R:Type) (st:St) (k:KV R),fn R st k=(fn Out st cC).bind λp=>k p.1 p.2.1 p.2.2
 suf:∀(st:St) (x:AVal) (objs:aa) (nx:Nat),fn Out st cC=some (x,objs,nx)->∃pre,objs=pre++st.objs
structure Sig where
 ps:List PTy
 rs:List PTy
 fn:(R:Type)->cu ps->(cT ps×db rs->Option R)->Option R
 run:cu ps->Option (cT ps×db rs)
 law:∀(R:Type) (d:cu ps) (k:cT ps×db rs->Option R),fn R d k=(run d).bind k
 inl:Option Inl
noncomputable def Sig.of(b c:List PTy)(a:cu b->Option (cT b×db c)):Sig:=⟨b,c,λ_ d k=>(a d).bind k,a,λ_ _ _=>rfl,none⟩
theorem Sig.law'(s:Sig){R:Type}(d:cu s.ps)(k:cT s.ps×db s.rs->Option R)(r:R)(h:s.fn R d k=some r):∃o,s.run d=some o/\k o=some r:=by
 rw[s.law]at h;cases hr:s.run d with
 |none=>simp_all
 |some o=>simp_all
def PTy.fresh:PTy->Bool
 | .v _ _=>true
 | .box t=>t.noRo
 | .mut e=>e.noRo
 | .clos _ _=>true
 | .kv t _=>t.noRo
 | .rp _=>true
 | .vj _=>true
 | .boxal t _=>t.noRo
def PTy.freshR:PTy->Bool
 | .v t _=>t.noRo
 | .box t=>t.noRo
 | .mut _=>true
 | .clos _ _=>true
 | .kv _ _=>true
 | .rp _=>true
 | .vj t=>t.noRo
 | .boxal _ _=>true
def Sig.fresh(s:Sig):Bool:=s.rs.all PTy.freshR&&s.ps.all PTy.fresh
abbrev Ctx:=List (FuncId×Sig)
def evs(st:St):List Operand->Option (List AVal)
 | []=>some []
 |o::l=>match ev st o,evs st l with
  |some x,some xs=>some (x::xs)
  |_,_=>none
def m7{R:Type}(sg:Sig)(st:St)(xs:List AVal)(k:KV R):Option R:=
 match d4 sg.ps xs st.objs with
 |some A=>
  if d8 A.all&&gZ A.lent A.all&&(sg.fresh||A.lent.isEmpty)then
   sg.fn R A.d λo=>
    let p:=di sg.ps o.1 A.kept (kill st.objs A.moved) st.nx
    let q:=d5 sg.rs o.2 p.1 p.2
    k (XS q.1) q.2.1 q.2.2
  else none
 |none=>none
def GA(objs:aa)(a:List Nat):Cell->Cell
 | .own id=>bif dl id a then(match Wt objs id with
  |some (.arr e xs)=>.val (.slice e.ro) (du e xs)
  |_=>.junk)else .own id
 | .vw id lo hi=>.vw id lo hi
 | .val t d=>.val t d
 | .nils=>.nils
 | .aptr id=>.aptr id
 | .ptr id off=>.ptr id off
 | .eptr id i off=>.eptr id i off
 | .rptr t d off=>.rptr t d off
 | .clos f caps=>.clos f caps
 | .junk=>.junk
def q8(objs:aa)(a:List Nat):AVal->AVal
 | .s (.one c)=>.s (.one (GA objs a c))
 | .s (.agg cs)=>.s (.agg (cs.map (GA objs a)))
 | .tup xs=>.tup xs
def Nh:Cell->List Nat
 | .own id=>[id]
 | .vw _ _ _=>[]
 | .val _ _=>[]
 | .nils=>[]
 | .aptr _=>[]
 | .ptr _ _=>[]
 | .eptr _ _ _=>[]
 | .rptr _ _ _=>[]
 | .clos _ _=>[]
 | .junk=>[]
def VM:AVal->List Nat
 | .s (.one c)=>Nh c
 | .s (.agg cs)=>cs.flatMap Nh
 | .tup _=>[]
def GT:Ty->List Cell->List Nat
 | .prod a b,cs=>GT a (cs.take a.size)++GT b (cs.drop a.size)
 | .slice _,cs=>match cs with
  |c::_=>Nh c
  | []=>[]
 | .own _,_=>[]
 | .int _,_=>[]
 | .bool,_=>[]
 | .str,_=>[]
def q0(e:Ty):AVal->List Nat
 | .s (.one c)=>GT e [c]
 | .s (.agg cs)=>GT e cs
 | .tup _=>[]
def uv(objs:aa)(p v:AVal):List Nat:=match p with
 | .s (.one (.eptr id _ _))=>match Wt objs id with
  |some (.arr e _)=>bif e.data then VM v else q0 e v
  |_=>[]
 |_=>[]
def Gn(a:List (Nat×AVal)):List Nat:=a.flatMap λp=>VM p.2
def o8(objs:aa)(l:List Nat):aa:=kill objs l
def L9(objs:aa)(a:List (Nat×AVal)):List (Nat×AVal):=a.map λp=>(p.1,q8 objs (Gn a) p.2)
def rj{R:Type}(sg:Sig)(st:St)(xs:List AVal)(k:KV R):Option R:=
 bif sg.fresh then m7 sg st xs k else match d4 sg.ps xs st.objs with
  |some A=>match A.lent with
   | []=>m7 sg st xs k
   |_=>m7 sg {env:=st.env,objs:=kill st.objs A.lent,nx:=st.nx} (xs.map (q8 st.objs A.lent)) k
  |none=>none
def St.new(st:St)(dst:Option Tmp)(a:Ob)(x:AVal):St:=
 {env:=st.env,objs:=(st.nx,a)::st.objs,nx:=st.nx+1:St}.put dst x
def St.turn(st:St)(a:Nat)(b:Ob):St:={st with objs:=(a,b)::st.objs}
def jN:AVal->Option (List Cell)
 | .s (.one c)=>some [c]
 | .s (.agg cs)=>some cs
 | .tup _=>none
def lW(T:Tab)(st:St)(t:TypeId)(x v:AVal):Option St:=
 match Wt T t,x,jN v with
 |some te,.s (.one (.ptr a off)),some ds=>match Wt st.objs a with
  |some (.box cs)=>if decide (te.ty.size=ds.length)&&te.plain&&decide (off+ds.length<=cs.length)then some (st.turn a (.box (kB cs off ds)))else none
  |_=>none
 |some te,.s (.one (.eptr a i off)),some ds=>match Wt st.objs a with
  |some (.arr e xs)=>
   if decide (te.ty.size=ds.length)&&te.plain&&decide (off+ds.length<=e.size)&&e.data then
    match aC e (kB (split e (xs.getD i e.dflt)) off ds) st.objs with
    |some (d,[],[])=>some (st.turn a (.arr e (xs.set i d)))
    |_=>none
   else if decide (te.ty.size=ds.length)&&te.plain&&decide (off=0)&&decide (ds.length=e.size)then
    match aC e ds st.objs with
    |some (d,m,[])=>if d8 (a::m)then some {env:=st.env,objs:=(a,.arr e (xs.set i d))::kill st.objs m,nx:=st.nx}else none
    |_=>none
   else none
  |_=>none
 |_,_,_=>none
def Nl(st:St)(e:Ty):AVal->Option (List e.den)
 | .s (.one (.val (.slice e') d))=>iZ e' e d
 | .s (.one .nils)=>some []
 | .s (.one (.own id))=>match Wt st.objs id with
  |some (.arr e' xs)=>iZ e' e xs
  |_=>none
 | .s (.one (.vw id lo hi))=>match Wt st.objs id with
  |some (.arr e' xs)=>(iZ e' e xs).map λa=>(a.take hi).drop lo
  |_=>none
 |_=>none
def GU(st:St)(e:Ty):AVal->Option (List e.den×List Nat)
 | .s (.one .nils)=>some ([],[])
 | .s (.one (.own id))=>match Wt st.objs id with
  |some (.arr e' xs)=>(iZ e' e xs).map λa=>(a,[id])
  |_=>none
 |_=>none
def WyN(st:St):AVal->Option Ty
 | .s (.one (.own id))=>match Wt st.objs id with
  |some (.arr e _)=>some e
  |_=>none
 |_=>none
def qL{R:Type}(st:St)(b:Ty)(s x:AVal)(k:KV R):Option R:=
 match s with
 | .s (.one .nils)=>match WyN st x with
  |some e=>if e.ro=b then match GU st e x with
    |some (l,m)=>bif Wx l.length then k (.s (.one (.own st.nx))) ((st.nx,.arr e l)::kill st.objs m) (st.nx+1)else none
    |none=>none
   else none
  |none=>none
 | .s (.one (.own a))=>match Wt st.objs a with
  |some (.arr e xs)=>if e.ro=b then match GU st e x with
    |some (l,m)=>if d8 (a::m)then(bif Wx (xs.length+l.length)then k (.s (.one (.own st.nx))) ((st.nx,.arr e (Xf xs l))::kill st.objs (a::m)) (st.nx+1)else none)else none
    |none=>none
   else none
  |_=>none
 |_=>none
def G3(st:St):AVal->AVal->Bool
 | .s (.one (.own id)),_=>match Wt st.objs id with
  |some (.arr e _)=>e.data
  |_=>true
 | .s (.one .nils),.s (.one (.own id))=>match Wt st.objs id with
  |some (.arr e _)=>e.data
  |_=>true
 |_,_=>true
def t8{R:Type}(T:Tab)(st:St)(t a:TypeId)(s x:AVal)(k:KV R):Option R:=
 match Wt T t,Wt T a with
 |some ⟨_,false,.slice et⟩,some _=>match Wt T et with
  |some te=>
   if t=a/\te.plain/\te.ty.data then
    bif !G3 st s x then qL st te.ty s x k else
    match s,Nl st te.ty x with
    | .s (.one .nils),some l=>bif Wx l.length then k (.s (.one (.own st.nx))) ((st.nx,.arr te.ty l)::st.objs) (st.nx+1)else none
    | .s (.one (.own id)),some l=>match Wt st.objs id with
     |some (.arr e xs)=>match DE (.own e) (.own te.ty) xs with
      |some ys=>bif Wx (Xb ys+l.length)then k (.s (.one (.own st.nx))) ((st.nx,.arr te.ty (Xf ys l))::(id,.dead)::st.objs) (st.nx+1)else none
      |none=>none
     |_=>none
    | .s (.one (.vw id 0 hi)),some l=>match Wt st.objs id with
     |some (.arr e xs)=>match DE (.own e) (.own te.ty) xs with
      |some ys=>bif Wx (hi+l.length)then k (.s (.one (.own st.nx))) ((st.nx,.arr te.ty (Xf (ys.take hi) l))::(id,.dead)::st.objs) (st.nx+1)else none
      |none=>none
     |_=>none
    |_,_=>none
   else none
  |none=>none
 |_,_=>none
def rr(T:Tab)(a:List (Nat×TypeId)):List (Nat×AVal)->List Cell->Option (List Cell)
 | [],cs=>some cs
 |(i,x)::ps,cs=>match a[i]? with
  |some (off,ft)=>match Wt T ft,jN x with
   |some te,some ds=>if decide (te.ty.size=ds.length)&&decide (off+ds.length<=cs.length)then rr T a ps (kB cs off ds)else none
   |_,_=>none
  |none=>none
def z7(e:Ty)(objs:aa):List (Nat×AVal)->List e.den->Option (List e.den)
 | [],xs=>some xs
 |(i,x)::ps,xs=>match jN x with
  |some ds=>match aC e ds objs with
   |some (d,[],[])=>if i<xs.length then z7 e objs ps (xs.set i d)else none
   |_=>none
  |none=>none
def kx(st:St):List (Nat×Operand)->Option (List (Nat×AVal))
 | []=>some []
 |(i,o)::l=>match ev st o,kx st l with
  |some x,some xs=>some ((i,x)::xs)
  |_,_=>none
inductive An where
 |nest (e:Ty)
 |view
 |opn
 |shut (off:Nat)
def DW(A:List (Nat×An))(o:Oper):Option An:=match o.dst with
 |some d=>Wt A d
 |none=>none
def m5{R:Type}(st:St)(e:Ty)(a:List (Nat×AVal))(k:KV R):Option R:=
 match a with
 | [p]=>if p.1=0 then match jN (q8 st.objs (q0 e p.2) p.2)with
  |some ds=>match aC e ds (o8 st.objs (q0 e p.2))with
   |some (d,m,[])=>if d8 m then k (.s (.one (.own st.nx))) ((st.nx,.arr e [d])::kill (o8 st.objs (q0 e p.2)) m) (st.nx+1)else none
   |_=>none
  |none=>none
  else none
 |_=>none
def nn{R:Type}(st:St)(b:Ty)(a:Nat)(l h:Option Int)(k:KV R):Option R:=
 match Wt st.objs a with
 |some (.arr e xs)=>if b=e.ro then bif (aI (Xb xs) l h).1 then k (.s (.one (.vw a (aI (Xb xs) l h).2.1 (aI (Xb xs) l h).2.2))) st.objs st.nx else none else none
 |_=>none
def M3(o:Option Ob)(n:Nat):Bool:=match o with
 |some (.box cs)=>bq cs.length n
 |_=>false
def jF:Nat->List AVal->List (Nat×AVal)
 |_,[]=>[]
 |i,x::xs=>(i,x)::jF (i+1) xs
def rxe{R:Type}(T:Tab)(Γ:Ctx)(A:List (Nat×An))(o:Oper)(st:St)(k:KV R):Option R:=
 match o.op with
 | .alloc t=>match Wt T t with
  |some ⟨e,true,.arr n _⟩=>if e.data&&Wx n then k (.s (.one (.aptr st.nx))) ((st.nx,.arr e (Xk n e.dflt))::st.objs) (st.nx+1)else none
  |some te=>if te.plain then k (.s (.one (.ptr st.nx 0))) ((st.nx,.box (mc te.ty))::st.objs) (st.nx+1)else none
  |none=>none
 | .box t x=>match Wt T t,(ev st x).bind jN with
  |some _,some cs=>k (.s (.one (.ptr st.nx 0))) ((st.nx,.box cs)::st.objs) (st.nx+1)
  |_,_=>none
 | .build t parts=>match Wt T t,kx st parts.toList with
  |some ⟨d,true,.struct fs⟩,some ps=>
   if fs.all (λf=>match Wt T f.2 with|some te=>te.plain|none=>false)then
    match rr T fs ps (mc d)with
    |some cs=>k (.s (.agg cs)) st.objs st.nx
    |none=>none
   else none
  |_,_=>none
 | .buildSlice t n parts=>match Wt T t,kx st parts.toList with
  |some ⟨_,false,.slice et⟩,some ps=>match Wt T et with
   |some te=>match DW A o with
    |some (.nest e)=>if decide (n=1)&&decide (e.ro=te.ty)&&te.plain&&decide (te.ty.size<=16777216)then m5 st e ps k else none
    |_=>match z7 te.ty (o8 st.objs (Gn ps)) (L9 st.objs ps) (Xk n te.ty.dflt)with
    |some xs=>if decide (n*te.ty.size<=16777216)&&te.ty.data&&te.plain then k (.s (.one (.own st.nx))) ((st.nx,.arr te.ty xs)::o8 st.objs (Gn ps)) (st.nx+1)else none
    |none=>none
   |none=>none
  |_,_=>none
 | .makeSlice t n c=>match Wt T t,(ev st n).bind asI,(ev st c).bind asI with
  |some ⟨_,false,.slice et⟩,some n',some c'=>match Wt T et with
   |some te=>match DW A o with
    |some (.nest e)=>if decide (e.ro=te.ty)&&te.plain then(bif decide (0<=n')&&decide (n'<=c')&&Wx c'.toNat then k (.s (.one (.own st.nx))) ((st.nx,.arr e (Xk n'.toNat e.dflt))::st.objs) (st.nx+1)else none)else none
    |_=>if te.ty.data&&te.plain then(bif decide (0<=n')&&decide (n'<=c')&&Wx c'.toNat then k (.s (.one (.own st.nx))) ((st.nx,.arr te.ty (Xk n'.toNat te.ty.dflt))::st.objs) (st.nx+1)else none)else none
   |none=>none
  |_,_,_=>none
 | .store t a x=>match ev st a,ev st x with
  |some p,some v=>match lW T {env:=st.env,objs:=o8 st.objs (uv st.objs p v),nx:=st.nx} t p (q8 st.objs (uv st.objs p v) v)with
   |some ai=>match o.dst with
    |none=>k (.tup []) ai.objs ai.nx
    |some _=>none
   |none=>none
  |_,_=>none
 | .slice t x lo hi none=>match ev st x with
  |some (.s (.one (.own id)))=>match Wt T t,fe st lo,fe st hi with
   |some ⟨_,false,.slice et⟩,some l,some h=>match Wt T et with
    |some te=>match DW A o with
     |some .view=>if te.plain then nn st te.ty id l h k else none
     |_=>match l,h,Wt st.objs id with
      |none,some h,some (.arr e xs)=>if te.ty=e.ro/\te.plain then(bif decide (0<=h)&&decide (h<=(xs.length:Int))then k (.s (.one (.own st.nx))) ((st.nx,.arr e (xs.take h.toNat))::(id,.dead)::st.objs) (st.nx+1)else none)else none
      |none,some h,some (.hole e xs i p)=>if te.ty=e.ro/\te.plain/\M3 (Wt st.objs p) e.size then(bif decide (0<=h)&&decide (h<=(xs.length:Int))&&decide (h<=(i:Int))then k (.s (.one (.own st.nx))) ((st.nx,.arr e (xs.take h.toNat))::(id,.dead)::(p,.dead)::st.objs) (st.nx+1)else none)else none
      |_,_,_=>none
    |none=>none
   |_,_,_=>none
  |_=>match b5 T st o.op with
   |some (c,v)=>bif c then k v st.objs st.nx else none
   |none=>none
 | .call c=>match c.callee,c.args.toList,c.argTypes.toList with
  | .builtin .append,[s,x],[t,t2]=>match ev st s,ev st x with
   |some sv,some xv=>t8 T st t t2 sv xv k
   |_,_=>none
  | .builtin .clear,[x],[t]=>match ev st x with
   |some (.s (.one (.vw id lo hi)))=>match Wt T t,Wt st.objs id with
    |some ⟨_,false,.slice et⟩,some (.arr e xs)=>match Wt T et with
     |some te=>if te.ty=e/\te.plain/\e.data then k (.tup []) ((id,.arr e (xs.take lo++Xk (hi-lo) e.dflt++xs.drop hi))::st.objs) st.nx else none
     |none=>none
    |_,_=>none
   |_=>none
  | .builtin _,_,_=>match b5 T st o.op with
   |some (c,v)=>bif c then k v st.objs st.nx else none
   |none=>none
  | .value f,b,_=>match ev st f,evs st b with
   |some (.s (.one (.clos g caps))),some xs=>match Wt Γ g with
    |some sg=>match sg.inl with
     |none=>rj sg st (xs++da caps) k
     |some i=>i.fn R {env:=jF 0 (xs++da caps),objs:=st.objs,nx:=st.nx} k
    |none=>none
   |_,_=>none
  |_,_,_=>none
 |op=>match b5 T st op with
  |some (c,v)=>bif c then k v st.objs st.nx else none
  |none=>none
def rx1{R:Type}(T:Tab)(Γ:Ctx)(A:List (Nat×An))(o:Oper)(st:St)(k:St->Option R):Option R:=
 rxe T Γ A o st λx objs nx=>k (({env:=st.env,objs:=objs,nx:=nx}:St).put o.dst x)
def rxg{R:Type}(T:Tab)(Γ:Ctx)(A:List (Nat×An))(ops:Array Oper)(o:Oper)(st:St)(k:St->Option R):Option R:=
 match o.guard with
 |none=>rx1 T Γ A o st k
 |some (j,want)=>match(ops[j]?).bind (·.dst)with
  |some t=>match Wt st.env t with
   |some (.tup [])=>k (st.put o.dst (.tup []))
   |some x=>match asB x with
    |some b=>bif b
     then(if want then rx1 T Γ A o (st.put (some t) (one .bool true)) k else k ((st.put (some t) (one .bool true)).put o.dst (.tup [])))
     else(if want then k ((st.put (some t) (one .bool false)).put o.dst (.tup []))else rx1 T Γ A o (st.put (some t) (one .bool false)) k)
    |none=>none
   |none=>none
  |none=>none
inductive Ex where
 |normal|exit (id:Nat)|ret
def vh{R:Type}(f:St->(Ex->St->Option R)->Option R):Nat->St->(Ex->St->Option R)->Option R
 |0,_,_=>none
 |n+1,st,k=>f st λe ai=>match e with
  | .normal=>vh f n ai k
  | .exit id=>k (.exit id) ai
  | .ret=>k .ret ai
inductive Ghost where
 |canon (slots:List Nat)
 |adopt (slot:Nat) (e:Ty)
 |freeze (slot:Nat)
 |adoptC (slot off:Nat) (e:Ty)
 |freezeC (slot off:Nat)
 |nest (dst:Nat) (e:Ty)
 |view (dst:Nat)
 |opn (dst:Nat)
 |unfE (slot:Nat)
 |unfS (slot:Nat) (ix:Option Nat)
 |unfC (slot off:Nat) (ix:Option Nat)
 |empt (slot:Nat) (e:Ty)
 |refold (slot:Nat)
 |shut (slot off:Nat)
 |shutD (dst off:Nat)
 |solo (slot:Nat)
 |soloC (slot off:Nat)
def dS:List Ghost->List (Nat×An)
 | []=>[]
 | .nest d e::l=>(d,.nest e)::dS l
 | .view d::l=>(d,.view)::dS l
 | .opn d::l=>(d,.opn)::dS l
 | .canon _::l=>dS l
 | .adopt _ _::l=>dS l
 | .freeze _::l=>dS l
 | .adoptC _ _ _::l=>dS l
 | .freezeC _ _::l=>dS l
 | .unfE _::l=>dS l
 | .unfS _ _::l=>dS l
 | .unfC _ _ _::l=>dS l
 | .refold _::l=>dS l
 | .shut _ _::l=>dS l
 | .shutD d off::l=>(d,.shut off)::dS l
 | .empt _ _::l=>dS l
 | .solo _::l=>dS l
 | .soloC _ _::l=>dS l
def fD:Cell->List Nat
 | .own id| .aptr id| .ptr id _| .eptr id _ _| .vw id _ _=>[id]
 | .clos _ caps=>caps
 |_=>[]
def gm:AV->List Nat
 | .one c=>fD c
 | .agg cs=>cs.flatMap fD
def eE:AVal->List Nat
 | .s x=>gm x
 | .tup xs=>xs.flatMap gm
def pz:Nat->List Nat->List Nat->aa->List Nat
 |0,_,a,_=>a
 |n+1,b,a,objs=>match b with
  | []=>a
  |i::l=>if dl i a then pz n l a objs else
   match Wt objs i with
   |some (.box cs)=>pz n (l++cs.flatMap fD) (a++ [i]) objs
   |some (.arr _ _)=>pz n l (a++ [i]) objs
   |some (.hole _ _ _ p)=>pz n (l++ [p]) (a++ [i]) objs
   |_=>pz n l a objs
def mx(i:Nat):List Nat->Option Nat
 | []=>none
 |j::l=>if bq i j then some 0 else(mx i l).map (· +1)
def DG(m:List Nat):List Nat->Option (List Nat)
 | []=>some []
 |i::l=>match mx i m,DG m l with
  |some j,some r=>some (j::r)
  |_,_=>none
def l0(m:List Nat):Cell->Cell
 | .own id=>match mx id m with|some j=>.own j|none=>.junk
 | .vw id lo hi=>match mx id m with|some j=>.vw j lo hi|none=>.junk
 | .aptr id=>match mx id m with|some j=>.aptr j|none=>.junk
 | .ptr id off=>match mx id m with|some j=>.ptr j off|none=>.junk
 | .eptr id i off=>match mx id m with|some j=>.eptr j i off|none=>.junk
 | .clos f caps=>match DG m caps with|some js=>.clos f js|none=>.junk
 | .val t d=>.val t d
 | .nils=>.nils
 | .rptr t d off=>.rptr t d off
 | .junk=>.junk
def Nq(m:List Nat):AV->AV
 | .one c=>.one (l0 m c)
 | .agg cs=>.agg (cs.map (l0 m))
def My(m:List Nat):AVal->AVal
 | .s x=>.s (Nq m x)
 | .tup xs=>.tup (xs.map (Nq m))
def DQ(m:List Nat):Ob->Ob
 | .box cs=>.box (cs.map (l0 m))
 | .arr e xs=>.arr e xs
 | .hole e xs i p=>match mx p m with|some j=>.hole e xs i j|none=>.dead
 | .dead=>.dead
def ue(env:List (Nat×AVal)):List Nat->List (Nat×AVal)
 | []=>[]
 |i::l=>match Wt env i with
  |some x=>(i,x)::ue env l
  |none=>ue env l
def o9(m:List Nat)(objs:aa):Nat->List Nat->aa
 |_,[]=>[]
 |j,i::l=>match Wt objs i with
  |some ob=>(j,DQ m ob)::o9 m objs (j+1) l
  |none=>o9 m objs (j+1) l
def canon(a:List Nat)(st:St):St:=
 let env:=ue st.env a
 let m:=pz 400 (env.flatMap λp=>eE p.2) [] st.objs
 {env:=env.map λp=>(p.1,My m p.2),objs:=o9 m st.objs 0 m,nx:=m.length}
def zs(st:St)(r i:Nat):Option St:=
 match Wt st.objs r with
 |some (.arr e xs)=>
  let x:=unfold e (xs.getD i e.dflt) (st.nx+1)
  some {env:=st.env,objs:=(r,.hole e xs i st.nx)::(st.nx,.box x.1)::(x.2.1++st.objs),nx:=x.2.2}
 |_=>none
def XE(st:St)(r:Nat):Option Nat->Option (Bool×Nat)
 |none=>match Wt st.objs r with
  |some (.arr _ xs)=>some (inb (Wv .i64 (Wh xs) 1) (Xb xs),(Wv .i64 (Wh xs) 1).toNat)
  |_=>none
 |some s=>match Wt st.objs r,(Wt st.env s).bind asI with
  |some (.arr _ xs),some n=>some (inb n (Xb xs),n.toNat)
  |_,_=>none
def zn(st:St)(r:Nat)(a:Option Nat):Option (Bool×St):=
 match XE st r a with
 |some (c,i)=>(zs st r i).map λai=>(c,ai)
 |none=>none
def DF(p:Nat):aa->Option Nat
 | []=>none
 |(r,.hole _ _ _ p')::l=>if bq p p' then some r else DF p l
 |(_,.box _)::l=>DF p l
 |(_,.arr _ _)::l=>DF p l
 |(_,.dead)::l=>DF p l
def Gw(st:St)(p:Nat):Option St:=
 match DF p st.objs with
 |some r=>match Wt st.objs r,Wt st.objs p with
  |some (.hole e xs i p'),some (.box cs)=>match aC e cs st.objs with
   |some (d,m,[])=>if bq p p'&&d8 (r::p::m)then some {env:=st.env,objs:=(r,.arr e (xs.set i d))::kill st.objs (p::m),nx:=st.nx}else none
   |_=>none
  |_,_=>none
 |none=>none
def eL(g:Ghost)(st:St):Option (Bool×St):=
 match g with
 | .canon slots=>some (true,canon slots st)
 | .adopt slot e=>match Wt st.env slot with
  |some (.s (.one .nils))=>some (true,st.new (some slot) (.arr e []) (.s (.one (.own st.nx))))
  |some (.s (.one (.own _)))=>some (true,st)
  |_=>none
 | .freeze slot=>match Wt st.env slot with
  |some (.s (.one (.own id)))=>match Wt st.objs id with
   |some (.arr e xs)=>some (true,(st.turn id .dead).put (some slot) (one (.slice e.ro) (du e xs)))
   |_=>none
  |_=>none
 | .adoptC slot off e=>match Wt st.env slot with
  |some (.s (.one (.ptr id 0)))=>match Wt st.objs id with
   |some (.box cs)=>match cs[off]? with
    |some .nils=>some (true,{env:=st.env,objs:=(id,.box (cs.set off (.own st.nx)))::(st.nx,.arr e [])::st.objs,nx:=st.nx+1})
    |some (.own _)=>some (true,st)
    |_=>none
   |_=>none
  |_=>none
 | .freezeC slot off=>match Wt st.env slot with
  |some (.s (.one (.ptr id 0)))=>match Wt st.objs id with
   |some (.box cs)=>match cs[off]? with
    |some (.own j)=>match Wt st.objs j with
     |some (.arr e xs)=>some (true,{st with objs:=(id,.box (cs.set off (.val (.slice e.ro) (du e xs))))::(j,.dead)::st.objs})
     |_=>none
    |some (.val _ _)=>some (true,st)
    |some .nils=>some (true,st)
    |_=>none
   |_=>none
  |_=>none
 | .nest _ _=>some (true,st)
 | .view _=>some (true,st)
 | .opn _=>some (true,st)
 | .shutD _ _=>some (true,st)
 | .unfE slot=>match Wt st.env slot with
  |some (.s (.one (.eptr r i 0)))=>(zs st r i).map λai=>(true,ai.put (some slot) (.s (.one (.ptr st.nx 0))))
  |_=>none
 | .unfS slot ix=>match Wt st.env slot with
  |some (.s (.one (.own r)))=>zn st r ix
  |_=>none
 | .unfC slot off ix=>match Wt st.env slot with
  |some (.s (.one (.ptr id o)))=>match Wt st.objs id with
   |some (.box cs)=>match cs[o+off]? with
    |some (.own r)=>zn st r ix
    |_=>none
   |_=>none
  |_=>none
 | .refold slot=>match Wt st.env slot with
  |some (.s (.one (.ptr p _)))=>(Gw st p).map λai=>(true,ai)
  |_=>none
 | .shut slot off=>match Wt st.env slot with
  |some (.s (.one (.ptr id o)))=>match Wt st.objs id with
   |some (.box cs)=>match cs[o+off]? with
    |some (.own r)=>match Wt st.objs r with
     |some (.hole _ _ _ p)=>(Gw st p).map λai=>(true,ai)
     |some (.arr _ _)=>some (true,st)
     |_=>none
    |_=>none
   |_=>none
  |_=>none
 | .empt slot e=>match Wt st.env slot with
  |some (.s (.one (.own id)))=>match Wt st.objs id with
   |some (.arr e' [])=>if e.size=e'.size/\e.ro=e'.ro then some (true,st.turn id (.arr e []))else none
   |_=>none
  |_=>none
 | .solo slot=>match Wt st.env slot with
  |some (.s (.one (.vw id lo hi)))=>match Wt st.objs id with
   |some (.arr e xs)=>some (true,(st.turn id .dead).new (some slot) (.arr e ((xs.take hi).drop lo)) (.s (.one (.own st.nx))))
   |_=>none
  |some (.s (.one (.own _)))=>some (true,st)
  |_=>none
 | .soloC slot off=>match Wt st.env slot with
  |some (.s (.one (.ptr id o)))=>match Wt st.objs id with
   |some (.box cs)=>match cs[o+off]? with
    |some (.vw j lo hi)=>match Wt st.objs j with
     |some (.arr e xs)=>some (true,{env:=st.env,objs:=(id,.box (cs.set (o+off) (.own st.nx)))::(st.nx,.arr e ((xs.take hi).drop lo))::(j,.dead)::st.objs,nx:=st.nx+1})
     |_=>none
    |some (.own _)=>some (true,st)
    |_=>none
   |_=>none
  |_=>none
def Ghost.quiet:Ghost->Bool
 | .canon _=>false
 |_=>true
def fc:List Ghost->St->Option (Bool×St)
 | [],st=>some (true,st)
 |g::l,st=>match eL g st with
  |some (c,ai)=>match fc l ai with
   |some (c',co)=>some (c&&c',co)
   |none=>none
  |none=>none
def opG(A:List (Nat×An))(o:Oper)(st:St):Option (Bool×St):=match DW A o,o.dst with
 |some .opn,some d=>match Wt st.env d with
  |some (.tup [])=>some (true,st)
  |_=>eL (.unfE d) st
 |some .view,_=>some (true,st)
 |some (.nest _),_=>some (true,st)
 |none,_=>some (true,st)
 |some .opn,none=>some (true,st)
 |some (.shut off),some d=>eL (.shut d off) st
 |some (.shut _),none=>some (true,st)
def rxs{R:Type}(T:Tab)(Γ:Ctx)(A:List (Nat×An))(ops:Array Oper):List Oper->St->(St->Option R)->Option R
 | [],st,k=>k st
 |o::l,st,k=>rxg T Γ A ops o st λai=>match opG A o ai with
  |some (c,co)=>bif c then rxs T Γ A ops l co k else none
  |none=>none
def ut:Code->Option Nat
 | .region id _ _=>some id
 | .seq a b=>match ut a with
  |some i=>some i
  |none=>ut b
 | .cond _ a b=>match ut a with
  |some i=>some i
  |none=>ut b
 | .block _ c=>ut c
 | .loop c=>(ut c).map (· +100000)
 |_=>none
def ug(c:Code):Nat:=match ut c with
 |some i=>i+100000
 |none=>99999
def zt{R:Type}(a:List Ghost)(f:St->(Ex->St->Option R)->Option R)(st:St)(k:Ex->St->Option R):Option R:=
 f st λe ai=>match e with
  | .normal=>match fc a ai with
   |some (c,co)=>bif c then k .normal co else none
   |none=>none
  | .exit id=>k (.exit id) ai
  | .ret=>k .ret ai
def an:Op->List Operand
 | .move x| .assign x| .box _ x| .load _ x| .nilCheck x| .unOp _ _ x| .convert _ _ x| .fieldAddr _ x _| .field _ x _| .extract x _=>[x]
 | .pick c a b=>[c,a,b]
 | .build _ ps| .buildSlice _ _ ps=>ps.toList.map (·.2)
 | .store _ a v| .binOp _ _ a v _| .makeSlice _ a v| .indexAddr _ a v| .index _ a v=>[a,v]
 | .makeFunc _ first captured=>first.toList++captured.toList
 | .slice _ x l h m=>x::(l.toList++(h.toList++m.toList))
 | .call c=>(match c.callee with| .value f=>[f]|_=>[])++c.args.toList
 |_=>[]
def bw(o:Oper):Bool:=match o.op with
 | .alloc _| .box _ _| .buildSlice _ _ _| .makeSlice _ _ _| .store _ _ _| .slice _ _ _ _ _=>true
 | .call c=>match c.callee with
  | .builtin .append=>true
  | .builtin .clear=>true
  | .builtin _=>false
  |_=>true
 |_=>false
def No:Op->Bool
 | .load _ _| .nilCheck _| .binOp _ _ _ _ _| .convert _ _ _| .fieldAddr _ _ _| .indexAddr _ _ _| .call _=>true
 |_=>false
def qN(st:St):List Operand->List Nat
 | []=>[]
 |x::l=>match ev st x with
  |some v=>eE v++qN st l
  |none=>qN st l
def kt(o:Oper)(st:St):List Nat:=bif No o.op then qN st (an o.op)else []
def q7(l:aa):List Nat:=l.map (·.1)
def GM(a b:aa):List Nat:=q7 (b.take (b.length-a.length))
def Hc(x:Nat)(l:List Nat):List Nat:=bif dl x l then l else x::l
def DI:List Nat->List Nat->List Nat
 | [],l=>l
 |x::m,l=>DI m (Hc x l)
def fM(o:Oper):List Nat:=(o.after.toList.filter (Region.binds .any)).map (·.on)
def pq(a:List (List Nat)):List Nat->List Nat->List Nat
 | [],l=>l
 |j::ds,l=>pq a ds (DI (a.getD j []) (Hc j l))
def dC:List Oper->List (List Nat)->List (List Nat)
 | [],acc=>acc
 |o::l,acc=>dC l (acc++ [pq acc (fM o) []])
def dD(B:List (List Nat))(j i:Nat):Bool:=dl j (B.getD i [])
def G8:List Oper->Nat->Bool
 | [],_=>true
 |o::l,n=>(fM o).all (λd=>Ht d n)&&G8 l (n+1)
def Nb:Operand->List Nat
 | .tmp t=>[t]
 |_=>[]
def m4(ops:Array Oper)(o:Oper):List Nat:=(an o.op).flatMap Nb++(match o.guard with
 |some (j,_)=>((ops[j]?).bind (·.dst)).toList
 |none=>[])
def qZ:List Oper->Nat->List (Nat×Nat)
 | [],_=>[]
 |o::l,i=>match o.dst with
  |some d=>(d,i)::qZ l (i+1)
  |none=>qZ l (i+1)
def Gy(ops:Array Oper)(B:List (List Nat))(D:List (Nat×Nat)):List Oper->Nat->Bool
 | [],_=>true
 |o::l,i=>(m4 ops o).all (λt=>D.all λp=>!bq p.1 t||bq p.2 i||dD B p.2 i||dD B i p.2)&&Gy ops B D l (i+1)
def GS(ops:Array Oper)(B:List (List Nat)):Bool:=
 G8 ops.toList 0&&d8 ((qZ ops.toList 0).map (·.1))&&Gy ops B (qZ ops.toList 0) ops.toList 0
def jL:List Oper->Nat->List Nat
 | [],_=>[]
 |o::l,i=>bif bw o then i::jL l (i+1)else jL l (i+1)
def lb(B:List (List Nat)):Nat->List Nat->List (List Nat)
 |0,_=>[[]]
 |n+1,rem=>match rem with
  | []=>[[]]
  |_=>(rem.filter λm=>rem.all λa=>!dD B a m).flatMap λm=>(lb B n (rem.filter λx=>!bq x m)).map (m:: ·)
def V5(ops:List Oper)(B:List (List Nat))(a σ:List Nat):Nat->Option Nat:=λi=>match ops with
 | []=>none
 |o::l=>bif !dl i a&&(B.getD i []).all (λj=>dl j a)&&(!bw o||(match σ with|m::_=>bq m i| []=>false))then some i else V5 l B a σ (i+1)
def DB(ops:List Oper)(B:List (List Nat)):Nat->List Nat->List Nat->List Nat
 |0,_,_=>[]
 |n+1,a,σ=>match V5 ops B a σ 0 with
  |some i=>i::DB ops B n (i::a) (match σ with|m::σ'=>bif bq m i then σ' else σ| []=>[])
  |none=>[]
def mw(ops:Array Oper):List Nat->List Nat->Bool
 | [],done=>bq done.length ops.size
 |i::l,done=>!dl i done&&(match ops[i]? with|some o=>(fM o).all (λd=>dl d done)|none=>false)&&mw ops l (i::done)
def pf{α:Type}:List Nat->(List Nat->α)->α
 | [],k=>k []
 |x::l,k=>pf l λa=>k (x::a)
def GJ{α:Type}:List (List Nat)->(List (List Nat)->α)->α
 | [],k=>k []
 |x::l,k=>pf x λx'=>GJ l λa=>k (x'::a)
def rdx{R:Type}(T:Tab)(Γ:Ctx)(A:List (Nat×An))(ops:Array Oper)(B:List (List Nat)):List Nat->List (Nat×List Nat)->List (Nat×List Nat)->St->(St->Option R)->Option R
 | [],_,_,st,k=>k st
 |i::l,b,c,st,k=>match ops[i]? with
  |some o=>bif bw o
   then rxg T Γ A ops o st λai=>pf (GM st.objs ai.objs) λa=>
    bif b.all (λp=>dD B p.1 i||gZ p.2 a)then rdx T Γ A ops B l b ((i,a)::c) ai k else none
   else pf (kt o st) λa=>
    bif c.all (λp=>dD B p.1 i||gZ a p.2)then rxg T Γ A ops o st λai=>rdx T Γ A ops B l ((i,a)::b) c ai k else none
  |none=>none
def Wp{α β:Type}(x:α)(f:α->β):β:=f x
open Classical in
noncomputable def ab{α:Type}(a b:Option α):Option α:=if a=b then a else none
noncomputable def vx{R:Type}(T:Tab)(Γ:Ctx)(A:List (Nat×An))(ops:Array Oper)(B:List (List Nat))(st:St)(k:St->Option R):List (List Nat)->Option R
 | []=>none
 |σ::l=>
  let a:=pf (DB ops.toList B ops.size [] σ) λL=>bif mw ops L []&&eqN (L.filter λi=>dl i σ) σ then rdx T Γ A ops B L [] [] st k else none
  match l with
  | []=>a
  |_=>ab a (vx T Γ A ops B st k l)
noncomputable def po{R:Type}(T:Tab)(Γ:Ctx)(A:List (Nat×An))(ops:Array Oper)(st:St)(k:St->Option R):Option R:=
 GJ (dC ops.toList []) λB=>bif GS ops B then vx T Γ A ops B st k (lb B ops.size (jL ops.toList 0))else none
noncomputable def sx{R:Type}(T:Tab)(Γ:Ctx)(d:Nat->List Ghost)(N:Nat):Code->St->(Ex->St->Option R)->Option R
 | .skip,st,k=>k .normal st
 | .region id ops draw,st,k=>
  bif draw then po T Γ (dS (d id)) ops st λai=>match fc (d id) ai with
   |some (c,co)=>bif c then k .normal co else none
   |none=>none
  else rxs T Γ (dS (d id)) ops ops.toList st λai=>match fc (d id) ai with
   |some (c,co)=>bif c then k .normal co else none
   |none=>none
 | .seq a b,st,k=>sx T Γ d N a st λe ai=>match e with
  | .normal=>sx T Γ d N b ai k
  | .exit id=>k (.exit id) ai
  | .ret=>k .ret ai
 | .cond c x y,st,k=>match(ev st c).bind asB with
  |some b=>bif b then sx T Γ d N x st k else sx T Γ d N y st k
  |none=>none
 | .block id c,st,k=>sx T Γ d N c st λe ai=>match e with
  | .exit cA=>if cA=id then k .normal ai else k (.exit cA) ai
  | .normal=>k .normal ai
  | .ret=>k .ret ai
 | .loop c,st,k=>match fc (d (ug c)) st with
  |some (b,ai)=>bif b then vh (zt (d (ug c)) λst k=>sx T Γ d N c st k) N ai k else none
  |none=>none
 | .exit id,st,k=>k (.exit id) st
 | .ret,st,k=>k .ret st
 |_,_,_=>none
def DU:List AVal->List Nat
 | []=>[]
 | .s (.one (.ptr id 0))::l=>id::DU l
 |_::l=>DU l
def WU:(a:List PTy)->cu a->aa->Nat->List AVal×aa×Nat
 | [],_,objs,nx=>([],objs,nx)
 | .v t agg::a,d,objs,nx=>
  let x:=unfold t d.1 nx
  let y:=WU a d.2 (x.2.1++objs) x.2.2
  (.s (D3 agg x.1)::y.1,y.2)
 | .box t::a,d,objs,nx=>
  let x:=unfold t d.1 (nx+1)
  let y:=WU a d.2 ((nx,.box x.1)::(x.2.1++objs)) x.2.2
  (.s (.one (.ptr nx 0))::y.1,y.2)
 | .mut e::a,d,objs,nx=>
  let y:=WU a d.2 ((nx,.arr e d.1)::objs) (nx+1)
  (.s (.one (.own nx))::y.1,y.2)
 | .clos g n::a,d,objs,nx=>
  let y:=WU a d objs nx
  (.s (.one (.clos g (DU (y.1.take n))))::y.1.drop n,y.2)
 | .kv t agg::a,d,objs,nx=>
  let x:=unfold t d.1 nx
  let y:=WU a d.2 (x.2.1++objs) x.2.2
  (.s (D3 agg x.1)::y.1,y.2)
 | .rp t::a,d,objs,nx=>
  let y:=WU a d.2 objs nx
  (.s (.one (.rptr t d.1 0))::y.1,y.2)
 | .vj _::a,d,objs,nx=>
  let y:=WU a d objs nx
  (.tup []::y.1,y.2)
 | .boxal t lf::a,d,objs,nx=>
  let x:=unfold t d.1 (nx+1)
  let y:=WU a d.2.2 ((nx,.box x.1)::(x.2.1++objs)) x.2.2
  (.s (.one (.ptr nx 0)):: .s (.one (.eptr (nx+1+lf) d.2.1 0))::y.1,y.2)
def iO(T:Tab)(st:St):List ResultVar->Option (List AVal)
 | []=>some []
 | .tmp t::rs=>match Wt st.env t,iO T st rs with
  |some x,some xs=>some (x::xs)
  |_,_=>none
 | .cell a t::rs=>match(Wt st.env a).bind (qW T st t),iO T st rs with
  |some x,some xs=>some (x::xs)
  |_,_=>none
structure Outs(α:Type) where
 d:α
 moved:List Nat
 lent:List Nat
def eZ:(b:List PTy)->List AVal->aa->Option (Outs (db b))
 | [],a,_=>match a with
  | []=>some ⟨(),[],[]⟩
  |_=>none
 | .v t agg::b,a,objs=>match a with
  |x::a=>match(cellsOf agg x).bind λc=>aC t c objs,eZ b a objs with
   |some (d,m,l),some A=>some ⟨(d,A.d),m++A.moved,l++A.lent⟩
   |_,_=>none
  |_=>none
 | .box t::b,a,objs=>match a with
  | .s (.one (.ptr id 0))::a=>match Wt objs id with
   |some (.box c)=>match aC t c objs,eZ b a objs with
    |some (d,m,l),some A=>some ⟨(d,A.d),id::(m++A.moved),l++A.lent⟩
    |_,_=>none
   |_=>none
  |_=>none
 | .mut _::_,_,_=>none
 | .clos _ _::_,_,_=>none
 | .kv _ _::_,_,_=>none
 | .rp _::_,_,_=>none
 | .vj t::b,a,objs=>match a with
  | .s (.agg c)::a=>if c.length=t.size+1 then(match aC t (c.take t.size) objs,eZ b a objs with
   |some (d,m,l),some A=>some ⟨(d,A.d),m++A.moved,l++A.lent⟩
   |_,_=>none)else none
  |_=>none
 | .boxal _ _::_,_,_=>none
structure OutK(α:Type) where
 d:α
 kept:List Nat
 moved:List Nat
 lent:List Nat
def WF:List PTy->Nat->Nat->St->List AVal
 | [],_,_,_=>[]
 |_::ps,i,k+1,st=>WF ps i k st
 | .v _ _::ps,i,0,st=>.tup []::WF ps (i+1) 0 st
 | .box _::ps,i,0,st=>(Wt st.env i).getD (.tup [])::WF ps (i+1) 0 st
 | .mut _::ps,i,0,st=>(Wt st.env i).getD (.tup [])::WF ps (i+1) 0 st
 | .clos _ n::ps,i,0,st=>(Wt st.env i).getD (.tup [])::WF ps (i+1) n st
 | .kv _ _::ps,i,0,st=>(Wt st.env i).getD (.tup [])::WF ps (i+1) 0 st
 | .rp _::ps,i,0,st=>.tup []::WF ps (i+1) 0 st
 | .vj _::ps,i,0,st=>.tup []::WF ps (i+1) 0 st
 | .boxal _ _::ps,i,0,st=>(Wt st.env i).getD (.tup []):: .tup []::WF ps (i+2) 0 st
def W3:(b:List PTy)->List AVal->aa->Option (OutK (cT b))
 | [],_,_=>some ⟨(),[],[],[]⟩
 | .v _ _::b,a,objs=>(W3 b a.tail objs).map λA=>⟨A.d,A.kept,A.moved,A.lent⟩
 | .box t::b,a,objs=>match a with
  | .s (.one (.ptr id 0))::a=>match Wt objs id with
   |some (.box c)=>match aC t c objs,W3 b a objs with
    |some (d,m,l),some A=>some ⟨(d,A.d),id::A.kept,m++A.moved,l++A.lent⟩
    |_,_=>none
   |_=>none
  |_=>none
 | .mut e::b,a,objs=>match a with
  | .s (.one (.own id))::a=>match Wt objs id with
   |some (.arr e' ys)=>match iZ e' e ys,W3 b a objs with
    |some d,some A=>some ⟨(d,A.d),id::A.kept,A.moved,A.lent⟩
    |_,_=>none
   |_=>none
  |_=>none
 | .clos g n::b,a,objs=>match a with
  | .s (.one (.clos g' caps))::a=>if g'=g/\caps.length=n then(W3 b (da caps++a) objs).map λA=>⟨A.d,A.kept,A.moved,A.lent⟩else none
  |_=>none
 | .kv t agg::b,a,objs=>match a with
  |x::a=>match(cellsOf agg x).bind λc=>aC t c objs,W3 b a objs with
   |some (d,m,l),some A=>if DD objs t m x then some ⟨(d,A.d),m++A.kept,A.moved,l++A.lent⟩else none
   |_,_=>none
  |_=>none
 | .rp _::b,a,objs=>(W3 b a.tail objs).map λA=>⟨A.d,A.kept,A.moved,A.lent⟩
 | .vj _::_,_,_=>none
 | .boxal t _::b,a,objs=>match a with
  | .s (.one (.ptr id 0))::_::a=>match Wt objs id with
   |some (.box c)=>match aC t c objs,W3 b a objs with
    |some (d,m,l),some A=>some ⟨(d,A.d),id::A.kept,m++A.moved,l++A.lent⟩
    |_,_=>none
   |_=>none
  |_=>none
def NA{R:Type}(T:Tab)(sg:Sig)(rv:List ResultVar)(k:cT sg.ps×db sg.rs->Option R)(e:Ex)(st:St):Option R:=
 match e with
 | .exit _=>none
 |_=>match iO T st rv with
  |some xs=>match eZ sg.rs xs st.objs,W3 sg.ps (WF sg.ps 0 0 st) st.objs with
   |some A,some B=>if d8 (B.kept++(B.moved++A.moved))&&gZ (A.lent++B.lent) (B.kept++(B.moved++A.moved))then k (B.d,A.d)else none
   |_,_=>none
  |none=>none
noncomputable def den{R:Type}(T:Tab)(Γ:Ctx)(a:Nat->List Ghost)(N:Nat)(sg:Sig)(f:Func)(d:cu sg.ps)(k:cT sg.ps×db sg.rs->Option R):Option R:=
 let x:=WU sg.ps d [] 0
 match f.body,fc (a 1000000) {env:=jF 0 x.1,objs:=x.2.1,nx:=x.2.2}with
 |some c,some (b,st)=>bif b then sx T Γ a N c st (NA T sg f.results.toList k)else none
 |_,_=>none
def kA:List PTy->Nat->Nat->List Nat
 | [],_,_=>[]
 |_::ps,i,k+1=>kA ps i k
 | .v _ _::ps,i,0=>kA ps (i+1) 0
 | .box _::ps,i,0=>i::kA ps (i+1) 0
 | .mut _::ps,i,0=>i::kA ps (i+1) 0
 | .clos _ n::ps,i,0=>i::kA ps (i+1) n
 | .kv _ _::ps,i,0=>i::kA ps (i+1) 0
 | .rp _::ps,i,0=>kA ps (i+1) 0
 | .vj _::ps,i,0=>kA ps (i+1) 0
 | .boxal _ _::ps,i,0=>i::kA ps (i+2) 0
def eK:List PTy->Nat
 | []=>0
 | .v _ _::ps=>eK ps+1
 | .box _::ps=>eK ps+1
 | .mut _::ps=>eK ps+1
 | .clos _ _::ps=>eK ps+1
 | .kv _ _::ps=>eK ps+1
 | .rp _::ps=>eK ps+1
 | .vj _::ps=>eK ps+1
 | .boxal _ _::ps=>eK ps+2
def zy:List PTy->Nat->Bool
 |_,0=>true
 | .box _::ps,n+1=>zy ps n
 |_,_+1=>false
def fG:List PTy->Bool
 | []=>true
 | .clos _ n::ps=>zy ps n&&fG ps
 | .v _ _::ps=>fG ps
 | .box _::ps=>fG ps
 | .mut _::ps=>fG ps
 | .kv _ _::ps=>fG ps
 | .rp _::ps=>fG ps
 | .vj _::ps=>fG ps
 | .boxal _ _::ps=>fG ps
theorem tV{α:Type}{R:α->List Value->Prop}{n:Nat}(h:∀x c,R x c->c.length=n):
  ∀(l:List α) (cs:List Value),bG R l cs->cs.length=l.length*n
 | [],cs,e=>by grind [bG]
 |x::l,cs,e=>by
  obtain⟨f,a,rfl,b,d⟩:=e;have:=tV h l a d;rw[Xz,h _ _ b,this,Xs,eY,pT]
theorem TM{α:Type}{R R':α->List Value->Prop}(h:∀x c,R x c->R' x c):
  ∀(l:List α) (cs:List Value),bG R l cs->bG R' l cs
 | [],_,e=>e
 |_::l,_,⟨b,a,g,d,f⟩=>⟨b,a,g,h _ _ d,TM h l a f⟩
theorem Ff{α:Type}{R:α->List Value->Prop}:∀(l a:List α) (cs dj:List Value),bG R l cs->bG R a dj->bG R (l++a) (cs++dj)
 | [],_,cs,dj,e,e'=>by grind [bG]
 |x::l,a,_,dj,⟨c,b,g,d,f⟩,e'=>⟨c,b++dj,by simp[g],d,Ff l a b dj f e'⟩
theorem LU{α:Type}{R:α->List Value->Prop}{n:Nat}(h:∀x c,R x c->c.length=n):
  ∀(l:List α) (cs:List Value) (i:Nat) (x:α),bG R l cs->l[i]?=some x->R x ((cs.drop (i*n)).take n)
 | [],_,_,_,_,hi=>by simp at hi
 |y::l,cs,0,x,⟨e,a,d,b,_⟩,hi=>by
  grind
 |y::l,cs,i+1,x,⟨e,a,d,b,f⟩,hi=>by
  have g:=h _ _ b;have:=LU h l a i x f (by simp_all);rw[d,eY,pT,←AE,List.drop_left' g];exact this
theorem C9{α:Type}{R:α->List Value->Prop}{n:Nat}(h:∀x c,R x c->c.length=n):
  ∀(l:List α) (cs:List Value) (m:Nat),bG R l cs->bG R (l.take m) (cs.take (m*n))
 | [],cs,m,e=>by grind [bG]
 |x::l,cs,0,_=>by simp[bG]
 |x::l,cs,m+1,⟨d,a,g,b,f⟩=>by
  have i:=h _ _ b;refine⟨d,a.take (m*n),?_,b,C9 h l a m f⟩;rw[g,eY,pT,←i,Yv]
theorem C8{α:Type}{R:α->List Value->Prop}{n:Nat}(h:∀x c,R x c->c.length=n):
  ∀(l:List α) (cs:List Value) (m:Nat),bG R l cs->bG R (l.drop m) (cs.drop (m*n))
 | [],cs,m,e=>by grind [bG]
 |x::l,cs,0,e=>by grind
 |x::l,cs,m+1,⟨f,a,g,b,d⟩=>by
  have i:=h _ _ b;have:=C8 h l a m d
  grind [bG,eY,pT,AE,YJ]
theorem LY{α:Type}{R:α->List Value->Prop}{n:Nat}(h:∀x c,R x c->c.length=n):
  ∀(l:List α) (cs:List Value) (i:Nat) (x:α) (a:List Value),bG R l cs->i<l.length->R x a->
   bG R (l.set i x) (cs.take (i*n)++a++cs.drop (i*n+n))
 | [],_,_,_,_,_,k,_=>by simp at k
 |y::l,cs,0,x,a,⟨d,e,j,b,f⟩,_,g=>by
  have m:=h _ _ b;refine⟨a,e,?_,g,f⟩;simp_all
 |y::l,cs,i+1,x,a,⟨d,e,j,b,f⟩,k,g=>by
  have m:=h _ _ b;refine⟨d,_,?_,b,LY h l e i x a f (by simp_all) g⟩;have o:(i+1)*n=d.length+i*n:=by rw[eY,m,pT]
  rw[j,o,Yv,dB,←AE,YJ];simp
theorem c0{G:GH}:∀(t:Ty) (d:t.den) (cs:List Value),Enc G t d cs->cs.length=t.size
 | .int _,_,_,h=>by grind [Enc,Ty.size]
 | .bool,_,_,h=>by grind [Enc,Ty.size]
 | .str,_,_,h=>by grind [Enc,Ty.size]
 | .slice _,_,_,h=>by obtain⟨v,rfl,_⟩:=h;simp[Ty.size]
 | .own _,_,_,h=>h.elim
 | .prod a b,d,_,h=>by
  obtain⟨f,g,rfl,c,e⟩:=h;rw[Xz,c0 a _ _ c,c0 b _ _ e,Ty.size]
def GLe(G G':GH):Prop:=∀b o v,G b o=some v->G' b o=some v
theorem RK{G G':GH}(h:GLe G G'){b o:Nat}{cs:List Value}(c:m9 G b o cs):m9 G' b o cs:=λj v a=>h _ _ _ (c j v a)
theorem iq{G G':GH}(h:GLe G G'):∀(t:Ty) (d:t.den) (cs:List Value),Enc G t d cs->Enc G' t d cs
 | .int _,_,_,e=>e
 | .bool,_,_,e=>e
 | .str,_,_,e=>e
 | .slice e,d,cs,hh=>by
  obtain⟨v,s,f⟩:=hh;refine⟨v,s,?_⟩;rcases f with f|⟨b,k,g,n,i,j,o,p,q⟩|f
  .exact .inl f
  rotate_left
  .exact .inr (.inr f)
  .exact .inr<| .inl ⟨b,k,g,n,i,j,o,TM (λx c u=>iq h e x c u) _ _ p,RK h q⟩
 | .own _,_,_,e=>e
 | .prod a b,d,_,⟨l,m,r,i,j⟩=>⟨l,m,r,iq h a _ _ i,iq h b _ _ j⟩
section
variable{G:GH}{ν:Nat->Nu}{nx:Nat}
theorem CellsRel.nil:CellsRel G ν nx [] []:=⟨rfl,λj c v h=>by simp at h⟩
theorem CellsRel.append{cs dj:List Cell}{vs d:List Value}(h:CellsRel G ν nx cs vs)(e:CellsRel G ν nx dj d):
  CellsRel G ν nx (cs++dj) (vs++d):=by
 refine⟨by simp[h.1,e.1],λj c v b a=>?_⟩;rw[eW]at b a;rw[h.1]at a;split at b
 .rename_i ae;rw[Wf ae]at a;exact h.2 j c v b a
 .rename_i ae;rw[We ae]at a;exact e.2 _ c v b a
theorem CellsRel.take{cs:List Cell}{vs:List Value}(h:CellsRel G ν nx cs vs)(n:Nat):CellsRel G ν nx (cs.take n) (vs.take n):=by
 refine⟨by simp[h.1],λj c v a b=>?_⟩;rw[lm]at a b;split at a
 .rename_i ae;rw[Wf ae]at b;exact h.2 j c v a b
 grind
theorem CellsRel.drop{cs:List Cell}{vs:List Value}(h:CellsRel G ν nx cs vs)(n:Nat):CellsRel G ν nx (cs.drop n) (vs.drop n):=by
 refine⟨by simp[h.1],λj c v a b=>?_⟩;rw[li]at a b;exact h.2 _ c v a b
theorem CellsRel.one{c:Cell}{v:Value}(h:CellRel G ν nx c v)(a:v.oneCell'=true):CellsRel G ν nx [c] [v]:=by
 refine⟨rfl,λj b f d e=>?_⟩
 grind
theorem ie:∀(t:Ty) (d:t.den) (vs:List Value),Enc G t d vs->CellsRel G ν nx (split t d) vs
 | .int k,d,vs,h=>by have c:=h;simp only[Enc]at c;subst c;exact CellsRel.one h rfl
 | .bool,d,vs,h=>by have c:=h;simp only[Enc]at c;subst c;exact CellsRel.one h rfl
 | .str,d,vs,h=>by have c:=h;simp only[Enc]at c;subst c;exact CellsRel.one h rfl
 | .slice e,d,vs,h=>by
  obtain⟨v,rfl,f⟩:=h;refine CellsRel.one ⟨v,rfl,f⟩ ?_;rcases f with⟨rfl,_⟩|⟨_,_,_,_,rfl,_⟩|⟨_,_,rfl,_⟩<;>rfl
 | .own _,_,_,h=>h.elim
 | .prod a b,d,vs,⟨l,m,j,g,i⟩=>by
  subst j;exact(ie a _ _ g).append (ie b _ _ i)
end
def my(nx:Nat)(ν ν':Nat->Nu):Prop:=∀a,a<nx->ν' a=ν a
section
variable{G G':GH}{ν ν':Nat->Nu}{nx aq:Nat}
theorem CellRel.mono(n:GLe G G')(k:my nx ν ν')(l:nx<=aq):
  ∀(c:Cell) (v:Value),CellRel G ν nx c v->CellRel G' ν' aq c v
 | .val t d,v,h=>iq n t d _ h
 | .nils,_,h=>h
 | .own g,v,⟨a,e⟩=>⟨lh a l,by rw[k g a];exact e⟩
 | .vw g lo hi,v,⟨a,e⟩=>⟨lh a l,by rw[k g a];exact e⟩
 | .aptr g,v,⟨a,e⟩=>⟨lh a l,by rw[k g a];exact e⟩
 | .ptr g off,v,⟨a,e⟩=>⟨lh a l,by rw[k g a];exact e⟩
 | .eptr g i off,v,⟨a,e⟩=>⟨lh a l,by rw[k g a];exact e⟩
 | .rptr t d off,v,⟨b,o,q,a,e,m⟩=>⟨b,o,q,a,iq n t d _ e,RK n m⟩
 | .clos f caps,v,⟨y,a,e,m⟩=>⟨y,a,e,λj g u w x=>by
   obtain⟨p,s,r⟩:=m j g u w x;exact⟨lh p l,s,by rw[k g p];exact r⟩⟩
 | .junk,_,_=>trivial
theorem CellsRel.mono(d:GLe G G')(e:my nx ν ν')(f:nx<=aq){cs:List Cell}{vs:List Value}(h:CellsRel G ν nx cs vs):CellsRel G' ν' aq cs vs:=
 ⟨h.1,λj c v a b=>⟨CellRel.mono d e f c v (h.2 j c v a b).1,(h.2 j c v a b).2⟩⟩
theorem AvRel.mono(a:GLe G G')(b:my nx ν ν')(d:nx<=aq):∀(x:AV) (v:Value),AvRel G ν nx x v->AvRel G' ν' aq x v
 | .one c,v,h=>⟨CellRel.mono a b d c v h.1,h.2⟩
 | .agg cs,v,⟨f,e,h⟩=>⟨f,e,h.mono a b d⟩
theorem AValRel.mono(a:GLe G G')(b:my nx ν ν')(c:nx<=aq):∀(x:AVal) (v:Value),AValRel G ν nx x v->AValRel G' ν' aq x v
 | .s x,v,h=>AvRel.mono a b c x v h
 | .tup xs,v,⟨i,d,e,h⟩=>⟨i,d,e,λj x u g f=>AvRel.mono a b c x u (h j x u g f)⟩
end
theorem Dz(nu:Nu):nu.hdr.oneCell'=true:=by unfold Nu.hdr;split<;>rfl
theorem UQ(nu:Nu)(lo hi:Nat):(nu.vhdr lo hi).oneCell'=true:=by unfold Nu.vhdr;split<;>rfl
section
variable{α:Type}{R R':α->List Value->List Pc->Prop}
theorem gO{n:Nat}(h:∀x c p,R x c p->c.length=n):∀(l:List α) (cs:List Value) (a:List Pc),cq R l cs a->cs.length=l.length*n
 | [],cs,a,e=>by simp[e.1]
 |x::l,cs,a,⟨j,b,m,i,g,k,d,f⟩=>by
  rw[g,Xz,h _ _ _ d,gO h l b i f,Xs,eY,pT]
theorem oY{Q:Pc->Prop}(h:∀x c p,(∀q∈p,Q q)->R x c p->R' x c p):∀(l:List α) (cs:List Value) (b:List Pc),(∀q∈b,Q q)->cq R l cs b->cq R' l cs b
 | [],_,_,_,e=>e
 |_::l,_,_,f,⟨i,d,o,g,m,n,j,k⟩=>by
  subst n;exact⟨i,d,o,g,m,rfl,h _ _ _ (λq a=>f q (Xo _ a)) j,oY h l d g (λq a=>f q (Xi _ a)) k⟩
theorem Fi:∀(l b:List α) (cs dj:List Value) (c a:List Pc),cq R l cs c->cq R b dj a->cq R (l++b) (cs++dj) (c++a)
 | [],_,cs,dj,c,a,e,e'=>by obtain⟨rfl,rfl⟩:=e;exact e'
 |x::l,b,_,dj,_,a,⟨g,d,m,f,j,k,h,i⟩,e'=>⟨g,d++dj,m,f++a,by simp[j],by simp[k],h,Fi l b d dj f a i e'⟩
theorem Sv:∀(l b:List α) (cs:List Value) (d:List Pc),cq R (l++b) cs d->∃a f c g,cs=a++f/\d=c++g/\cq R l a c/\cq R b f g
 | [],b,cs,d,e=>⟨[],cs,[],d,rfl,rfl,⟨rfl,rfl⟩,e⟩
 |x::l,b,cs,d,⟨a,f,c,g,s,t,n,o⟩=>by
  obtain⟨h,j,i,p,q,r,k,m⟩:=Sv l b f g o;exact⟨a++h,j,c++i,p,by grind,by grind,⟨a,h,c,i,rfl,rfl,n,k⟩,m⟩
theorem UR{x:α}{cs:List Value}{ps:List Pc}:cq R [x] cs ps↔R x cs ps:=by
 constructor
 .rintro⟨a,b,i,j,f,g,c,d,e⟩;simp_all
 .intro h;exact⟨cs,[],ps,[],by simp,by simp,h,rfl,rfl⟩
theorem C6(l:List α)(cs:List Value)(d:List Pc)(n:Nat)(h:cq R l cs d):∃a b c p2,cs=a++b/\d=c++p2/\cq R (l.take n) a c/\cq R (l.drop n) b p2:=
 Sv _ _ _ _ (by simp_all)
theorem MQ{l:List α}{cs:List Value}{g:List Pc}{i:Nat}(h:cq R l cs g)(d:α)(hi:i<l.length):
  ∃a c b f p p2,cs=a++(c++b)/\g=f++(p++p2)/\cq R (l.take i) a f/\R (l.getD i d) c p/\cq R (l.drop (i+1)) b p2:=by
 obtain⟨a,k,f,u,m,n,o,j⟩:=C6 l cs g i h;have e:l.drop i=l.getD i d::l.drop (i+1):=by
  simp_all
 rw[e]at j;obtain⟨c,b,p,p2,q,r,s,t⟩:=j
 grind
theorem UE{l:List α}{d c a:List Value}{f p b:List Pc}{i:Nat}{x:α}(hi:i<l.length)(g:cq R (l.take i) d f)(h:R x c p)(j:cq R (l.drop (i+1)) a b):
  cq R (l.set i x) (d++(c++a)) (f++(p++b)):=by
 have e:l.set i x=l.take i++(x::l.drop (i+1)):=by
  rw[Yi,Wf hi]
 rw[e];exact Fi _ _ _ _ _ _ g ⟨c,a,p,b,rfl,rfl,h,j⟩
end
section
variable{G G':GH}{w w':World}
theorem WI:∀(t:Ty) (d:t.den) (vs:List Value) (c:List Pc),WC G w t d vs c->vs.length=t.size
 | .own e,n,vs,c,⟨p,_,h,_⟩=>by rw[h];rfl
 | .prod a b,d,vs,c,⟨v1,v2,l,m,f,j,g,i⟩=>by
  rw[f,Xz,WI a _ _ _ g,WI b _ _ _ i];rfl
 | .int k,d,vs,c,h=>c0 _ _ _ h.2
 | .bool,d,vs,c,h=>c0 _ _ _ h.2
 | .str,d,vs,c,h=>c0 _ _ _ h.2
 | .slice e,d,vs,c,h=>c0 _ _ _ h.2
theorem W9:∀(t:Ty) (d:t.den) (vs:List Value) (c:List Pc),WC G w t d vs c->c.length=t.owns
 | .own e,o,vs,c,⟨n,h,_⟩=>by rw[h];rfl
 | .prod a b,d,vs,c,⟨v1,v2,l,m,j,f,g,i⟩=>by rw[f,Xz,W9 a _ _ _ g,W9 b _ _ _ i];rfl
 | .int k,d,vs,c,h=>by rw[h.1];rfl
 | .bool,d,vs,c,h=>by rw[h.1];rfl
 | .str,d,vs,c,h=>by rw[h.1];rfl
 | .slice e,d,vs,c,h=>by rw[h.1];rfl
theorem mT:∀(t:Ty) (d:t.den) (vs:List Value) (c:List Pc),t.data=true->(WC G w t d vs c↔Enc G t d vs/\c= [])
 | .own e,r,vs,c,h=>by simp[Ty.data]at h
 | .prod a b,d,vs,c,h=>by
  simp only[Ty.data,Xh]at h;constructor
  .rintro⟨v1,v2,p,q,f,j,g,i⟩;obtain⟨l,n⟩:=(mT a _ _ _ h.1).1 g;obtain⟨m,o⟩:=(mT b _ _ _ h.2).1 i;exact⟨⟨v1,v2,f,l,m⟩,by simp_all⟩
  .rintro⟨⟨v1,v2,f,j,g⟩,i⟩;exact⟨v1,v2,[],[],f,i,(mT a _ _ _ h.1).2 ⟨j,rfl⟩,(mT b _ _ _ h.2).2 ⟨g,rfl⟩⟩
 | .int k,d,vs,c,_=>⟨λh=>⟨h.2,h.1⟩,λh=>⟨h.2,h.1⟩⟩
 | .bool,d,vs,c,_=>⟨λh=>⟨h.2,h.1⟩,λh=>⟨h.2,h.1⟩⟩
 | .str,d,vs,c,_=>⟨λh=>⟨h.2,h.1⟩,λh=>⟨h.2,h.1⟩⟩
 | .slice e,d,vs,c,_=>⟨λh=>⟨h.2,h.1⟩,λh=>⟨h.2,h.1⟩⟩
theorem qx{e:Ty}(a:e.data=true):∀(xs:List e.den) (cs:List Value) (b:List Pc),cq (WC G w e) xs cs b↔bG (Enc G e) xs cs/\b= []
 | [],cs,b=>Iff.rfl
 |x::xs,cs,b=>by
  constructor
  .rintro⟨c,d,n,o,f,i,g,h⟩;obtain⟨j,l⟩:=(mT e _ _ _ a).1 g;obtain⟨k,m⟩:=(qx a xs _ _).1 h;exact⟨⟨c,d,f,j,k⟩,by simp_all⟩
  .rintro⟨⟨c,d,f,i,g⟩,h⟩;exact⟨c,d,[],[],f,h,(mT e _ _ _ a).2 ⟨i,rfl⟩,(qx a xs _ _).2 ⟨g,rfl⟩⟩
structure Same(S:CS)(w w':World):Prop where
 row:∀b n,Row w b n->Row w' b n
 cell:∀b o,S b o->w'.cell? ⟨b,o,none⟩=w.cell? ⟨b,o,none⟩
theorem Same.mono{S a:CS}(h:Same S w w')(c:CS.le a S):Same a w w':=⟨h.row,λb o d=>h.cell b o (c b o d)⟩
theorem Mem.same{S:CS}(h:Same S w w'){b o n:Nat}{cs:List Value}(c:Mem w b o cs)(f:cs.length<=n)(d:CS.le (rng b o n) S):Mem w' b o cs:=λj v a=>by
 have e:j<cs.length:=(dp.1 a).1;rw[h.cell b (o+j) (d _ _ ⟨rfl,by omega,by omega⟩)];exact c j v a
theorem Ge{α:Type}{R R':α->List Value->List Pc->Prop}{n:Nat}{nu:Nu}{xs:List α}{S S':CS}(u:∀x c p,R x c p->c.length=n)(h:Same S w w')(g:CS.le S S')
  (y:∀x c p,(∀q∈p,CS.le q.fp S)->R x c p->R' x c p) (z:ah w R n nu xs S):ah w' R' n nu xs S':=by
 obtain⟨j,k,d⟩:=z;refine⟨j,k,?_⟩;cases hb:nu.blk with
 |none=>simp_all
 |some b=>
  simp only[hb]at d;obtain⟨e,l,m,i,C,f,r,t,a⟩:=d;have D:=gO u _ _ _ f;have E:xs.length*n<=nu.cap*n:=fO _ e;exact⟨e,l,h.row _ _ m,i,C,oY (Q:=λq=>CS.le q.fp S) y _ _ _ (λq A=>a _ (Xg _ (eB A))) f,r.same h (n:=nu.cap*n) (by omega) (a _ (Xl ..)),t,λs B b o v=>g b o (a s B b o v)⟩
theorem kq(g:GLe G G'):∀(t:Ty) (d:t.den) (vs:List Value) (f:List Pc),(∀p∈f,Same p.fp w w')->WC G w t d vs f->WC G' w' t d vs f
 | .own e,C,vs,f,i,⟨p,j,l,m⟩=>by
  subst j;have r:=i p (cw.2 rfl);exact⟨p,rfl,l,Ge (λx c q o=>WI e x c q o) r (λ_ _ u=>u) (λx c q v o=>kq g e x c q (λB A=>r.mono (v B A)) o) m⟩
 | .prod a b,d,vs,f,i,⟨v1,v2,y,z,j,l,m,s⟩=>by
  subst l;exact⟨v1,v2,y,z,j,rfl,kq g a _ _ _ (λp n=>i p (Xo _ n)) m,kq g b _ _ _ (λp n=>i p (Xi _ n)) s⟩
 | .int k,d,vs,f,_,h=>⟨h.1,iq g _ _ _ h.2⟩
 | .bool,d,vs,f,_,h=>⟨h.1,iq g _ _ _ h.2⟩
 | .str,d,vs,f,_,h=>⟨h.1,iq g _ _ _ h.2⟩
 | .slice e,d,vs,f,_,h=>⟨h.1,iq g _ _ _ h.2⟩
theorem Same.refl(S:CS)(w:World):Same S w w:=⟨λ_ _ h=>h,λ_ _ _=>rfl⟩
theorem tZ(d:GLe G G'){e:Ty}{nu:Nu}{xs:List e.den}{S S':CS}(h:Same S w w')(b:CS.le S S')(f:ah w (WC G w e) e.size nu xs S):ah w' (WC G' w' e) e.size nu xs S':=
 Ge (λx c q a=>WI e x c q a) h b (λx c q g a=>kq d e x c q (λj i=>h.mono (g j i)) a) f
theorem SU(m:GLe G G'){e:Ty}{nu p:Nu}{xs:List e.den}{i:Nat}{S S':CS}(h:Same S w w')(r:CS.le S S')(L:kQ w (WC G w e) e.size nu p xs i S):kQ w' (WC G' w' e) e.size nu p xs i S':=by
 obtain⟨A,B,C,b,D,E,F,H,I,J,t,u,P,R,k,l,v,y,z,d⟩:=L;have N:=gO (λx c q a=>WI e x c q a) _ _ _ k;have O:=gO (λx c q a=>WI e x c q a) _ _ _ l;rw[dA,lB (by omega)]at N;rw[D9]at O;have T:(xs.length-(i+1))*e.size<=(nu.cap-(i+1))*e.size:=fO _ (by omega);refine⟨A,B,C,b,D,E,F,H,I,h.row _ _ J,t,u,P,R,?_,?_,?_,?_,z,λs M b o K=>r b o (d s M b o K)⟩
 .exact oY (Q:=λq=>CS.le q.fp S) (λx c q f a=>kq m e x c q (λj g=>h.mono (f j g)) a) _ _ _ (λq f=>d _ (by grind)) k
 .exact oY (Q:=λq=>CS.le q.fp S) (λx c q f a=>kq m e x c q (λj g=>h.mono (f j g)) a) _ _ _ (λq f=>d _ (by grind)) l
 .exact v.same h (n:=i*e.size) (by omega) (d _ (Xl ..))
 .exact y.same h (n:=(nu.cap-(i+1))*e.size) (by omega) (d _ (Xg _ (Xl ..)))
theorem C1(l:GLe G G'){ν ν':Nat->Nu}{nx aq a:Nat}{S f:CS}(h:Same S w w')(g:CS.le S f)(c:my nx ν ν')(x:nx<=aq)(d:a<nx):
  ∀(q:Ob),dt G ν nx w a S q->dt G' ν' aq w' a f q
 | .dead,_=>trivial
 | .box cs,⟨b,y,r,s,t,j,k⟩=>by
  refine⟨b,y,by rw[c a d];exact r,by rw[c a d];exact h.row _ _ s,by rw[c a d];exact t.same h (n:=cs.length) (by rw[j.1];omega) k,j.mono l c x,by rw[c a d];exactλb o u=>g b o (k b o u)⟩
 | .arr e xs,m=>by
  show ah w' (WC G' w' e) e.size (ν' a) xs f;rw[c a d];exact tZ l h g m
 | .hole e xs i p,⟨v,m⟩=>by
  show p<aq/\kQ w' (WC G' w' e) e.size (ν' a) (ν' p) xs i f;rw[c a d,c p v];grind [lh,SU]
theorem F7{ν:Nat->Nu}{nx:Nat}:∀(t:Ty) (d:t.den) (vs:List Value) (c:List Pc),WC G w t d vs c->CellsRel G ν nx (split t d) vs
 | .own e,d,vs,c,⟨p,_,h,_⟩=>by rw[h];exact CellsRel.one trivial (Dz _)
 | .prod a b,d,vs,c,⟨v1,v2,l,m,f,j,g,i⟩=>by
  rw[f];exact(F7 a _ _ _ g).append (F7 b _ _ _ i)
 | .int k,d,vs,c,h=>ie _ _ _ h.2
 | .bool,d,vs,c,h=>ie _ _ _ h.2
 | .str,d,vs,c,h=>ie _ _ _ h.2
 | .slice e,d,vs,c,h=>ie _ _ _ h.2
theorem Wua{A a B b:Type}(c:A=a)(e:B=b)(h:(A×B)=(a×b))(d:A×B):cast h d=(cast c d.1,cast e d.2):=by
 grind
theorem Wr1{A a:Type}(b:A=a)(h:List A=List a)(x:A)(l:List A):cast h (x::l)=cast b x::cast h l:=by
 grind
theorem Wuq{A a:Type}(b:A=a)(h:List A=List a):cast h ([]:List A)= []:=by
 grind
theorem Wpn{A a:Type}(b:A=a)(h:List A=List a)(l:List A):(cast h l).length=l.length:=by
 grind
theorem Ws6(a b:Ty)(d:(Ty.prod a b).den):rF (.prod a b) d=(rF a d.1,rF b d.2):=Wua (kI a).symm (kI b).symm _ d
theorem WrC(e:Ty)(x:e.den)(l:List e.den):du e (x::l)=rF e x::du e l:=Wr1 (kI e).symm _ x l
theorem Tp(e:Ty):du e []= []:=Wuq (kI e).symm _
theorem FX(e:Ty)(l:List e.den):(du e l).length=l.length:=Wpn (kI e).symm _ l
theorem gX:∀t:Ty,t.ro.size=t.size
 | .prod a b=>by simp only[Ty.ro,Ty.size,gX a,gX b]
 | .own _| .slice _| .int _| .bool| .str=>rfl
theorem Mz:∀t:Ty,t.ro.data=true
 | .prod a b=>by simp only[Ty.ro,Ty.data,Mz a,Mz b];rfl
 | .own _| .slice _| .int _| .bool| .str=>rfl
def Froz(G:GH)(w:World)(S:CS):Prop:=∀b o v,S b o->w.cell? ⟨b,o,none⟩=some v->G b o=some v
theorem Froz.mono{G:GH}{S S':CS}(h:Froz G w S)(a:CS.le S' S):Froz G w S':=λb o v c=>h b o v (a b o c)
theorem Mem.stored{b o n:Nat}{cs:List Value}(d:Mem w b o cs)(f:cs.length<=n)(c:Froz G w (rng b o n)):m9 G b o cs:=λj v a=>by
 have e:j<cs.length:=(dp.1 a).1;exact c b (o+j) v ⟨rfl,by omega,by omega⟩ (d j v a)
theorem Gl{e:Ty}(g:∀(x:e.den) (c:List Value) (p:List Pc),(∀q∈p,Froz G' w q.fp)->WC G w e x c p->Enc G' e.ro (rF e x) c):
  ∀(xs:List e.den) (cs:List Value) (a:List Pc),(∀q∈a,Froz G' w q.fp)->cq (WC G w e) xs cs a->bG (Enc G' e.ro) (du e xs) cs
 | [],cs,a,_,h=>by rw[Tp];exact h.1
 |x::xs,cs,a,i,⟨d,f,n,o,j,k,l,m⟩=>by
  subst k;rw[WrC];exact⟨d,f,j,g x d n (λq b=>i q (Xo _ b)) l,Gl g xs f o (λq b=>i q (Xi _ b)) m⟩
theorem VI{e:Ty}(o:∀(x:e.den) (c:List Value) (p:List Pc),(∀q∈p,Froz G' w q.fp)->WC G w e x c p->Enc G' e.ro (rF e x) c){nu:Nu}{xs:List e.den}{S:CS}
  (i:Froz G' w S) (h:ah w (WC G w e) e.size nu xs S):nD G' (Enc G' e.ro) (du e xs) nu.hdr:=by
 obtain⟨j,u,a⟩:=h;unfold Nu.hdr;cases hb:nu.blk with
 |none=>simp only[hb]at a;exact .inl ⟨rfl,by rw[a,Tp]⟩
 |some b=>
  simp only[hb]at a;obtain⟨k,l,v,f,t,g,m,y,d⟩:=a;have z:=gO (λx c q s=>WI e x c q s) _ _ _ g;have A:xs.length*e.size<=nu.cap*e.size:=fO _ k;refine .inr (.inl ⟨b,nu.off,nu.cap,f,by rw[FX,j],by grind [FX],l,Gl o xs f t (λq r=>i.mono (d _ (Xg _ (eB r)))) g,?_⟩);exact m.stored (n:=nu.cap*e.size) (by omega) (i.mono (d _ (Xl ..)))
theorem tW(g:GLe G G'):∀(t:Ty) (d:t.den) (vs:List Value) (f:List Pc),(∀p∈f,Froz G' w p.fp)->WC G w t d vs f->Enc G' t.ro (rF t d) vs
 | .own e,y,vs,f,i,⟨p,j,l,m⟩=>by
  subst j;exact⟨_,l,VI (λx c q r s=>tW g e x c q r s) (i p (cw.2 rfl)) m⟩
 | .prod a b,d,vs,f,i,⟨v1,v2,u,v,j,l,m,o⟩=>by
  subst l;rw[Ws6];exact⟨v1,v2,j,tW g a _ _ _ (λp n=>i p (Xo _ n)) m,tW g b _ _ _ (λp n=>i p (Xi _ n)) o⟩
 | .int k,d,vs,f,_,h=>iq g (.int k) _ _ h.2
 | .bool,d,vs,f,_,h=>iq g .bool _ _ h.2
 | .str,d,vs,f,_,h=>iq g .str _ _ h.2
 | .slice e,d,vs,f,_,h=>iq g (.slice e) _ _ h.2
theorem Lp(b:GLe G G'){e:Ty}{nu:Nu}{xs:List e.den}{S:CS}(a:Froz G' w S)(h:ah w (WC G w e) e.size nu xs S):nD G' (Enc G' e.ro) (du e xs) nu.hdr:=
 VI (λx c q d f=>tW b e x c q d f) a h
theorem VB{b:Nat}{vs:Array Value}{T:TypeId}(h:w.heap[b]?=some (Obj.cells vs T (0,0))){o:Nat}{cs:List Value}(a:∀j v,cs[j]?=some v->vs.toList[o+j]?=some v):Mem w b o cs:=λj v c=>by
 grind [cell_of_row]
theorem Mem.left{b o:Nat}{c1 a:List Value}(h:Mem w b o (c1++a)):Mem w b o c1:=λj v c=>h j v (by grind)
theorem Mem.right{b o n:Nat}{a c2:List Value}(h:Mem w b o (a++c2))(d:a.length=n):Mem w b (o+n) c2:=λj v c=>by
 have:=h (n+j) v (by grind)
 grind
theorem Mem.app{b o n:Nat}{a d:List Value}(e:Mem w b o a)(f:Mem w b (o+n) d)(g:a.length=n):Mem w b o (a++d):=λj v c=>by
 rw[eW]at c;split at c
 .exact e j v c
 .rename_i ae;have:=f (j-a.length) v c
  grind
theorem WsY{e:Ty}{nu:Nu}{xs:List e.den}{S:CS}{b i:Nat}(h:ah w (WC G w e) e.size nu xs S)(m:nu.blk=some b)(hi:i<xs.length):
  ∃c p,WC G w e (xs.getD i e.dflt) c p/\Mem w b (nu.off+i*e.size) c:=by
 obtain⟨y,z,a⟩:=h;simp only[m]at a;obtain⟨A,B,C,t,H,l,d,D,s⟩:=a;obtain⟨o,c,r,E,p,F,g,u,j,k,v⟩:=MQ l e.dflt hi;refine⟨c,p,k,?_⟩;rw[g]at d;have f:=gO (λx c q n=>WI e x c q n) _ _ _ j;rw[dA,lB (by omega)]at f;exact(d.right f).left
theorem yE{e:Ty}(i:e.data=true){nu:Nu}{xs:List e.den}{S:CS}{b:Nat}(h:ah w (WC G w e) e.size nu xs S)(g:nu.blk=some b):
  xs.length=nu.len/\xs.length<=nu.cap/\nu.cap<=maxLen/\Row w b (nu.off+nu.cap*e.size)/\∃a,bG (Enc G e) xs a/\Mem w b nu.off a/\CS.le (rng b nu.off (nu.cap*e.size)) S:=by
 obtain⟨c,d,f⟩:=h
 grind [qx,Xl]
theorem SX{e:Ty}(k:e.data=true){nu:Nu}{xs:List e.den}{S:CS}{b:Nat}{cs:List Value}(j:nu.blk=some b)(a:xs.length=nu.len)(c:nu.esz=e.size)(d:xs.length<=nu.cap)(f:nu.cap<=maxLen)
  (g:Row w b (nu.off+nu.cap*e.size)) (h:bG (Enc G e) xs cs) (i:Mem w b nu.off cs) (l:CS.le (rng b nu.off (nu.cap*e.size)) S):ah w (WC G w e) e.size nu xs S:=by
 refine⟨a,c,?_⟩;simp only[j];exact⟨d,f,g,cs,[],(qx k xs cs []).2 ⟨h,rfl⟩,i,Xu.2 ⟨by simp,List.Pairwise.nil⟩,λs m=>by simp_all⟩
theorem qv{e:Ty}{nu:Nu}{xs:List e.den}{S:CS}(h:ah w (WC G w e) e.size nu xs S)(d:nu.blk=none):xs= []:=by
 obtain⟨a,b,c⟩:=h;simp_all
end
set_option linter.unusedSimpArgs false
def cH:Ty->List Value
 | .prod a b=>cH a++cH b
 | .int k=>[.int k 0]
 | .bool=>[.bool false]
 | .str=>[.string ⟨#[]⟩]
 | .slice _=>[.slice none 0 0]
 | .own _=>[.pointer none]
def rep{α:Type}(l:List α):Nat->List α
 |0=>[]
 |n+1=>l++rep l n
def TE.cells(a:TE):List Value:=match a.shape with
 | .arr n _=>rep (cH a.ty) n
 |_=>cH a.ty
def TE.size(a:TE):Nat:=match a.shape with
 | .arr n _=>n*a.ty.size
 |_=>a.ty.size
structure TEok(P:Program)(T:Tab)(t:TypeId)(te:TE):Prop where
 und:match te.shape with
  | .basic=>te.agg=false/\(match te.ty with
   | .int k=>P.underlying t=some (.int k)
   | .bool=>P.underlying t=some .bool
   | .str=>P.underlying t=some .string
   |_=>False)
  | .slice e=>te.agg=false/\P.underlying t=some (.slice e)/\∃fo,Wt T e=some fo/\te.ty= .slice fo.ty
  | .struct fs=>te.agg=true/\∃fields:Array Field,P.underlying t=some (.struct fields)/\fields.toList.map (λf=>(f.offset,f.type))=fs/\
    (∀f∈fields,f.name≠ "_")∧P.stoodInHeld t=false∧P.eqGuardType P.depth t=false
  | .ptr e=>te.agg=false/\P.underlying t=some (.pointer e)
  | .arr n e=>te.agg=true/\P.underlying t=some (.array n e)/\∃fo,Wt T e=some fo/\fo.ty=te.ty/\∀m f,fo.shape≠ .arr m f
 info:∃i z,P.info? t=some i/\i.size=te.size/\i.zero=some z/\z.cells.toList=te.cells/\i.bytes<=4096
def ao(P:Program)(T:Tab):Prop:=∀t a,Wt T t=some a->TEok P T t a
theorem lP:∀t:Ty,0<t.size
 | .prod a b=>by have:=lP a;simp[Ty.size];omega
 | .int _| .bool| .str| .slice _| .own _=>by simp[Ty.size]
section
variable{P:Program}{T:Tab}{w:World}
theorem Wl{t:TypeId}{d:TypeDesc}(h:P.underlying t=some d):(underlying t).run P w= .ok d w:=by
 simp[underlying,h]
theorem RF{t:TypeId}{i:TypeInfo}(h:P.info? t=some i):(typeInfo t).run P w= .ok i w:=by
 simp[typeInfo,h]
theorem Wri{t:TypeId}{i:TypeInfo}(h:P.info? t=some i):(sizeOf t).run P w= .ok i.size w:=by
 simp[sizeOf,RF h]
theorem TEok.sizeOf{t:TypeId}{a:TE}(h:TEok P T t a):(sizeOf t).run P w= .ok a.size w:=by
 obtain⟨i,z,b,c,_⟩:=h.info;rw[Wri b,c]
theorem TEok.isAgg{t:TypeId}{b:TE}(h:TEok P T t b):(isAgg t).run P w= .ok b.agg w:=by
 have a:=h.und;obtain⟨g,c,shape⟩:=b;cases shape with
 |basic=>
  obtain⟨d,a⟩:=a;cases g<;>simp only at a<;>first|exact a.elim|simp_all [Go.isAgg,Wl]
 |slice e=>simp_all [Go.isAgg,Wl]
 |struct fs=>obtain⟨d,f,a,_⟩:=a;simp_all [Go.isAgg,Wl]
 |ptr e=>simp_all [Go.isAgg,Wl]
 |arr n e=>simp_all [Go.isAgg,Wl]
end
theorem gM(b o j:Nat):(⟨b,o,none⟩:Addr).add j=⟨b,o+j,none⟩:=by
 simp[Addr.add]
section
variable{P:Program}{T:Tab}{w:World}{G:GH}{ν:Nat->Nu}{objs:aa}{nx:Nat}
theorem W1{a:TE}(h:a.plain=true):a.size=a.ty.size:=by
 unfold TE.plain at h;unfold TE.size;split at h<;>simp_all
theorem Lj{t:TypeId}{a:TE}(f:TEok P T t a)(l:a.plain=true){b o off:Nat}{cs:List Cell}{us:List Value}{x:AVal}
  (e:CellsRel G ν nx cs us) (p:∀(j:Nat) (v:Value),us[j]?=some v->w.cell? ⟨b,o+j,none⟩=some v)
  (d:sub a.agg cs off a.ty.size=some x):
  ∃v,(loadVar t ⟨b,o+off,none⟩).run P w= .ok v w/\AValRel G ν nx x v:=by
 have k:a.size=a.ty.size:=W1 l;unfold sub at d;simp only[loadVar,Sem.run_bind,f.isAgg,Result.andThen_ok];cases ha:a.agg with
 |true=>
  simp only[ha,WN]at d⊢;split at d
  .rename_i bp;injection d with d;subst d;have i:((us.drop off).take a.ty.size).length=a.ty.size:=by simp[e.1];omega
   have g:=run_loadCells_list (P:=P) w ⟨b,o+off,none⟩ ((us.drop off).take a.ty.size) (λj v n=>by
    grind [gM,dB])
   rw[i]at g;refine⟨.agg ((us.drop off).take a.ty.size).toArray,?_,_,rfl,(e.drop off).take _⟩;simp[f.sizeOf,k,g]
  grind
 |false=>
  simp only[ha]at d⊢;cases cl:cs[off]? with
  |none=>simp_all
  |some c=>
   simp[cl]at d;subst d;have h:off<us.length:=by rw[e.1];grind
   have m:us[off]?=some us[off]:=Xq h;refine⟨us[off],?_,e.2 off c _ cl m⟩;simp_all
end
section
variable{w0:World}{F:CS}{nt:Slots}{G0 G:GH}{ν:Nat->Nu}{st:St}{a:Act}{w:World}{P:Program}{T:Tab}
theorem Wt9{G:GH}:∀(t:Ty) (d:t.den) (v:Value),Enc G t d [v]->v.oneCell'=true
 | .int _,_,_,h=>by grind [Enc,Value.oneCell']
 | .bool,_,_,h=>by grind [Enc,Value.oneCell']
 | .str,_,_,h=>by grind [Enc,Value.oneCell']
 | .slice _,_,_,h=>by
  obtain⟨v,c,e⟩:=h;simp at c;subst c;rcases e with⟨rfl,_⟩|⟨_,_,_,_,rfl,_⟩|⟨_,_,rfl,_⟩<;>rfl
 | .own _,_,_,h=>h.elim
 | .prod a b,d,v,h=>by
  have:=c0 _ _ _ h
  grind [lP,Ty.size]
theorem WR{t:Ty}{d:t.den}{v:Value}(h:Enc G t d [v]):AValRel G ν st.nx (one t d) v:=
 ⟨h,Wt9 t d v h⟩
theorem Rl:∀(v:Value) (c:Cell),fX v=some c->CellRel G ν st.nx c v/\v.oneCell'=true
 | .int k n,c,h=>by simp[fX]at h;subst h;exact⟨rfl,rfl⟩
 | .bool b,c,h=>by simp[fX]at h;subst h;exact⟨rfl,rfl⟩
 | .string s,c,h=>by simp[fX]at h;subst h;exact⟨by simp[CellRel,Enc],rfl⟩
 | .slice none 0 0,c,h=>by simp[fX]at h;subst h;exact⟨rfl,rfl⟩
 | .slice none 0 (n+1),c,h=>by simp[fX]at h
 | .slice none (n+1) _,c,h=>by simp[fX]at h
 | .slice (some _) _ _,c,h=>by simp[fX]at h
 | .pointer none,c,h=>by simp[fX]at h;subst h;exact⟨trivial,rfl⟩
 | .nilFunc,c,h=>by simp[fX]at h;subst h;exact⟨trivial,rfl⟩
 | .float _ _,_,h| .complex _ _ _,_,h| .pointer (some _),_,h| .map _,_,h| .chan _,_,h| .func _ _ _,_,h| .iface _ _,_,h| .nilIface,_,h| .agg _,_,h| .tuple _,_,h=>by simp[fX]at h
theorem UK:∀(vs:List Value) (cs:List Cell),vs.mapM fX=some cs->CellsRel G ν st.nx cs vs
 | [],cs,h=>by grind [CellsRel.nil]
 |v::vs,cs,h=>by
  simp only[Ed,Option.bind_eq_bind,Option.bind_eq_some_iff]at h;obtain⟨c,f,b,g,a⟩:=h;simp at a;subst a;obtain⟨d,e⟩:=Rl (G:=G) (ν:=ν) (st:=st) v c f;exact(CellsRel.one d e).append (UK vs b g)
theorem WO(h:Rel w0 F nt G0 G ν st a w):∀(x:Operand) (b:AVal),ev st x=some b->AValRel G ν st.nx b (a.eval x)
 | .tmp t,b,he=>by
  obtain⟨v,m,k⟩:=h.env t b he;simpa [Act.eval,m]using k
 | .const v,b,he=>by
  simp only[ev,Vi]at he;split at he
  .rename_i cs;cases hm:cs.toList.mapM fX with
   |none=>simp[hm]at he
   |some l=>
    simp[hm]at he;subst he;exact⟨cs.toList,by simp[Act.eval],UK _ _ hm⟩
  .cases hm:fX v with
   |none=>simp[hm]at he
   |some c=>
    simp[hm]at he;subst he;obtain⟨d,e⟩:=Rl (G:=G) (ν:=ν) (st:=st) v c hm;exact⟨d,e⟩
 | .func f,b,he=>by
  simp[ev]at he;subst he;exact⟨⟨[],rfl,rfl,λj n u i=>by simp at i⟩,rfl⟩
 | .global g,b,he=>by simp[ev]at he
theorem ud(b:AVal)(v:Value)(n:Int)(h:AValRel G ν st.nx b v)(a:asI b=some n):∃k,v= .int k n:=by
 unfold asI at a;split at a
 .rename_i k m;injection a with a;subst a;obtain⟨c,_⟩:=h;simp[CellRel,Enc]at c;exact⟨k,c⟩
 .simp at a
theorem MO(c:AVal)(v:Value)(b:Bool)(h:AValRel G ν st.nx c v)(a:asB c=some b):v= .bool b:=by
 unfold asB at a;split at a
 .injection a with a;subst a;obtain⟨d,_⟩:=h;simpa [CellRel,Enc]using d
 .simp at a
def Gives(P:Program)(G:GH)(ν:Nat->Nu)(st:St)(w:World)(s:Sem Value)(r:AVal):Prop:=∃v,s.run P w= .ok v w/\AValRel G ν st.nx r v
theorem Gives.one{s:Sem Value}{t:Ty}{d:t.den}{v:Value}(a:s.run P w= .ok v w)(h:Enc G t d [v]):Gives P G ν st w s (Sx.one t d):=⟨v,a,WR h⟩
theorem WqO{a:BinOp}{k:IntKind}{x y:Int}{r:AVal}(t:TypeId)(c:a≠ .shl)(b:a≠ .shr)(h:Nw a k x y=some (true,r)):
  Gives P G ν st w (Go.binOp a t (.int k x) (.int k y)) r:=by
 cases a<;>simp[Nw,inz]at h<;>first
  |exact Wz rfl c
  |exact Wz rfl b
  |(subst h;exact⟨_,by simp only[Go.binOp,ne_eq,not_true_eq_false,W4,↓reduceIte,Op.intArith,Op.intBits,Op.intCmp]<;>rfl,WR rfl⟩)
  |(obtain⟨d,rfl⟩:=h;exact⟨_,by simp[Go.binOp,Op.intDiv,d,d9,aP]<;>rfl,WR rfl⟩)
theorem RW{a:BinOp}{k c:IntKind}{x y:Int}{r:AVal}(t:TypeId)(h:(a= .shl/\(true,r)=(inn y,Sx.one (.int k) (NE k x y)))\/(a= .shr/\(true,r)=(inn y,Sx.one (.int k) (Nv k x y)))):
  Gives P G ν st w (Go.binOp a t (.int k x) (.int c y)) r:=by
 rcases h with⟨rfl,h⟩|⟨rfl,h⟩<;>simp[inn]at h<;>obtain⟨b,rfl⟩:=h
 .exact⟨_,by simp[Go.binOp,Op.shift,Int.not_lt.2 b,NE]<;>rfl,WR rfl⟩
 .exact⟨_,by simp[Go.binOp,Op.shift,Int.not_lt.2 b,Nv]<;>rfl,WR rfl⟩
theorem WrN{a:BinOp}{x y:List UInt8}{r:AVal}(t:TypeId)(h:Ny a x y=some (true,r)):
  Gives P G ν st w (Go.binOp a t (.string ⟨x.toArray⟩) (.string ⟨y.toArray⟩)) r:=by
 cases a<;>simp[Ny]at h
 .obtain⟨c,rfl⟩:=h;simp[ad]at c;refine⟨.string ⟨(x++y).toArray⟩,?_,WR rfl⟩;have e:(ByteArray.mk x.toArray++ByteArray.mk y.toArray)=⟨(x++y).toArray⟩:=by
   apply ByteArray.ext;simp
  have b:¬((((ByteArray.mk x.toArray).size+(ByteArray.mk y.toArray).size:Nat):Int)>IntKind.i64.max):=by
   have d:IntKind.i64.max=9223372036854775807:=by decide
   simp only[ByteArray.size,List.size_toArray,d];omega
  simp only[Go.binOp,Op.stringOp,We b,e];rfl
 .subst h;exact⟨_,by simp[Go.binOp,Op.stringOp]<;>rfl,WR rfl⟩
 .subst h;exact⟨_,by simp[Go.binOp,Op.stringOp]<;>rfl,WR rfl⟩
theorem WxV(x y:List UInt8):((ByteArray.mk x.toArray).toList==(ByteArray.mk y.toArray).toList)=seq x y:=by simp[seq]
theorem Wlt{g:TE}{c d:Cell}{b:Bool}{u v:Value}{t:TypeId}(i:TEok P T t g)(a:CellRel G ν st.nx c u)(e:CellRel G ν st.nx d v)
  (h:Gj g c d=some b) (n:Nat):(Op.equalIn (n+1) t u v).run P w= .ok b w/\g.agg=false:=by
 have f:=i.und;unfold Gj at h;split at h
 .split at h
  .rename_i hk;subst hk;injection h with h;subst h;simp only[CellRel,Enc,List.cons.injEq,and_true]at a e;subst a e;exact⟨run_equalIn_int w n t _ _ _ _ f.2,rfl⟩
  .simp at h
 .injection h with h;subst h;simp only[CellRel,Enc,List.cons.injEq,and_true]at a e;subst a e;exact⟨run_equalIn_bool' w n t _ _ f.2,rfl⟩
 .injection h with h;subst h;simp only[CellRel,Enc,List.cons.injEq,and_true]at a e;subst a e;exact⟨(run_equalIn_string w n t _ _ f.2).trans (Wq (Result.ok · w) (WxV _ _)),rfl⟩
 .simp at h
theorem UH{t:TypeId}{a:TE}(b:TEok P T t a)(c:a.agg=false)(cs:Array Value)(off:Nat)(v:Value)(h:cs[off]?=some v):(part t cs off).run P w= .ok v w:=by
 simp only[part,Sem.run_bind,b.isAgg,Result.andThen_ok,c];simp[h]
theorem QV(g:ao P T)(n:Nat)(xs i:Array Value):∀(a:List Field) (k:Nat) (cs e:List Cell) (b:Bool),
  (∀f∈a,f.name≠ "_")→a.map (·.offset)=List.range' k a.length→
  (∀(j:Nat) (c:Cell),cs[j]?=some c->∃v,xs[k+j]?=some v/\CellRel G ν st.nx c v)->
  (∀(j:Nat) (c:Cell),e[j]?=some c->∃v,i[k+j]?=some v/\CellRel G ν st.nx c v)->
  l9 T (a.map (·.type)) cs e=some b->(Op.eqFields (n+1) xs i a).run P w= .ok b w
 | [],k,[],[],b,_,_,_,_,h=>by simp[l9]at h;subst h;rfl
 |f::fs,k,c::cs,d::e,b,r,m,x,y,h=>by
  simp only[bz,l9]at h;cases hl:Wt T f.type with
  |none=>simp[hl]at h
  |some te=>
   simp only[hl]at h;cases h1:Gj te c d with
   |none=>simp[h1]at h
   |some p=>
    cases h2:l9 T (fs.map (·.type)) cs e with
    |none=>simp[h1,h2]at h
    |some q=>
     simp[h1,h2]at h;subst h;obtain⟨u,s,C⟩:=x 0 c rfl;obtain⟨v,t,D⟩:=y 0 d rfl;obtain⟨z,o⟩:=Wlt (w:=w) (g _ _ hl) C D h1 n;simp only[bz,Xs,List.range'_succ,List.cons.injEq]at m;have B:=QV g n xs i fs (k+1) cs e q (λf A=>r f (Xg _ A)) m.2
      (λj c l=>by have:=x (j+1) c (by simpa using l);rwa [dB,pT 1 j])
      (λj c l=>by have:=y (j+1) c (by simpa using l);rwa [dB,pT 1 j]) h2
     simp only[Op.eqFields,Wf (r f (Xl ..)),Sem.run_bind,m.1];rw[c5]at s t;rw[UH (g _ _ hl) o xs k u s,Result.andThen_ok,UH (g _ _ hl) o i k v t,Result.andThen_ok,z,Result.andThen_ok];cases p
     .simp
     .simpa using B
 | [],_,_::_,_,_,_,_,_,_,h=>by simp[l9]at h
 | [],_,[],_::_,_,_,_,_,_,h=>by simp[l9]at h
 |_::_,_,[],_,_,_,_,_,_,h=>by simp[l9]at h
 |_::_,_,_::_,[],_,_,_,_,_,h=>by simp[l9]at h
theorem CJ{a:BinOp}{t:TypeId}{x y:Operand}{u v:Value}(d:∀b,u≠ .agg b)(c:u≠ .nilIface):(eqGuard a t x y u v).run P w= .ok () w:=by
 unfold eqGuard;cases a<;>simp<;>cases u<;>cases v<;>first|rfl|exact Wz rfl c|exact Wz rfl (d _)
theorem Wo8(D:ao P T){n:BinOp}{t:TypeId}{x y:AVal}{u v:Value}{r:AVal}(p q:Operand)(a:AValRel G ν st.nx x u)(d:AValRel G ν st.nx y v)
  (h:Sx.binOp T n t x y=some (true,r)):Gives P G ν st w (do eqGuard n t p q u v;Go.binOp n t u v) r:=by
 unfold Sx.binOp at h;split at h
 .rename_i k m k' m';obtain⟨a,_⟩:=a;obtain⟨d,_⟩:=d;simp only[CellRel,Enc,List.cons.injEq,and_true]at a d;subst a d;have M:(eqGuard n t p q (.int k m) (.int k' m')).run P w= .ok () w:=CJ (by simp) (by simp)
  suffices hh:Gives P G ν st w (Go.binOp n t (.int k m) (.int k' m')) r by
   obtain⟨z,B,C⟩:=hh;exact⟨z,by simp[M,B],C⟩
  split at h
  .injection h with h;exact RW t (.inl ⟨rfl,h.symm⟩)
  .injection h with h;exact RW t (.inr ⟨rfl,h.symm⟩)
  .split at h
   .rename_i hk;subst hk;exact WqO t (by assumption) (by assumption) h
   .simp at h
 .rename_i m m';obtain⟨a,_⟩:=a;obtain⟨d,_⟩:=d;simp only[CellRel,Enc,List.cons.injEq,and_true]at a d;subst a d;obtain⟨z,B,C⟩:=WrN (w:=w) (P:=P) (G:=G) (ν:=ν) (st:=st) t h;exact⟨z,by simp[CJ,B],C⟩
 .rename_i m m';obtain⟨a,_⟩:=a;obtain⟨d,_⟩:=d;simp only[CellRel,Enc,List.cons.injEq,and_true]at a d;subst a d;split at h
  .rename_i hl;have l:=(D _ _ hl).und;simp only[true_and]at l;have e:(Op.equalIn 10000 t (.bool m) (.bool m')).run P w= .ok (beq m m') w:=run_equalIn_bool' w 9999 t m m' l;split at h<;>simp at h
   .subst h;exact⟨.bool (beq m m'),by simp[CJ,Go.binOp,Op.equal,Op.maxDepth,e],WR rfl⟩
   .subst h;exact⟨.bool (!beq m m'),by simp[CJ,Go.binOp,Op.equal,Op.maxDepth,e],WR rfl⟩
  .simp at h
 .rename_i cs ds;obtain⟨s,rfl,E⟩:=a;obtain⟨A,rfl,H⟩:=d;split at h
  .rename_i fs hl;obtain⟨_,fields,l,F,N,K,J⟩:=(D _ _ hl).und;split at h
   .rename_i o;have o:=Waf o;have I:P.fieldsOf t=fields:=by simp[Program.fieldsOf,l]
    have e:∀b,l9 T (fs.map (·.2)) cs ds=some b->(Op.equalIn 10000 t (.agg s.toArray) (.agg A.toArray)).run P w= .ok b w:=λb g=>by
     rw[run_equalIn_struct w 9999 t _ _ (by rw[I];exact l) K,I];refine QV (G:=G) (ν:=ν) (st:=st) D 9998 s.toArray A.toArray fields.toList 0 cs ds b (λf L=>N f (by simpa using L)) ?_ ?_ ?_ ?_
     .rw[←F]at o;simpa [List.range_eq_range',Function.comp_def]using o
     .intro j c hj;have i:j<s.length:=by rw[E.1];exact(dp.1 hj).1
      exact⟨s[j],by simp[i],(E.2 j c _ hj (Xq i)).1⟩
     .intro j c hj;have i:j<A.length:=by rw[H.1];exact(dp.1 hj).1
      exact⟨A[j],by simp[i],(H.2 j c _ hj (Xq i)).1⟩
     .rw[←F]at g;simpa [Function.comp_def]using g
    split at h
    .rename_i b g;simp at h;subst h;exact⟨.bool b,by simp[run_eqGuard_agg w _ t p q _ _ J,run_eql_struct,e b g],WR rfl⟩
    .rename_i b g;simp at h;subst h;exact⟨.bool (!b),by simp[run_eqGuard_agg w _ t p q _ _ J,run_neq_struct,e b g],WR rfl⟩
    .simp at h
   .simp at h
  .simp at h
 .simp at h
end
section
variable{w0:World}{F:CS}{nt:Slots}{G0 G:GH}{ν:Nat->Nu}{st:St}{a:Act}{w:World}{P:Program}{T:Tab}
theorem HRel.g{objs:aa}{nx:Nat}(h:HRel w0 F G ν objs nx w){b o:Nat}{v:Value}(a:G b o=some v):w.cell? ⟨b,o,none⟩=some v:=by
 obtain⟨φ,h⟩:=h;exact h.g b o v a
theorem HRel.obj{objs:aa}{nx:Nat}(h:HRel w0 F G ν objs nx w){a:Nat}{ob:Ob}(b:Wt objs a=some ob):∃S,dt G ν nx w a S ob:=by
 obtain⟨φ,h⟩:=h;exact⟨φ a,h.ob a ob b⟩
theorem zb{k:IntKind}{n:Int}{v:Value}(h:AValRel G ν st.nx (.s (.one (.val (.int k) n))) v):v= .int k n:=by
 obtain⟨h,_⟩:=h
 grind [CellRel,Enc]
theorem L3{n:Bool}{v:Value}(h:AValRel G ν st.nx (.s (.one (.val .bool n))) v):v= .bool n:=by
 obtain⟨h,_⟩:=h
 grind [CellRel,Enc]
theorem Gs{s:List UInt8}{v:Value}(h:AValRel G ν st.nx (.s (.one (.val .str s))) v):v= .string ⟨s.toArray⟩:=by
 obtain⟨h,_⟩:=h
 grind [CellRel,Enc]
theorem Wrv{b:UnOp}{x:AVal}{u:Value}{r:AVal}(a:AValRel G ν st.nx x u)(h:Sx.unOp b x=some (true,r)):Gives P G ν st w (Op.unary b u) r:=by
 unfold Sx.unOp at h;split at h
 .have:=L3 a;subst this;simp at h;subst h;exact⟨_,rfl,WR rfl⟩
 .have:=zb a;subst this;simp at h;subst h;exact⟨_,rfl,WR rfl⟩
 grind
theorem Wwr{d:Nat}{e:Ty}{xs:List e.den}{nx:Nat}{S:CS}(h:dt G ν nx w d S (.arr e xs)):∃a c,(ν d).hdr= .slice a xs.length c:=by
 obtain⟨g,_,f⟩:=h;unfold Nu.hdr;cases hb:(ν d).blk with
 |none=>simp_all
 |some b=>simp_all
theorem Wvb{d:Nat}{e:Ty}{xs:List e.den}{i p nx:Nat}{S:CS}(h:dt G ν nx w d S (.hole e xs i p)):∃a c,(ν d).hdr= .slice a xs.length c:=by
 obtain⟨_,f,_,_,b,g,_⟩:=h;unfold Nu.hdr;simp_all
theorem Wxd{t ty:TypeId}(b:P.underlying t=some .string)(s:List UInt8):(Builtin.len_ #[t] ty #[.string ⟨s.toArray⟩]).run P w= .ok (.int .i64 (Wh s)) w:=by
 have a:(Builtin.len_ #[t] ty #[.string ⟨s.toArray⟩]).run P w= .ok (goInt (ByteArray.mk s.toArray).size) w:=by
  simp_all [Builtin.len_,Wl]
 rw[a];rfl
theorem Wpw(g:ao P T)(q:HRel w0 F G ν st.objs st.nx w){t ty:TypeId}{x:AVal}{u:Value}{r:AVal}(j:AValRel G ν st.nx x u)(h:nC T st t x=some (true,r)):
  Gives P G ν st w (Builtin.len_ #[t] ty #[u]) r:=by
 unfold nC at h;split at h
 .rename_i te e l _ hl;simp at h;subst h;have d:=(g _ _ hl).und.2.1;obtain⟨⟨v,f,A⟩,_⟩:=j;simp at f;subst f;rcases A with⟨rfl,n⟩|⟨b,B,m,C,rfl,_⟩|⟨a,m,rfl,n⟩
  rotate_left 2
  .exact⟨_,by simp[Builtin.len_,Wl d]<;>rfl,WR (by rw[n];rfl)⟩
  .exact⟨_,by simp[Builtin.len_,Wl d]<;>rfl,WR (by rw[n];rfl)⟩
  .exact⟨_,by simp[Builtin.len_,Wl d]<;>rfl,WR rfl⟩
 .rename_i te e _ hl;simp at h;subst h;have d:=(g _ _ hl).und.2.1;obtain⟨f,_⟩:=j;simp only[CellRel]at f;subst f;exact⟨_,by simp[Builtin.len_,Wl d]<;>rfl,WR rfl⟩
 .rename_i te e id hl;have d:=(g _ _ hl).und.2.1;obtain⟨⟨_,f⟩,_⟩:=j;subst f;unfold obL at h;split at h
  .rename_i e' xs ho;simp at h;subst h;obtain⟨S,k⟩:=q.obj ho;obtain⟨a,c,o⟩:=Wwr k;rw[o];exact⟨.int .i64 (Wh xs),by simp[Builtin.len_,Wl d]<;>rfl,WR rfl⟩
  .rename_i e' xs i p ho;simp at h;subst h;obtain⟨S,k⟩:=q.obj ho;obtain⟨a,c,o⟩:=Wvb k;rw[o];exact⟨.int .i64 (Wh xs),by simp[Builtin.len_,Wl d]<;>rfl,WR rfl⟩
  grind
 .rename_i te e id lo hi hl;simp only[Option.some.injEq,Prod.mk.injEq,true_and]at h;subst h;have d:=(g _ _ hl).und.2.1;obtain⟨⟨_,E,H,z,f⟩,_⟩:=j;subst f;unfold Nu.vhdr;cases hb:(ν id).blk with
  |none=>
   have D:=z hb;have y:hi-lo=0:=by omega
   rw[y];exact⟨_,by simp[Builtin.len_,Wl d]<;>rfl,WR rfl⟩
  |some b=>exact⟨.int .i64 ((hi-lo:Nat):Int),by simp[Builtin.len_,Wl d]<;>rfl,WR rfl⟩
 .rename_i s hl;simp at h;subst h;have d:=(g _ _ hl).und.2;have:=Gs j;subst this;exact⟨.int .i64 (Wh (α:=UInt8) s),Wxd d s,WR rfl⟩
 grind
theorem Fg(g:ao P T){t:TypeId}{f off:Nat}{e:TE}(h:Do T t f=some (off,e)):
  ∃(a:Array Field) (b:Field),P.underlying t=some (.struct a)/\a[f]?=some b/\b.offset=off/\TEok P T b.type e/\e.plain=true:=by
 unfold Do at h;split at h
 .rename_i fs hl;obtain⟨_,a,l,j,_⟩:=(g _ _ hl).und;split at h
  .rename_i o ft hf;split at h
   .rename_i fo eT;split at h
    .rename_i k;injection h with h;injection h with c d;subst c d;rw[←j]at hf;simp only[dF,Array.getElem?_toList]at hf;cases i:a[f]? with
     |none=>simp_all
     |some b=>
      simp[i]at hf;obtain⟨c,d⟩:=hf;subst c d;exact⟨a,b,l,i,rfl,g _ _ eT,k⟩
    grind
   grind
  grind
 grind
theorem K8{t:TypeId}{f off:Nat}{d:TE}{b o:Nat}{a:Array Field}{c:Field}(j:P.underlying t=some (.struct a))(h:a[f]?=some c)(i:c.offset=off)
  (g:TEok P T c.type d) (k:d.plain=true):(Instr.fieldAt t (.pointer (some ⟨b,o,none⟩)) f).run P w= .ok (.pointer (some ⟨b,o+off,none⟩)) w:=by
 have e:d.size≠0:=by grind [W1,lP]
 simp[Instr.fieldAt,Wl j,h,Instr.sureAddr,fieldPlace,g.sizeOf,e,gM,i]
theorem Whn(n:ao P T)(z:HRel w0 F G ν st.objs st.nx w){t:TypeId}{f:Nat}{x:AVal}{u:Value}{r:AVal}(q:AValRel G ν st.nx x u)(h:yx T st t x f=some (true,r)):
  Gives P G ν st w (Instr.fieldAt t u f) r:=by
 unfold yx at h;split at h
 .rename_i off te id o hf;obtain⟨a,s,k,l,g,c,j⟩:=Fg n hf;split at h
  .simp at h;subst h;obtain⟨⟨e,b,p,rfl⟩,_⟩:=q;exact⟨_,K8 k l g c j,⟨e,b,p,by rw[dB]⟩,rfl⟩
  grind
 .rename_i off te id i o hf;obtain⟨a,s,k,l,g,c,j⟩:=Fg n hf;split at h
  .simp at h;subst h;obtain⟨⟨e,m,b,p,rfl⟩,_⟩:=q;exact⟨_,K8 k l g c j,⟨e,m,b,p,by rw[dB,dB]⟩,rfl⟩
  grind
 .rename_i off te t' d o hf;obtain⟨a,s,k,l,g,c,j⟩:=Fg n hf;simp at h;subst h;obtain⟨⟨b,y,v,rfl,e,m⟩,_⟩:=q;exact⟨_,K8 k l g c j,⟨b,y,v,by rw[dB],e,m⟩,rfl⟩
 grind
theorem Wmg(j:ao P T){t:TypeId}{f:Nat}{x:AVal}{u:Value}{r:AVal}(n:AValRel G ν st.nx x u)(h:MD T t x f=some (true,r)):
  Gives P G ν st w (Instr.field t u f) r:=by
 unfold MD at h;split at h
 .rename_i off te cs hf;obtain⟨b,p,m,o,k,g,l⟩:=Fg j hf;obtain⟨e,rfl,d⟩:=n;cases a:sub te.agg cs off te.ty.size with
  |none=>simp_all
  |some y=>
   simp[a]at h;subst h;unfold sub at a;simp only[Gives,Instr.field,Sem.run_bind,Wl m,Result.andThen_ok,o,asAgg,Sem.run_pure,part,g.isAgg];cases ha:te.agg with
   |true=>
    simp only[ha,WN]at a⊢;split at a
    .rename_i bp;injection a with a;subst a;refine⟨.agg ((e.drop off).take te.ty.size).toArray,?_,_,rfl,(d.drop off).take _⟩;simp[g.sizeOf,W1 l,k]
    grind
   |false=>
    simp only[ha]at a⊢;cases hc:cs[off]? with
    |none=>simp_all
    |some c=>
     simp[hc]at a;subst a;have i:off<e.length:=by rw[d.1];grind
     refine⟨e[off],?_,d.2 off c _ hc (Xq i)⟩;simp_all
 grind
end
section
variable{w0:World}{F:CS}{nt:Slots}{G0 G:GH}{ν:Nat->Nu}{st:St}{a:Act}{w:World}{P:Program}{T:Tab}
theorem TH{α:Type}{R:α->List Value->Prop}{n:Nat}(h:∀x c,R x c->c.length=n)(l:List α)(cs:List Value)(i:Nat)(d:α)(a:bG R l cs)(hi:i<l.length):
  R (l.getD i d) ((cs.drop (i*n)).take n):=LU h l cs i _ a (by simp_all)
theorem pd{i:Int}{n:Nat}(h:inb i n=true):0<=i/\i<n:=by simpa [inb]using h
theorem Fj{t d:TypeId}{c:TE}{k:IntKind}{n:Int}{b off a cap:Nat}(i:P.underlying t=some (.slice d))(e:TEok P T d c)(h:c.plain=true)(f:0<=n)(g:n<a):
  (Instr.indexAt t (.slice (some ⟨b,off,none⟩) a cap) (.int k n)).run P w= .ok (.pointer (some ⟨b,off+n.toNat*c.ty.size,none⟩)) w:=by
 simp[Instr.indexAt,asIntOf,Wl i,f,g,e.sizeOf,W1 h,gM]
theorem Wtf(K:ao P T)(q:HRel w0 F G ν st.objs st.nx w){t o:TypeId}{c:TE}{k:IntKind}{n:Int}{a:Nat}{u:Value}{r:AVal}(x:P.underlying t=some (.slice o))(m:TEok P T o c)(v:c.plain=true)
  (D:AValRel G ν st.nx (.s (.one (.own a))) u) (h:obI c n a (Wt st.objs a)=some (true,r)):Gives P G ν st w (Instr.indexAt t u (.int k n)) r:=by
 obtain⟨⟨z,C⟩,_⟩:=D;subst C;unfold obI at h;split at h
 .rename_i e xs aM;split at h
  .rename_i he;simp only[Option.some.injEq,Prod.mk.injEq]at h;obtain⟨g,rfl⟩:=h;obtain⟨f,A⟩:=pd g;obtain⟨S,y,l,B⟩:=q.obj aM;unfold Nu.hdr;cases d:(ν a).blk with
   |none=>grind
   |some b=>
    refine⟨.pointer (some ⟨b,(ν a).off+n.toNat*c.ty.size,none⟩),Fj x m v f (by omega),⟨z,by omega,b,d,?_⟩,rfl⟩;rw[l,he,gX,c5]
  grind
 .rename_i e xs i p aM;split at h
  .rename_i he;simp only[Option.some.injEq,Prod.mk.injEq,Xh]at h;obtain⟨⟨g,j⟩,rfl⟩:=h;obtain⟨f,A⟩:=pd g;have j:=vG j;obtain⟨S,H,y,l,J,b,d,E,I,B⟩:=q.obj aM;unfold Nu.hdr;simp only[d];refine⟨.pointer (some ⟨b,(ν a).off+n.toNat*c.ty.size,none⟩),Fj x m v f (by omega),⟨H,b,E,?_⟩,rfl⟩;rw[I,he,gX,c5,j]
  grind
 grind
theorem Wrd(H:ao P T)(q:HRel w0 F G ν st.objs st.nx w){t f:TypeId}{c:TE}{k:IntKind}{n:Int}{a lo hi:Nat}{u:Value}{r:AVal}(y:P.underlying t=some (.slice f))(l:TEok P T f c)(x:c.plain=true)
  (A:AValRel G ν st.nx (.s (.one (.vw a lo hi))) u) (h:DV c n a lo hi (Wt st.objs a)=some (true,r)):Gives P G ν st w (Instr.indexAt t u (.int k n)) r:=by
 obtain⟨⟨j,C,D,E,z⟩,_⟩:=A;subst z;unfold DV at h;split at h
 .rename_i e xs aM;split at h
  .rename_i he;simp only[Option.some.injEq,Prod.mk.injEq]at h;obtain⟨p,rfl⟩:=h;obtain⟨m,o⟩:=pd p;obtain⟨S,B,i,v⟩:=q.obj aM;unfold Nu.vhdr;cases d:(ν a).blk with
   |none=>grind
   |some b=>
    simp only[d]at v;have g:(ν a).cap≠lo:=by omega
    rw[We g];refine⟨.pointer (some ⟨b,(ν a).off+lo*(ν a).esz+n.toNat*c.ty.size,none⟩),Fj y l x m o,⟨j,by omega,b,d,?_⟩,rfl⟩;rw[i,he,gX,c5,j8,dB]
  grind
 grind
theorem WrJ(B:ao P T)(q:HRel w0 F G ν st.objs st.nx w){t d:TypeId}{c:TE}{k:IntKind}{n:Int}{m a:Nat}{u:Value}{r:AVal}(x:P.underlying t=some (.array m d))(j:TEok P T d c)(v:c.plain=true)
  (z:AValRel G ν st.nx (.s (.one (.aptr a))) u) (h:DZ c n m a (Wt st.objs a)=some (true,r)):Gives P G ν st w (Instr.indexAt t u (.int k n)) r:=by
 obtain⟨⟨i,b,f,y⟩,_⟩:=z;subst y;unfold DZ at h;split at h
 .rename_i e xs aM;split at h
  .rename_i he;simp only[Option.some.injEq,Prod.mk.injEq,Xh,Wg]at h;obtain⟨⟨p,C⟩,rfl⟩:=h;obtain⟨l,o⟩:=pd p;obtain⟨S,A,g,D⟩:=q.obj aM;refine⟨.pointer (some ⟨b,(ν a).off+n.toNat*e.size,none⟩),?_,⟨i,by omega,b,f,by rw[g,c5]⟩,rfl⟩;have:((0:Int)<=n/\n<(m:Int)):=⟨l,o⟩;simp only[Instr.indexAt,asIntOf,Sem.run_bind,Sem.run_pure,Result.andThen_ok,Wl x,Instr.sureAddr,Wf this,j.sizeOf,W1 v,gM,he]
  grind
 grind
theorem Whe(d:ao P T)(p:HRel w0 F G ν st.objs st.nx w){t:TypeId}{x i:AVal}{u v:Value}{r:AVal}(g:AValRel G ν st.nx x u)(hi:AValRel G ν st.nx i v)
  (h:yD T st t x i=some (true,r)):Gives P G ν st w (Instr.indexAt t u v) r:=by
 unfold yD at h;split at h
 .rename_i ty ag et n hl hn;obtain⟨k,rfl⟩:=ud _ _ _ hi hn;have f:=(d _ _ hl).und.2.1;split at h
  .rename_i te bp;split at h
   .rename_i hp;split at h
    .rename_i e l;split at h
     .rename_i he;simp only[Option.some.injEq,Prod.mk.injEq]at h;obtain⟨H,rfl⟩:=h;obtain⟨B,C⟩:=pd H;obtain⟨⟨z,s,J⟩,_⟩:=g;simp at s;subst s;rcases J with⟨rfl,A⟩|⟨b,q,o,y,rfl,K,L,D,E⟩|⟨a,o,rfl,A⟩
      rotate_left 2
      .grind
      .grind
      .have ae:n.toNat<Xb l:=by omega
       refine⟨_,Fj f (d _ _ bp) hp B C,⟨b,q+n.toNat*e.size,_,?_,TH (λx c I=>c0 e x c I) l y n.toNat e.dflt D ae,?_⟩,rfl⟩
       .grind
       .intro j v hj;rw[lm]at hj;split at hj
        .rw[li]at hj;rw[dB];exact E _ _ hj
        grind
     grind
    .simp at h
    .exact Wtf d p f (d _ _ bp) hp g h
    .exact Wrd d p f (d _ _ bp) hp g h
    grind
   grind
  grind
 .rename_i ty ag m et n hl hn;obtain⟨k,rfl⟩:=ud _ _ _ hi hn;have f:=(d _ _ hl).und.2.1;split at h
  .rename_i te bp;split at h
   .rename_i hp;split at h
    .exact WrJ d p f (d _ _ bp) hp g h
    grind
   grind
  grind
 grind
theorem Wxc(s:List UInt8)(n:Nat)(h:n<s.length):(ByteArray.mk s.toArray)[n]?=some (s.getD n 0):=by
 grind [ByteArray.getElem?_lt',ByteArray.size,ByteArray.getElem_eq_getElem_data]
theorem Se{k:IntKind}:∀(cs:List Cell) (us:List Value) (l:List Int),ep k cs=some l->CellsRel G ν st.nx cs us->l.length=cs.length/\∀j,j<us.length->us[j]?=some (.int k (Xc l j (0:Int)))
 | [],us,l,h,hc=>by
  simp only[ep]at h;injection h with h;subst h;have:=hc.1;simp_all
 | .val (.int k') d::cs,us,l,h,hc=>by
  simp only[ep]at h;split at h
  .rename_i hk;subst hk;cases hi:ep k' cs with
   |none=>simp_all
   |some l'=>
    rw[hi]at h;simp only[lr]at h;injection h with h;subst h;cases us with
    |nil=>have:=hc.1;grind
    |cons u us=>
     have a:=(hc.2 0 _ u rfl rfl).1;have g:u= .int k' d:=by grind [CellRel,Enc]
     obtain⟨b,e⟩:=Se cs us l' hi ⟨by have:=hc.1;simp_all,λj c v f i=>hc.2 (j+1) c v (by simp_all) (by simp_all)⟩
     grind
  .cases h
 | .val .bool d::cs,us,l,h,_=>by simp[ep]at h
 | .val .str d::cs,us,l,h,_=>by simp[ep]at h
 | .val (.slice _) d::cs,us,l,h,_=>by simp[ep]at h
 | .val (.own _) d::cs,us,l,h,_=>by simp[ep]at h
 | .val (.prod _ _) d::cs,us,l,h,_=>by simp[ep]at h
 | .nils::cs,us,l,h,_=>by simp[ep]at h
 | .own _::cs,us,l,h,_=>by simp[ep]at h
 | .vw _ _ _::cs,us,l,h,_=>by simp[ep]at h
 | .aptr _::cs,us,l,h,_=>by simp[ep]at h
 | .ptr _ _::cs,us,l,h,_=>by simp[ep]at h
 | .eptr _ _ _::cs,us,l,h,_=>by simp[ep]at h
 | .rptr _ _ _::cs,us,l,h,_=>by simp[ep]at h
 | .clos _ _::cs,us,l,h,_=>by simp[ep]at h
 | .junk::cs,us,l,h,_=>by simp[ep]at h
theorem Wmb(c:ao P T){t:TypeId}{x i:AVal}{u v:Value}{r:AVal}(j:AValRel G ν st.nx x u)(hi:AValRel G ν st.nx i v)
  (h:ME T t x i=some (true,r)):Gives P G ν st w (Instr.index t u v) r:=by
 unfold ME at h;split at h
 .rename_i s n hl hn;obtain⟨k,rfl⟩:=ud _ _ _ hi hn;have:=Gs j;subst this;have e:=(c _ _ hl).und.2;simp only[Option.some.injEq,Prod.mk.injEq]at h;obtain⟨d,rfl⟩:=h;obtain⟨b,g⟩:=pd d;have a:n.toNat<Xb s:=by omega
  refine⟨.int .u8 ((Xc s n.toNat 0).toNat:Int),?_,WR rfl⟩;simp only[Instr.index,asIntOf,Sem.run_bind,Sem.run_pure,Result.andThen_ok,Wl e,Wf b,Wxc s n.toNat a]
 .rename_i k ag m et cs n hl hn;split at h
  .rename_i k' bp;split at h
   .rename_i l rN;split at h
    .rename_i hc;obtain⟨rfl,C⟩:=hc;obtain⟨D,rfl⟩:=ud _ _ _ hi hn;obtain⟨o,rfl,f⟩:=j;simp only[Option.some.injEq,Prod.mk.injEq]at h;obtain⟨d,rfl⟩:=h;obtain⟨b,g⟩:=pd d;obtain⟨B,y⟩:=Se _ _ _ rN f;have e:=(c _ _ hl).und.2.1;have p:=c _ _ bp;have A:(Go.isAgg et).run P w= .ok false w:=p.isAgg;have q:(Go.sizeOf et).run P w= .ok 1 w:=p.sizeOf;have a:n.toNat<o.length:=by rw[f.1];omega
     have z:o[n.toNat]?=some (.int k' (Xc l n.toNat (0:Int))):=y _ a;refine⟨.int k' (Xc l n.toNat (0:Int)),?_,WR rfl⟩;simp only[Instr.index,asIntOf,Sem.run_bind,Sem.run_pure,Result.andThen_ok,Wl e,b,g,and_self,WN,q,part,A,Nat.mul_one];simp[z]
    grind
   grind
  grind
 grind
theorem Ln{k:IntKind}{n:Int}{y:Nat}{c:BoundsCode}(a:0<=n)(b:n<=y):(Instr.sliceBound (.int k n) y c).run P w= .ok n.toNat w:=by
 simp[Instr.sliceBound,asIntOf,a,b]
inductive BRel:Option Int->Option Value->Prop where
 |none:BRel .none .none
 |some (k:IntKind) (n:Int):BRel (.some n) (.some (.int k n))
theorem qE(h:Rel w0 F nt G0 G ν st a w)(o:Option Operand)(r:Option Int)(b:fe st o=some r):BRel r (o.map a.eval):=by
 cases o with
 |none=>simp[fe]at b;subst b;exact .none
 |some x=>
  simp only[fe]at b;cases hv:ev st x with
  |none=>simp_all
  |some av=>
   simp only[hv,Option.bind_some]at b;cases hi:asI av with
   |none=>simp_all
   |some n=>
    simp[hi]at b;subst b;obtain⟨k,c⟩:=ud _ _ _ (WO h x av hv) hi;simp only[lr,c];exact .some k n
theorem yw{isSlice:Bool}{n cap:Nat}{lo hi:Option Int}{c b:Option Value}(e:BRel lo c)(d:BRel hi b)(m:n<=cap)(a:(aI n lo hi).1=true):
  (Instr.sliceBounds isSlice n cap c b none).run P w= .ok ((aI n lo hi).2.1,(aI n lo hi).2.2,cap) w/\(aI n lo hi).2.1<=(aI n lo hi).2.2/\(aI n lo hi).2.2<=n:=by
 cases e<;>cases d<;>simp only[aI,Xh,Wg]at a⊢
 .simp[Instr.sliceBounds]
 .grind [Instr.sliceBounds,Sem.run_bind,Sem.run_pure,Result.andThen_ok,Ln]
 .grind [Instr.sliceBounds,Sem.run_bind,Sem.run_pure,Result.andThen_ok,Ln]
 .rename_i k l k' h;obtain⟨⟨⟨f,g⟩,i⟩,j⟩:=a;refine⟨?_,by omega,by omega⟩;simp only[Instr.sliceBounds,Sem.run_bind,Sem.run_pure,Result.andThen_ok]
  grind [Ln,Result.andThen_ok]
theorem GG{α:Type}(l:List α)(lo hi:Option Int):rx l lo hi=(l.take (aI l.length lo hi).2.2).drop (aI l.length lo hi).2.1:=by
 cases lo<;>cases hi<;>simp[rx,aI]
theorem Wxf(s:List UInt8)(l h:Nat):(ByteArray.mk s.toArray).extract l h=⟨((s.take h).drop l).toArray⟩:=by
 apply ByteArray.ext;simp[ByteArray.data_extract,List.extract_eq_take_drop,List.drop_take]
theorem WtW{t:TypeId}{lo hi:Option Int}{b a:Option Value}(h:P.underlying t=some .string)(s:List UInt8)(f:BRel lo b)(e:BRel hi a)(d:(aI s.length lo hi).1=true):
  (Instr.sliceAt t (.string ⟨s.toArray⟩) b a none).run P w= .ok (.string ⟨(rx s lo hi).toArray⟩) w:=by
 have c:(ByteArray.mk (List.toArray s)).size=Xb s:=by simp[ByteArray.size]
 obtain⟨g,i,j⟩:=yw (P:=P) (w:=w) (isSlice:=false) (cap:=Xb s) f e (Xm _) d;simp only[Instr.sliceAt,Instr.slice,Sem.run_bind,Wl h,Result.andThen_ok,Option.isSome_none,Bool.false_eq_true,W4,Sem.run_pure,c,g,Wxf,GG]
theorem WuN{t z:TypeId}{g:TE}{lo hi:Option Int}{C B:Option Value}{α:Type}{R:α->List Value->Prop}{n:Nat}(N:∀x c,R x c->c.length=n)(u:P.underlying t=some (.slice z))(i:TEok P T z g)(I:g.plain=true)(H:g.ty.size=n)
  (xs:List α) {v:Value} (J:nD G R xs v) (s:BRel lo C) (r:BRel hi B) (o:(aI xs.length lo hi).1=true):
  ∃v',(Instr.sliceAt t v C B none).run P w= .ok v' w/\nD G R (rx xs lo hi) v':=by
 rcases J with⟨rfl,h⟩|⟨b,d,cap,E,rfl,m,A,K,F⟩|⟨a,cap,rfl,h⟩
 rotate_left 2
 .subst h;obtain⟨e,m,A⟩:=yw (P:=P) (w:=w) (isSlice:=true) (cap:=cap) s r (j6 _) o;have k:(aI 0 lo hi).2.2=0:=by omega
  have l:(aI 0 lo hi).2.1=0:=by omega
  rw[k,l]at e;refine⟨.slice (some a) 0 cap,?_,.inr (.inr ⟨a,cap,rfl,?_⟩)⟩
  .simp only[Instr.sliceAt,Instr.slice,Sem.run_bind,Wl u,Result.andThen_ok,e,i.sizeOf,Sem.run_pure,lr];simp[Addr.add]
  .rw[GG];simp
 .subst h;obtain⟨e,m,A⟩:=yw (P:=P) (w:=w) (isSlice:=true) (cap:=0) s r (Xm _) o;refine⟨.slice none 0 0,?_,.inl ⟨rfl,?_⟩⟩
  .have k:(aI 0 lo hi).2.2=0:=by omega
   have l:(aI 0 lo hi).2.1=0:=by omega
   rw[k,l]at e;simp[Instr.sliceAt,Instr.slice,Wl u,e,i.sizeOf]
  .rw[GG];simp
 .obtain⟨e,L,M⟩:=yw (P:=P) (w:=w) (isSlice:=true) (cap:=cap) s r m o;have O:=GG xs lo hi;generalize (aI xs.length lo hi).2.1=p at*;generalize (aI xs.length lo hi).2.2=q at*;have D:g.size=n:=by rw[W1 I,H]
  have y:(rx xs lo hi).length=q-p:=by simp_all
  refine⟨.slice (some (if cap=p then⟨b,d,none⟩else⟨b,d+p*n,none⟩)) (q-p) (cap-p),?_,.inr (.inl ?_)⟩
  .simp only[Instr.sliceAt,Instr.slice,Sem.run_bind,Wl u,Result.andThen_ok,e,i.sizeOf,Sem.run_pure,D,lr,gM];split<;>rfl
  .by_cases hc:cap=p
   .have h0:rx xs lo hi= []:=dV (by omega);refine⟨b,d,cap-p,[],?_,by omega,by omega,?_,λj v f=>by simp at f⟩
    .rw[Wf hc];rw[y]
    .rw[h0];rfl
   .refine⟨b,d+p*n,cap-p,(E.take (q*n)).drop (p*n),?_,by omega,by omega,?_,?_⟩
    .rw[We hc,y]
    .grind [C8,C9]
    .intro j v f;rw[li,lm]at f;split at f
     .rw[dB];exact F _ _ f
     grind
theorem WlL(a:ao P T){t:TypeId}{x:AVal}{u:Value}{m k:Option Value}{lo hi:Option Operand}{r:AVal}(g:AValRel G ν st.nx x u)
  (f:∀l,fe st lo=some l->BRel l m) (d:∀l,fe st hi=some l->BRel l k)
  (h:Gk T st t x lo hi=some (true,r)):Gives P G ν st w (Instr.sliceAt t u m k none) r:=by
 unfold Gk at h;split at h
 .rename_i s l h' uE h1 h2;have:=Gs g;subst this;simp only[Option.some.injEq,Prod.mk.injEq]at h;obtain⟨b,rfl⟩:=h;exact⟨_,WtW (a _ _ uE).und.2 s (f _ h1) (d _ h2) b,WR rfl⟩
 .rename_i ty ag et e xs l h' uE h1 h2;have A:=(a _ _ uE).und.2.1;split at h
  .rename_i te bp;split at h
   .rename_i zB;obtain⟨q,v⟩:=zB;simp only[Option.some.injEq,Prod.mk.injEq]at h;obtain⟨b,rfl⟩:=h;obtain⟨⟨z,i,y⟩,_⟩:=g;simp at i;subst i;obtain⟨j,n,o⟩:=WuN (P:=P) (T:=T) (w:=w) (λx c p=>c0 e x c p) A (a _ _ bp) v (by rw[q]) xs y (f _ h1) (d _ h2) b;exact⟨j,n,WR ⟨j,rfl,o⟩⟩
   grind
  grind
 grind
end
section
variable{w0:World}{F:CS}{nt:Slots}{G0 G:GH}{ν:Nat->Nu}{st:St}{a:Act}{w:World}{P:Program}{T:Tab}
theorem LB{k:IntKind}:∀(l:List Int) (cs:List Value),bG (Enc G (.int k)) l cs->cs=l.map (Value.int k)
 | [],cs,h=>h
 |x::l,cs,⟨c,a,e,d,b⟩=>by
  have:=LB l a b
  grind [Enc]
theorem Tw{t e dst:TypeId}(f:P.underlying t=some (.slice e))(d:P.underlying e=some (.int .u8))(c:P.underlying dst=some .string){b off cap:Nat}(l:List Int)
  (h:∀j v,(l.map (Value.int .u8))[j]?=some v->w.cell? ⟨b,off+j,none⟩=some v):
  (convert t dst (.slice (some ⟨b,off,none⟩) l.length cap)).run P w= .ok (.string ⟨(cE l).toArray⟩) w:=by
 rw[run_convert_bytes_string w t dst e _ _ _ f d c];have a:=run_loadCells_list (P:=P) w ⟨b,off,none⟩ (l.map (Value.int .u8)) (λj v g=>by grind [gM]);rw[Xt]at a;rw[run_bytesToString w _ _ _ l a,foldl_push_bytes];simp[ByteArray.ext,cE]
theorem Lx{t e dst:TypeId}(d:P.underlying t=some (.slice e))(b:P.underlying e=some (.int .u8))(a:P.underlying dst=some .string)(l c:Nat):
  (convert t dst (.slice none l c)).run P w= .ok (.string ⟨#[]⟩) w:=by
 rw[run_convert_bytes_string w t dst e _ _ _ d b a];rfl
theorem WqQ{t e dst:TypeId}(h:P.underlying t=some (.slice e))(f:P.underlying e=some (.int .u8))(d:P.underlying dst=some .string)(a:Addr)(c:Nat):
  (convert t dst (.slice (some a) 0 c)).run P w= .ok (.string ⟨#[]⟩) w:=by
 rw[run_convert_bytes_string w t dst e _ _ _ h f d];have b:=run_loadCells_list (P:=P) w a ([].map (Value.int .u8)) (λj v g=>by simp at g);simp only[eX,List.length_nil]at b;rw[run_bytesToString w _ _ _ [] (by simp_all),foldl_push_bytes];rfl
theorem WmX(i:ao P T)(C:HRel w0 F G ν st.objs st.nx w){p dst:TypeId}{x:AVal}{u:Value}{r:AVal}(o:AValRel G ν st.nx x u)
  (h:zw T st p dst x=some (true,r)):Gives P G ν st w (convert p dst u) r:=by
 unfold zw XY at h;split at h
 .rename_i k0 k k1 n h1 h2;have:=zb o;subst this;have f:=(i _ _ h1).und.2;have d:=(i _ _ h2).und.2;simp at h;subst h;exact⟨.int k (k.wrap n),by simp_all [convert,Wl,Conv.intToInt],WR rfl⟩
 .rename_i s h1 h2;have:=Gs o;subst this;have f:=(i _ _ h1).und.2;have d:=(i _ _ h2).und.2;simp at h;subst h;exact⟨_,by simp[convert,Wl f,Wl d]<;>rfl,WR rfl⟩
 .rename_i ty ag et c h1 h2;have f:=(i _ _ h1).und.2.1;have d:=(i _ _ h2).und.2;split at h
  .rename_i h3;have m:=(i _ _ h3).und.2;split at h
   .rename_i l;simp at h;subst h;obtain⟨⟨z,E,Q⟩,_⟩:=o;simp at E;subst E;rcases Q with⟨rfl,y⟩|⟨b,R,t,J,rfl,K,L,B,A⟩|⟨a,t,rfl,y⟩
    rotate_left 2
    .refine⟨_,WqQ f m d a _,WR ?_⟩;rw[y];rfl
    .refine⟨_,Lx f m d _ _,WR ?_⟩;rw[y];rfl
    .have I:=LB _ _ B;exact⟨_,Tw f m d l (λj v N=>C.g (A j v (by simp_all))),WR rfl⟩
   .simp at h;subst h;obtain⟨q,_⟩:=o;simp only[CellRel]at q;subst q;exact⟨_,Lx f m d _ _,WR rfl⟩
   .rename_i id;split at h
    .rename_i xs aM;simp at h;subst h;obtain⟨⟨U,q⟩,_⟩:=o;subst q;obtain⟨S,D⟩:=C.obj aM;unfold Nu.hdr;cases bM:(ν id).blk with
     |none=>
      have O:=qv D bM;refine⟨_,Lx f m d _ _,WR ?_⟩;rw[O];rfl
     |some b=>
      obtain⟨H,K,L,B,J,A,M,V⟩:=yE (e:=.int .u8) rfl D bM;have I:=LB _ _ A;simp only[←H];exact⟨_,Tw f m d xs (λj v N=>M j v (by simp_all)),WR rfl⟩
    grind
   grind
  grind
 grind
theorem Wwz{x:Operand}{o:Oper}(a:o.op= .nilCheck x){ρ:Operand->Value}{p:Addr}(h:ρ x= .pointer (some p)):(execOp ρ o).run P w= .ok (.value (.pointer (some p))) w:=by
 simp[execOp,a,h]
theorem Wtw{x r:AVal}{u:Value}(a:AValRel G ν st.nx x u)(h:z8 st x=some (true,r)):r=x/\∃p,u= .pointer (some p):=by
 unfold z8 at h;split at h
 .simp at h;subst h;obtain⟨⟨b,o,c,rfl,_⟩,_⟩:=a;simp_all
 .split at h
  .simp at h;subst h;obtain⟨⟨_,b,_,rfl⟩,_⟩:=a;simp_all
  grind
 .split at h
  .simp at h;subst h;obtain⟨⟨_,_,b,_,rfl⟩,_⟩:=a;simp_all
  grind
 .split at h
  .simp at h;subst h;obtain⟨⟨_,b,_,rfl⟩,_⟩:=a;simp_all
  grind
 grind
theorem Sd(f:Rel w0 F nt G0 G ν st a w):∀(l:List Operand) (c:List Nat),pk st l=some c->
  c.length=l.length/\∀(j d:Nat) (u:Value),c[j]?=some d->(l.map a.eval)[j]?=some u->d<st.nx/\u.oneCell'=true/\∃b,(ν d).blk=some b/\u= .pointer (some ⟨b,(ν d).off+0,none⟩)
 | [],c,h=>by simp[pk]at h;simp_all
 |o::l,c,h=>by
  simp only[pk]at h;split at h
  .rename_i d r h1 h2;injection h with h;subst h;obtain⟨k,q⟩:=Sd f l r h2;refine⟨by simp[k],λj i u e g=>?_⟩;cases j with
   |zero=>
    simp at e g;subst e g;obtain⟨⟨m,n⟩,p⟩:=WO f o _ h1;simp_all
   |succ j=>grind
  grind
theorem Rp(m:ao P T)(q:HRel w0 F G ν st.objs st.nx w){t:TypeId}{x:AVal}{u:Value}{r:AVal}(y:AValRel G ν st.nx x u)(h:qW T st t x=some r):
  Gives P G ν st w (Instr.loadAt t u) r:=by
 unfold qW at h;split at h
 .rename_i te hl;split at h
  .rename_i hp;split at h
   .rename_i id off;split at h
    .rename_i C aM;obtain⟨⟨_,b,n,rfl⟩,_⟩:=y;obtain⟨S,I,M,a,J,z,B,_⟩:=q.obj aM;rw[n]at a;injection a with a;subst a;obtain⟨v,L,D⟩:=Lj (m _ _ hl) hp B (o:=(ν id).off) z h;exact⟨v,by grind [Instr.loadAt,Instr.sureAddr],D⟩
    grind
   .rename_i id i off;split at h
    .rename_i e xs aM;obtain⟨⟨_,A,b,n,rfl⟩,_⟩:=y;obtain⟨S,s⟩:=q.obj aM;have K:=s.2.1;obtain⟨c,p,k,l⟩:=WsY s n (by rw[s.1];exact A);obtain⟨v,E,f⟩:=Lj (m _ _ hl) hp (F7 (ν:=ν) (nx:=st.nx) e _ _ _ k) (w:=w) (b:=b) (o:=(ν id).off+i*e.size) l h;exact⟨v,by grind [Instr.loadAt,Instr.sureAddr,dB],f⟩
    grind
   .rename_i t' d off;obtain⟨⟨b,o,C,rfl,k,l⟩,_⟩:=y;obtain⟨v,E,f⟩:=Lj (m _ _ hl) hp (ie (G:=G) (ν:=ν) (nx:=st.nx) t' d _ k) (w:=w) (b:=b) (o:=o) (λj v H=>q.g (l j v H)) h;exact⟨v,by grind [Instr.loadAt,Instr.sureAddr],f⟩
   grind
  grind
 grind
theorem UG{G:GH}{k:IntKind}:∀(xs:List Int) (cs:List Value),bG (Enc G (.int k)) xs cs->cs=xs.map λx=>Value.int k x
 | [],cs,h=>h
 |x::xs,cs,⟨a,b,c,d,e⟩=>by
  have:a= [.int k x]:=d;rw[c,this,UG xs b e];rfl
theorem Uf{k:IntKind}{xs:List Int}:∀(n i j:Nat),(ry k xs i n)[j]?=if j<n then some (.val (.int k) (xs.getD (i+j) (0:Int)))else none
 |0,i,j=>by simp[ry]
 |n+1,i,j=>by
  cases j with
  |zero=>simp[ry]
  |succ j=>
   rw[ry,List.getElem?_cons_succ,Uf n (i+1) j,show i+1+j=i+(j+1) by omega];simp_all
theorem UZ{k:IntKind}{xs:List Int}:∀(n i:Nat),(ry k xs i n).length=n
 |0,i=>rfl
 |n+1,i=>by rw[ry,Xs,UZ n (i+1)]
theorem WmG(s:ao P T)(z:HRel w0 F G ν st.objs st.nx w){t:TypeId}{x:AVal}{u:Value}{r:AVal}(C:AValRel G ν st.nx x u)(h:uf T st t x=some (true,r)):
  Gives P G ν st w (Instr.loadAt t u) r:=by
 unfold uf at h;split at h
 .rename_i k n et hl;split at h
  .rename_i id;split at h
   .rename_i k' xs aM;change List Int at xs;split at h
    .rename_i hk;subst hk;simp only[Option.some.injEq,Prod.mk.injEq,Wg]at h;obtain⟨m,rfl⟩:=h;obtain⟨⟨_,b,y,rfl⟩,_⟩:=C;obtain⟨S,A⟩:=z.obj aM;obtain⟨D,H,I,J,f,p,q,K⟩:=yE (e:=.int k') rfl A y;have g:=UG _ _ p;have i:=s _ _ hl;have L:(Go.isAgg t).run P w= .ok true w:=i.isAgg;have E:(Go.sizeOf t).run P w= .ok n w:=by have:=i.sizeOf (w:=w);grind [TE.size,Ty.size]
     have l:f.length=n:=by rw[g,Xt];exact m
     have B:=run_loadCells_list (P:=P) w ⟨b,(ν id).off,none⟩ f (λj v a=>by rw[gM];exact q j v a);rw[l]at B;refine⟨.agg f.toArray,?_,f,rfl,?_,λj c v a d=>?_⟩
     .simp_all [Instr.loadAt,Instr.sureAddr,Sem.run_bind,Sem.run_pure,Result.andThen_ok,loadVar,WN]
     .rw[UZ,l]
     .rw[Uf]at a;split at a
      .rename_i vF;injection a with a;subst a;rw[g,dF]at d;have o:j<Xb xs:=Nat.lt_of_lt_of_eq vF m.symm;rw[Xq o]at d;simp only[lr]at d;injection d with d;subst d;refine⟨?_,rfl⟩;simp[CellRel,Enc,o]
      .cases a
    grind
   grind
  grind
 grind
end
section
variable{w0:World}{F:CS}{nt:Slots}{G0 G:GH}{ν:Nat->Nu}{st:St}{a:Act}{w:World}{P:Program}{T:Tab}
theorem jK{o:Oper}{s:Sem Value}{r:AVal}(d:execOp a.eval o=(do pure (.value (←s))))(h:Gives P G ν st w s r):
  ∃v,(execOp a.eval o).run P w= .ok (.value v) w/\AValRel G ν st.nx r v:=by
 obtain⟨v,b,c⟩:=h;simp_all
theorem qw{α β:Type}{x:Option α}{f:α->Option (Bool×β)}{r:β}(h:x.bind f=some (true,r)):∃y,x=some y/\f y=some (true,r):=by
 cases x with
 |none=>simp at h
 |some y=>simp_all
theorem WoU(o:ao P T)(p:HRel w0 F G ν st.objs st.nx w){a:BinOp}{t:TypeId}{x y:AVal}{u v:Value}{r:AVal}(l m:Operand)(s:AValRel G ν st.nx x u)(z:AValRel G ν st.nx y v)
  (h:zZ T st a t x y=some (true,r)):Gives P G ν st w (do eqGuard a t l m u v;Go.binOp a t u v) r:=by
 unfold zZ at h;split at h
 .rename_i id;split at h
  .rename_i te e hl;have D:=(o _ _ hl).und.2.1;obtain⟨⟨_,q⟩,_⟩:=s;subst q;obtain⟨k,_⟩:=z;simp only[CellRel]at k;subst k;split at h
   .rename_i e' xs ho;have b:∀n:Nat,Ht 0 xs.length=true->(Op.equalIn (n+1) t (ν id).hdr (.slice none 0 0)).run P w= .ok false w:=λn f=>by
     have B:xs≠ []:=by rintro rfl;simp at f
     obtain⟨S,d⟩:=p.obj ho;have i:∃g,(ν id).hdr= .slice (some g) (ν id).len (ν id).cap:=by
      unfold Nu.hdr;obtain⟨A,_,d⟩:=d;cases f:(ν id).blk with
      |none=>simp_all
      |some g=>simp_all
     obtain⟨g,i⟩:=i;simp_all [Op.equalIn,Wl]
    have j:∀a,(eqGuard a t l m (ν id).hdr (.slice none 0 0)).run P w= .ok () w:=λa=>CJ (λC=>by unfold Nu.hdr;split<;>exactλh=>nomatch h) (by unfold Nu.hdr;split<;>exactλh=>nomatch h);split at h
    .simp only[Option.some.injEq,Prod.mk.injEq]at h;obtain⟨c,rfl⟩:=h;exact⟨.bool false,by simp[j,Go.binOp,Op.equal,Op.maxDepth,show(Op.equalIn 10000 t (ν id).hdr (.slice none 0 0)).run P w= .ok false w from b 9999 c],WR rfl⟩
    .simp only[Option.some.injEq,Prod.mk.injEq]at h;obtain⟨c,rfl⟩:=h;exact⟨.bool true,by simp[j,Go.binOp,Op.equal,Op.maxDepth,show(Op.equalIn 10000 t (ν id).hdr (.slice none 0 0)).run P w= .ok false w from b 9999 c],WR rfl⟩
    grind
   grind
  grind
 grind
theorem WqH(q:ao P T)(b:Rel w0 F nt G0 G ν st a w){o:Oper}{r:AVal}(h:b5 T st o.op=some (true,r)):
  ∃v,(execOp a.eval o).run P w= .ok (.value v) w/\AValRel G ν st.nx r v:=by
 obtain⟨J,L,E,S,I,guard⟩:=o;simp only at h;unfold b5 at h;split at h
 .rename_i x;cases hx:ev st x with
  |none=>simp_all
  |some v=>simp[hx]at h;subst h;exact⟨_,rfl,WO b x _ hx⟩
 .rename_i x;cases hx:ev st x with
  |none=>simp_all
  |some v=>simp[hx]at h;subst h;exact⟨_,rfl,WO b x _ hx⟩
 .rename_i c x y;split at h
  .rename_i p e;cases hc:ev st c with
   |none=>simp_all
   |some cv=>
    simp[hc]at e;have C:=MO _ _ _ (WO b c _ hc) e;split at h
    .rename_i m n g h3;simp at h;subst h;have D:=L3 (WO b x _ g);have N:=L3 (WO b y _ h3);refine⟨.bool (bif p then m else n),?_,WR rfl⟩;simp only[execOp,C,D,N,asBool];cases p<;>rfl
    .cases p with
     |true=>
      cases hx:ev st x with
      |none=>simp_all
      |some v=>simp[hx]at h;subst h;exact⟨a.eval x,by simp_all [execOp,asBool],WO b x _ hx⟩
     |false=>
      cases hx:ev st y with
      |none=>simp_all
      |some v=>simp[hx]at h;subst h;exact⟨a.eval y,by simp_all [execOp,asBool],WO b y _ hx⟩
  grind
 .rename_i t x;obtain⟨y,j,h⟩:=qw h;cases ha:uf T st t y with
  |some z=>rw[ha]at h;simp only[]at h;injection h with h;subst h;exact jK rfl (WmG q b.h (WO b x _ j) ha)
  |none=>
   rw[ha]at h;cases B:qW T st t y with
   |none=>simp_all
   |some z=>simp[B]at h;subst h;exact jK rfl (Rp q b.h (WO b x _ j) B)
 .rename_i x;obtain⟨y,j,h⟩:=qw h;obtain⟨rfl,p,O⟩:=Wtw (WO b x _ j) h;exact⟨_,Wwz rfl O,by grind [WO]⟩
 .rename_i L t x y _;split at h
  .rename_i u v e g;split at h
   .rename_i z hz;injection h with h;subst h;exact jK rfl (WoU q b.h x y (WO b x _ e) (WO b y _ g) hz)
   .exact jK rfl (Wo8 q x y (WO b x _ e) (WO b y _ g) h)
  grind
 .rename_i L t x;obtain⟨y,j,h⟩:=qw h;exact jK rfl (Wrv (WO b x _ j) h)
 .rename_i src J x;obtain⟨y,j,h⟩:=qw h;exact jK rfl (WmX q b.h (WO b x _ j) h)
 .rename_i t x lo hi;obtain⟨y,j,h⟩:=qw h;exact jK rfl (WlL q (WO b x _ j) (λl B=>qE b lo l B) (λl B=>qE b hi l B) h)
 .rename_i s x f;obtain⟨y,j,h⟩:=qw h;exact jK rfl (Whn q b.h (WO b x _ j) h)
 .rename_i s x f;obtain⟨y,j,h⟩:=qw h;exact jK rfl (Wmg q (WO b x _ j) h)
 .rename_i t x i;split at h
  .rename_i u v e g;exact jK rfl (Whe q b.h (WO b x _ e) (WO b i _ g) h)
  grind
 .rename_i t x i;split at h
  .rename_i u v e g;exact jK rfl (Wmb q (WO b x _ e) (WO b i _ g) h)
  grind
 .rename_i t ix;split at h
  .rename_i xs e;cases hx:xs[ix]? with
   |none=>simp_all
   |some y=>
    simp[hx]at h;subst h;obtain⟨M,Q,B,R⟩:=WO b t _ e;have K:ix<M.length:=by grind
    exact jK rfl ⟨M[ix],by simp[Q,Instr.extract,K],R ix y _ hx (Xq K)⟩
  grind
 .rename_i f first captured
  split at h
  .rename_i hf;cases hc:pk st captured.toList with
   |none=>simp_all
   |some ids=>
    simp[hc]at h;subst h;obtain⟨e,g⟩:=Sd b _ _ hc;have U:first= #[]:=by simp_all
    subst U;refine jK rfl ⟨.func (.func f) #[] (captured.map a.eval),by simp[Instr.makeFunc],⟨captured.toList.map a.eval,?_,?_,g⟩,rfl⟩
    .apply Wq
     grind
    grind
  grind
 .rename_i c;obtain⟨H,A,d⟩:=c;obtain⟨A⟩:=A;obtain⟨d⟩:=d;simp only at h;split at h
  .rename_i x t;obtain⟨y,j,h⟩:=qw h;obtain⟨v,e,g⟩:=Wpw (ty:=E) q b.h (WO b x _ j) h;refine⟨v,?_,g⟩;simp only[execOp,resolve,invoke,builtin,Sem.run_bind,Sem.run_pure,Result.andThen_ok,AF,bz,eX,e]
  .rename_i x y _ _;split at h
   .rename_i k m k' n e g;split at h
    .rename_i hk;subst hk;simp at h;subst h;have C:=zb (WO b x _ e);have D:=zb (WO b y _ g);refine⟨.int k (X0 m n),?_,WR rfl⟩;simp only[execOp,resolve,invoke,builtin,Sem.run_bind,Sem.run_pure,Result.andThen_ok,AF,bz,eX,C,D,Builtin.min_];rfl
    grind
   grind
  .rename_i x y _ _;split at h
   .rename_i k m k' n e g;split at h
    .rename_i hk;subst hk;simp at h;subst h;have C:=zb (WO b x _ e);have D:=zb (WO b y _ g);refine⟨.int k (mz m n),?_,WR rfl⟩;simp only[execOp,resolve,invoke,builtin,Sem.run_bind,Sem.run_pure,Result.andThen_ok,AF,bz,eX,C,D,Builtin.max_];rfl
    grind
   grind
  grind
 grind
end
section
variable{w0:World}{F:CS}{nt:Slots}{G0 G G':GH}{ν ν':Nat->Nu}{φ φ':Nat->CS}{objs objs':aa}{nx aq:Nat}{w w':World}{P:Program}{T:Tab}
theorem Live.of{id:Nat}{a:Ob}(h:Wt objs id=some a)(b:a≠ .dead):Live objs id:=⟨a,h,b⟩
theorem WJ{α:Type}(k:Nat)(v:α)(l:List (Nat×α))(i:Nat):Wt ((k,v)::l) i=if k=i then some v else Wt l i:=by
 simp only[Wt];by_cases h:k=i
 .subst h;simp
 .have:bq k i=false:=by
   grind [bq,absurd,vG]
  rw[this,We h]
theorem tO{α:Type}:∀(l m:List (Nat×α)) (i:Nat),Wt (l++m) i=match Wt l i with
  |some x=>some x
  |none=>Wt m i
 | [],m,i=>rfl
 |(k,v)::l,m,i=>by
  rw[List.cons_append,WJ,WJ];split
  .rfl
  .exact tO l m i
theorem HR.blk_lt_g(h:HR w0 F G ν φ objs nx w){b o:Nat}{v:Value}(a:G b o=some v):b<w.heap.size:=block_lt_of_cell (h.g b o v a)
theorem WLe.refl(S:CS)(w:World):WLe S w w:=⟨Xm _,λ_ a _ h=>⟨a,h,rfl⟩,λ_ _ _ _=>rfl,λ_ _ _=>rfl,rfl,rfl,rfl⟩
theorem WLe.mono{S e:CS}(h:WLe S w w')(f:CS.le S e):WLe e w w':=
 ⟨h.size,h.row,λb o a c=>h.cell b o a (λd=>c (f b o d)),λb a c=>h.whole b a (λo d=>c o (f b o d)),h.os,h.output,h.tape⟩
theorem WLe.same{S a:CS}(h:WLe S w w')(j:CS.disj S a)(i:∀b o,a b o->b<w.heap.size):Same a w w':=
 ⟨λb n ⟨k,T,f,l⟩=>by obtain⟨d,g,m⟩:=h.row b k T f;exact⟨d,T,g,by omega⟩,λb o c=>h.cell b o (i b o c) (λe=>j b o e c)⟩
theorem WLe.rows{S:CS}(h:WLe S w w'):Same (λ_ _=>False) w w':=
 ⟨λb n ⟨f,T,c,g⟩=>by obtain⟨a,d,i⟩:=h.row b f T c;exact⟨a,T,d,by omega⟩,λ_ _ e=>e.elim⟩
theorem WLe.trans{S d:CS}{c e f:World}(h:WLe S c e)(a:WLe d e f)(n:∀b o,d b o->c.heap.size<=b\/S b o):WLe S c f where
 size:=fP h.size a.size
 row b vs T hb:=by
  obtain⟨g,j,k⟩:=h.row b vs T hb;obtain⟨p,l,m⟩:=a.row b g T j;simp_all
 cell b o hb hn:=by
  rw[a.cell b o (lh hb h.size) (λi=>by grind)];exact h.cell b o hb hn
 whole b hb hn:=by
  rw[a.whole b (lh hb h.size) (λo i=>by grind)];exact h.whole b hb hn
 os:=a.os.trans h.os
 output:=a.output.trans h.output
 tape:=a.tape.trans h.tape
theorem WLe.alloc(S:CS)(a:World)(o:Obj)(c:a.heap=w.heap)(f:a.os=w.os)(e:a.output=w.output)(d:a.tape=w.tape):WLe S w (a.alloc o) where
 size:=by simp[c]
 row b g T hb:=by
  have h:b<w.heap.size:=(Array.getElem?_eq_some_iff.1 hb).1;exact⟨g,by grind [heap_alloc_old],rfl⟩
 cell b o' hb _:=World.cell?_of_block (by show(a.alloc o).heap[b]?=w.heap[b]?;rw[heap_alloc_old a o (by simp_all),c])
 whole b hb _:=by rw[heap_alloc_old a o (by simp_all),c]
 os:=f
 output:=e
 tape:=d
theorem WLe.setRow{S:CS}{b:Nat}{vs us:Array Value}{T:TypeId}(h:w.heap[b]?=some (Obj.cells vs T (0,0)))(d:us.size=vs.size)(c:∀o,¬S b o->us[o]?=vs[o]?):WLe S w (w.setRow b us) where
 size:=by simp
 row k a T' hk:=by
  by_cases e:k=b
  .grind [setRow_heap]
  .exact⟨a,by grind [setRow_other],rfl⟩
 cell k o hk hn:=by
  by_cases e:k=b
  .subst e;rw[cell_of_row _ k o us T (0,0) (setRow_heap w k vs us T (0,0) h),cell_of_row w k o vs T (0,0) h]
   grind
  grind [World.cell?_of_block,setRow_other]
 whole k hk hn:=by
  by_cases e:k=b
  .subst e;have:us=vs:=Array.ext_getElem? λo=>c o (hn o);rw[setRow_heap w k vs us T (0,0) h,h,this]
  grind [setRow_other]
 os:=rfl
 output:=rfl
 tape:=rfl
def Nr(φ:Nat->CS)(objs:aa):CS:=λb o=>∃a,Live objs a/\φ a b o
theorem HR.step(h:HR w0 F G ν φ objs nx w)(k:WLe (Nr φ objs) w w')
  (q:∀a ob,Wt objs' a=some ob->ob≠ .dead->dt G ν' aq w' a (φ' a) ob)
  (l:∀a,Live objs' a->a<aq)
  (j:∀a b o,Live objs' a->φ' a b o->Nr φ objs b o\/w.heap.size<=b)
  (n:∀a b o,Live objs' a->φ' a b o->b<w'.heap.size)
  (p:∀a d b o,Live objs' a->Live objs' d->φ' a b o->φ' d b o->a=d):
  HR w0 F G ν' φ' objs' aq w' where
 g b o v hg:=by
  rw[k.cell b o (h.blk_lt_g hg) (λ⟨a,c,hp⟩=>by rw[h.gf a b o c hp]at hg;cases hg)];exact h.g b o v hg
 ob a ob ho:=by
  by_cases m:ob= .dead
  .subst m;trivial
  simp_all
 gf a b o c hp:=by
  rcases j a b o c hp with⟨i,f,e⟩|eh
  .exact h.gf i b o f e
  .cases hg:G b o with
   |none=>rfl
   |some v=>have:=h.blk_lt_g hg;omega
 inj:=p
 own a b o c hp:=by
  rcases j a b o c hp with⟨i,f,e⟩|eh
  .exact h.own i b o f e
  .exact .inl (fP h.le.size eh)
 lt:=l
 bl:=n
 le:=h.le.trans k (λb o ⟨a,c,hp⟩=>h.own a b o c hp)
def D2(φ:Nat->CS)(i:Nat)(S:CS):Nat->CS:=λj=>if j=i then S else φ j
theorem DC(φ:Nat->CS)(i:Nat)(S:CS):D2 φ i S i=S:=by simp[D2]
theorem uu(φ:Nat->CS){i j:Nat}(S:CS)(h:j≠i):D2 φ i S j=φ j:=by simp[D2,h]
theorem C5:∀(l:List Nat) (a:Nat) (b:Ob),Wt (kill objs l) a=some b->b≠ .dead->Wt objs a=some b/\a∉l
 | [],a,b,h,_=>⟨h,by simp⟩
 |i::l,a,b,h,hd=>by
  simp only[kill]at h;rw[WJ]at h;split at h
  .simp_all
  .rename_i bI;obtain⟨c,d⟩:=C5 l a b h hd
   grind
theorem yL{l:List Nat}{a:Nat}(h:Live (kill objs l) a):Live objs a/\a∉l:=by
 obtain⟨c,d,b⟩:=h;obtain⟨e,f⟩:=C5 l a c d b;exact⟨⟨c,e,b⟩,f⟩
def Hh(φ:Nat->CS)(objs:aa)(t:Nat)(m:List Nat):CS:=λb o=>∃i,(i=t\/i∈m)/\Live objs i/\φ i b o
theorem HR.put(h:HR w0 F G ν φ objs nx w){t:Nat}{m:List Nat}{n:Ob}{S:CS}(E:my nx ν ν')(B:nx<=aq)(M:t<aq)
  (s:WLe (Hh φ objs t m) w w') (u:∀b o,S b o->Hh φ objs t m b o\/(w.heap.size<=b/\b<w'.heap.size))
  (L:n≠ .dead->dt G ν' aq w' t S n):HR w0 F G ν' (D2 φ t S) ((t,n)::kill objs m) aq w':=by
 have A:∀id e,Wt ((t,n)::kill objs m) id=some e->e≠ .dead->(id=t/\e=n)\/(id≠t/\id∉m/\Wt objs id=some e):=λid e r l=>by
  grind [WJ,C5]
 have q:∀id,Live ((t,n)::kill objs m) id->(id=t)\/(id≠t/\id∉m/\Live objs id):=λid ⟨e,r,l⟩=>by
  rcases A id e r l with⟨a,j⟩|⟨a,j,d⟩
  .omega
  .exact .inr ⟨a,j,e,d,l⟩
 refine h.step (s.mono λb o ⟨i,_,a,j⟩=>⟨i,a,j⟩) (λid e r l=>?_) (λid f=>?_) (λid b o f c=>?_) (λid b o f c=>?_) (λid g b o f H c y=>?_)
 .rcases A id e r l with⟨a,j⟩|⟨a,j,d⟩
  .grind [DC]
  .rw[uu φ S a];have f:Live objs id:=⟨e,d,l⟩;refine C1 (λ_ _ _ v=>v) (s.same (λb o ⟨i,D,I,J⟩ c=>?_) (λb o c=>h.bl id b o f c)) (λ_ _ v=>v) E B (h.lt id f) e (h.ob id e d);have:=h.inj i id b o I f J c;simp_all
 .rcases q id f with a|⟨_,_,d⟩
  .omega
  .exact lh (h.lt id d) B
 .rcases q id f with a|⟨a,_,d⟩
  .subst a;rw[DC]at c;rcases u b o c with⟨i,_,k,p⟩|k
   .exact .inl ⟨i,k,p⟩
   omega
  .rw[uu φ S a]at c;exact .inl ⟨id,d,c⟩
 .rcases q id f with a|⟨a,_,d⟩
  .subst a;rw[DC]at c;rcases u b o c with⟨i,_,k,p⟩|k
   .exact lh (h.bl i b o k p) s.size
   omega
  .rw[uu φ S a]at c;exact lh (h.bl id b o d c) s.size
 .have key:∀g,g≠t->g∉m->Live objs g->φ g b o->S b o->False:=λg a j d k p=>by
   rcases u b o p with⟨i,D,z,C⟩|z
   .have:=h.inj i g b o z d C k;simp_all
   .have:=h.bl g b o d k;omega
  rcases q id f with a|⟨a,j,d⟩<;>rcases q g H with x|⟨x,N,K⟩
  .rw[a,x]
  .simp_all [DC,uu]
  .simp_all [DC,uu]
  .rw[uu φ S a]at c;rw[uu φ S x]at y;exact h.inj id g b o d K c y
theorem HR.drew(h:HR w0 F G ν φ objs nx w):HR w0 F G ν φ objs nx w.drew:=by
 have i:WLe (Nr φ objs) w w.drew:=⟨Xm _,λ_ j _ h=>⟨j,h,rfl⟩,λ_ _ _ _=>rfl,λ_ _ _=>rfl,rfl,rfl,rfl⟩;exact h.step i (λa f g _=>C1 (w:=w) (w':=w.drew) (S:=φ a) (λ_ _ _ c=>c) ⟨λ_ _ c=>c,λ_ _ _=>rfl⟩ (λ_ _ c=>c) (λ_ _=>rfl) (Xm _) (h.lt a ⟨f,g,by assumption⟩) f (h.ob a f g))
  h.lt (λa b o d e=>.inl ⟨a,d,e⟩) (λa b o d e=>h.bl a b o d e) h.inj
theorem HRel.drew(h:HRel w0 F G ν objs nx w):HRel w0 F G ν objs nx w.drew:=by
 obtain⟨φ,h⟩:=h;exact⟨φ,h.drew⟩
end
section
variable{w0:World}{F:CS}{nt:Slots}{G0 G G':GH}{ν ν':Nat->Nu}{st:St}{a:Act}{w w':World}{P:Program}{T:Tab}
theorem Rel.put(h:Rel w0 F nt G0 G ν st a w){dst:Option Tmp}(c:∀d,dst=some d->nt.Ok d){x:AVal}{v:Value}(k:AValRel G ν st.nx x v):Rel w0 F nt G0 G ν (st.put dst x) (a.put dst v) w:=by
 cases dst with
 |none=>exact h
 |some d=>
  have g:d<a.tmps.size:=by rw[h.ntm];exact(c d rfl).1
  refine⟨h.defers,by simpa [Act.put]using h.ntm,λp f=>?_,λi y b=>?_,h.h,h.gx,h.ex⟩
  .simp only[Act.put];rw[Yk (λe=>(c d rfl).2 p f e.symm)];exact h.par p f
  simp only[St.put]at b;rw[WJ]at b;split at b
  .rename_i e;subst e;injection b with b;subst b;exact⟨v,by simp[Act.put,g],k⟩
  .rename_i bI;obtain⟨u,l,j⟩:=h.env i y b;exact⟨u,by grind [Act.put,Yk],j⟩
theorem Rel.on(h:Rel w0 F nt G0 G ν st a w){objs':aa}{aq:Nat}(c:GLe G G')(e:my st.nx ν ν')(g:st.nx<=aq)
  (d:HRel w0 F G' ν' objs' aq w') (b:GExt w0.heap.size F G0 G'):Rel w0 F nt G0 G' ν' {env:=st.env,objs:=objs',nx:=aq} a w':=
 ⟨h.defers,h.ntm,h.par,λi y j=>by
  obtain⟨u,l,k⟩:=h.env i y j
  grind [AValRel.mono],d,b,λx v f=>AValRel.mono c e g x v (h.ex x v f)⟩
def upd(ν:Nat->Nu)(i:Nat)(n:Nu):Nat->Nu:=λj=>if j=i then n else ν j
theorem np(ν:Nat->Nu)(i:Nat)(n:Nu):my i ν (upd ν i n):=λj a=>by simp[upd];omega
theorem d7(ν:Nat->Nu)(i:Nat)(n:Nu):upd ν i n i=n:=by simp[upd]
theorem Rel.lay(h:Rel w0 F nt G0 G ν st a w){dst:Option Tmp}(c:∀d,dst=some d->nt.Ok d){objs':aa}{aq:Nat}(e:my st.nx ν ν')(g:st.nx<=aq)
  (b:HRel w0 F G ν' objs' aq w') {x:AVal} {v:Value} (f:AValRel G ν' aq x v):Rel w0 F nt G0 G ν' (({env:=st.env,objs:=objs',nx:=aq}:St).put dst x) (a.put dst v) w':=
 (h.on (λ_ _ _ b=>b) e g b h.gx).put c f
theorem Rel.fresh(h:Rel w0 F nt G0 G ν st a w){dst:Option Tmp}(i:∀d,dst=some d->nt.Ok d)(m:List Nat)(e:Ob)(nu:Nu)(S:(Nat->CS)->CS)(x:AVal)(v:Value)
  (k:∀φ,HR w0 F G ν φ st.objs st.nx w->WLe (Hh φ st.objs st.nx m) w w') (g:∀φ,HR w0 F G ν φ st.objs st.nx w->∀b o,S φ b o->Hh φ st.objs st.nx m b o\/(w.heap.size<=b/\b<w'.heap.size))
  (f:∀φ,HR w0 F G ν φ st.objs st.nx w->dt G (upd ν st.nx nu) (st.nx+1) w' st.nx (S φ) e)
  (j:AValRel G (upd ν st.nx nu) (st.nx+1) x v):
  Rel w0 F nt G0 G (upd ν st.nx nu) (({env:=st.env,objs:=(st.nx,e)::kill st.objs m,nx:=st.nx+1}:St).put dst x) (a.put dst v) w':=by
 obtain⟨φ,c⟩:=h.h;exact h.lay i (np ν st.nx nu) (nZ _) ⟨_,c.put (np ν st.nx nu) (nZ _) (j3 _) (k φ c) (g φ c) (λ_=>f φ c)⟩ j
theorem Rel.new(h:Rel w0 F nt G0 G ν st a w){dst:Option Tmp}(f:∀d,dst=some d->nt.Ok d)(c:Ob)(nu:Nu)(x:AVal)(v:Value)
  (k:WLe (λ_ _=>False) w w')
  (e:dt G (upd ν st.nx nu) (st.nx+1) w' st.nx (λb _=>w.heap.size<=b/\b<w'.heap.size) c)
  (j:AValRel G (upd ν st.nx nu) (st.nx+1) x v):
  Rel w0 F nt G0 G (upd ν st.nx nu) (st.new dst c x) (a.put dst v) w':=
 h.fresh f [] c nu (λ_ b _=>w.heap.size<=b/\b<w'.heap.size) x v (λφ _=>k.mono λ_ _ g=>g.elim) (λφ _ b o i=>.inr i) (λφ _=>e) j
end
theorem Wtq{v:Value}(h:v.oneCell'=true):v.cells= #[v]:=by
 cases v<;>first|rfl|simp[Value.oneCell']at h
section
variable{w0:World}{F:CS}{nt:Slots}{G0 G:GH}{ν:Nat->Nu}{objs:aa}{nx:Nat}{st:St}{a:Act}{w w':World}{P:Program}{T:Tab}
theorem NF:∀(t:Ty),t.data=true->Enc G t t.dflt (cH t)
 | .int _,_=>rfl
 | .bool,_=>rfl
 | .str,_=>rfl
 | .slice e,_=>⟨_,rfl,.inl ⟨rfl,rfl⟩⟩
 | .own _,h=>by simp[Ty.data]at h
 | .prod a b,h=>by
  simp only[Ty.data,Xh]at h;exact⟨_,_,rfl,NF a h.1,NF b h.2⟩
theorem Hf:∀(t:Ty),CellsRel G ν nx (mc t) (cH t)
 | .int _=>CellsRel.one rfl rfl
 | .bool=>CellsRel.one rfl rfl
 | .str=>CellsRel.one rfl rfl
 | .slice e=>CellsRel.one rfl rfl
 | .own _=>CellsRel.one trivial rfl
 | .prod a b=>(Hf a).append (Hf b)
theorem mU:∀(t:Ty),(cH t).length=t.size
 | .int _| .bool| .str| .slice _| .own _=>rfl
 | .prod a b=>by simp[cH,mU a,mU b,Ty.size]
theorem Gh{α:Type}(l:List α):∀n,(rep l n).length=n*l.length
 |0=>by simp[rep]
 |n+1=>by rw[rep,Xz,Gh l n,eY,pT]
theorem zk{e:Ty}(h:e.data=true):∀n,bG (Enc G e) (Xk n e.dflt) (rep (cH e) n)
 |0=>rfl
 |n+1=>⟨_,_,rfl,NF e h,zk h n⟩
theorem y7{t:TypeId}{a:TE}(b:TEok P T t a):∃z,(zeroValue t).run P w= .ok z w/\z.cells.toList=a.cells:=by
 obtain⟨i,z,d,_,e,c,_⟩:=b.info;simp_all [zeroValue,RF]
theorem tN{a:TE}(h:a.plain=true):a.cells=cH a.ty:=by
 unfold TE.plain at h;unfold TE.cells;split at h<;>simp_all
theorem Ma(w:World)(o:Obj):(w.alloc o).heap[w.heap.size]?=some o:=heap_alloc_new w o
theorem zty:∀(t:Ty),∃f,WC G w t t.dflt (cH t.ro) f/\∀p∈f,p.fp= λ_ _=>False
 | .int _=>⟨[],⟨rfl,rfl⟩,by simp⟩
 | .bool=>⟨[],⟨rfl,rfl⟩,by simp⟩
 | .str=>⟨[],⟨rfl,rfl⟩,by simp⟩
 | .slice e=>⟨[],⟨rfl,_,rfl,.inl ⟨rfl,rfl⟩⟩,by simp⟩
 | .own e=>⟨[⟨⟨none,0,0,0,e.size⟩,λ_ _=>False⟩],⟨_,rfl,rfl,rfl,rfl,rfl⟩,by simp⟩
 | .prod a b=>by
  obtain⟨c,g,i⟩:=zty a;obtain⟨d,h,j⟩:=zty b;refine⟨c++d,⟨_,_,c,d,rfl,rfl,g,h⟩,λp k=>?_⟩
  grind
theorem V0(e:Ty):∀n,∃c,cq (WC G w e) (Xk n e.dflt) (rep (cH e.ro) n) c/\∀p∈c,p.fp= λ_ _=>False
 |0=>⟨[],⟨rfl,rfl⟩,by simp⟩
 |n+1=>by
  obtain⟨a,d,g⟩:=zty (G:=G) (w:=w) e;obtain⟨b,f,h⟩:=V0 e n;refine⟨a++b,⟨_,_,a,b,rfl,rfl,d,f⟩,λp i=>?_⟩
  grind
theorem Tr:∀(a:List Pc),(∀p∈a,p.fp= λ_ _=>False)->Sep (a.map Pc.fp)
 | [],_=>List.Pairwise.nil
 |p::a,h=>Xu.2 ⟨λs _ b o d _=>by simp_all,Tr a λq c=>h q (Xg _ c)⟩
theorem VO(h:Rel w0 F nt G0 G ν st a w){dst:Option Tmp}(e:∀d,dst=some d->nt.Ok d){cs:List Cell}{vs:Array Value}{t:TypeId}(c:CellsRel G ν st.nx cs vs.toList):
  ∃ν',Rel w0 F nt G0 G ν' (st.new dst (.box cs) (.s (.one (.ptr st.nx 0)))) (a.put dst (.pointer (some ⟨w.heap.size,0,none⟩))) (w.alloc (.cells vs t)):=by
 refine⟨upd ν st.nx ⟨some w.heap.size,0,0,0,0⟩,h.new e (.box cs) _ _ _ (WLe.alloc _ w _ rfl rfl rfl rfl) ?_ ?_⟩
 .have hl:vs.size=cs.length:=by have:=c.1;omega
  refine⟨w.heap.size,vs.toList,by rw[d7],⟨vs,t,Ma w _,by grind [d7]⟩,?_,c.mono (λ_ _ _ f=>f) (np _ _ _) (nZ _),λb o ⟨g,_⟩=>by simp_all⟩;rw[d7];exact VB (Ma w _) (λj v i=>by simp_all)
 .exact⟨⟨j3 _,w.heap.size,by rw[d7],by rw[d7]⟩,rfl⟩
def FromL(φ:Nat->CS)(objs:aa)(m:List Nat):CS:=λb o=>∃i∈m,Live objs i/\φ i b o
theorem F8(h:Rel w0 F nt G0 G ν st a w){dst:Option Tmp}(M:∀d,dst=some d->nt.Ok d)(m:List Nat){e:Ty}{xs:List e.den}{cap:Nat}{vs:Array Value}{t:TypeId}{cs:List Value}(S:xs.length<=cap)(T:cap<=maxLen)
  (V:vs.size=cap*e.size) (L:∀φ,HR w0 F G ν φ st.objs st.nx w->∃n,cq (WC G w e) xs cs n/\Sep (n.map Pc.fp)/\∀p∈n,CS.le p.fp (FromL φ st.objs m)) (O:cs<+:vs.toList)
  (f:World) (I:f.heap=w.heap) (H:f.os=w.os) (D:f.output=w.output) (C:f.tape=w.tape):
  (∃ν',Rel w0 F nt G0 G ν' (({env:=st.env,objs:=(st.nx,.arr e xs)::kill st.objs m,nx:=st.nx+1}:St).put dst (.s (.one (.own st.nx)))) (a.put dst (.slice (some ⟨w.heap.size,0,none⟩) xs.length cap)) (f.alloc (.cells vs t)))/\
  (∃ν',Rel w0 F nt G0 G ν' (({env:=st.env,objs:=(st.nx,.arr e xs)::kill st.objs m,nx:=st.nx+1}:St).put dst (.s (.one (.aptr st.nx)))) (a.put dst (.pointer (some ⟨w.heap.size,0,none⟩))) (f.alloc (.cells vs t))):=by
 have E:(f.alloc (.cells vs t)).heap[w.heap.size]?=some (Obj.cells vs t (0,0)):=by grind [Ma]
 have r:∀(x:AVal) (v:Value),AValRel G (upd ν st.nx ⟨some w.heap.size,0,xs.length,cap,e.size⟩) (st.nx+1) x v->
   ∃ν',Rel w0 F nt G0 G ν' (({env:=st.env,objs:=(st.nx,.arr e xs)::kill st.objs m,nx:=st.nx+1}:St).put dst x) (a.put dst v) (f.alloc (.cells vs t)):=λx v R=>by
  refine⟨upd ν st.nx ⟨some w.heap.size,0,xs.length,cap,e.size⟩,h.fresh M m (.arr e xs) _ (λφ b o=>FromL φ st.objs m b o\/b=w.heap.size) x v (λφ _=>WLe.alloc _ f _ I H D C) (λφ z b o g=>?_) (λφ z=>?_) R⟩
  .rcases g with⟨i,N,u,y⟩|g
   .exact .inl ⟨i,.inr N,u,y⟩
   simp_all
  .obtain⟨n,u,y,B⟩:=L φ z;have U:∀p∈n,∀b o,p.fp b o->b<w.heap.size:=λp l b o k=>by
    obtain⟨i,_,J,K⟩:=B p l b o k;exact z.bl i b o J K
   show ah (f.alloc (.cells vs t)) (WC G _ e) e.size (upd ν st.nx ⟨some w.heap.size,0,xs.length,cap,e.size⟩ st.nx) xs _;rw[d7];refine⟨rfl,rfl,S,T,⟨vs,t,E,by simp_all⟩,cs,n,?_,?_,Xu.2 ⟨λs g b o ⟨W,_⟩ A=>?_,y⟩,λs g b o A=>?_⟩
   .refine oY (Q:=λp=>∀b o,p.fp b o->b<w.heap.size) (λx c p l k=>?_) _ _ _ U u;exact kq (λ_ _ _ k=>k) e x c p (λq P=>(WLe.alloc (λ_ _=>False) f _ I H D C).same (λ_ _ k _=>k) (l q P)) k
   .obtain⟨Y,Z⟩:=O;exact VB E (λj v X=>by grind)
   .obtain⟨p,l,rfl⟩:=Xv.1 g
    grind
   .rcases Xr.1 g with rfl|g
    .exact .inr A.1
    .obtain⟨p,l,rfl⟩:=Xv.1 g;exact .inl (B p l b o A)
 refine⟨r _ _ ⟨⟨j3 _,?_⟩,rfl⟩,r _ _ ⟨⟨j3 _,w.heap.size,by rw[d7],by rw[d7]⟩,rfl⟩⟩;rw[d7];rfl
theorem MC(h:Rel w0 F nt G0 G ν st a w){dst:Option Tmp}(g:∀d,dst=some d->nt.Ok d){e:Ty}(i:e.data=true){xs:List e.den}{cap:Nat}{vs:Array Value}{t:TypeId}{cs:List Value}(k:xs.length<=cap)(m:cap<=maxLen)
  (c:vs.size=cap*e.size) (f:bG (Enc G e) xs cs) (j:cs<+:vs.toList) (b:World) (p:b.heap=w.heap) (o:b.os=w.os) (n:b.output=w.output) (l:b.tape=w.tape):
  (∃ν',Rel w0 F nt G0 G ν' (st.new dst (.arr e xs) (.s (.one (.own st.nx)))) (a.put dst (.slice (some ⟨w.heap.size,0,none⟩) xs.length cap)) (b.alloc (.cells vs t)))/\
  (∃ν',Rel w0 F nt G0 G ν' (st.new dst (.arr e xs) (.s (.one (.aptr st.nx)))) (a.put dst (.pointer (some ⟨w.heap.size,0,none⟩))) (b.alloc (.cells vs t))):=
 F8 h g [] k m c (λφ _=>⟨[],(qx i xs cs []).2 ⟨f,rfl⟩,List.Pairwise.nil,by simp⟩) j b p o n l
theorem yO{x:AVal}{v:Value}{cs:List Cell}(e:AValRel G ν nx x v)(a:jN x=some cs):CellsRel G ν nx cs v.cells.toList/\∀u∈v.cells.toList,u.oneCell'=true:=by
 cases x with
 |tup xs=>simp[jN]at a
 |s y=>
  cases y with
  |one c=>
   simp[jN]at a;subst a;obtain⟨b,h⟩:=e
   grind [Wtq,CellsRel.one]
  |agg ds=>
   simp[jN]at a;subst a;obtain⟨i,rfl,b⟩:=e;refine⟨by grind [Value.cells],λu d=>?_⟩;simp[Value.cells]at d;obtain⟨j,g⟩:=List.getElem?_of_mem d;have f:j<ds.length:=by rw[←b.1];grind
   exact(b.2 j _ u (Xq f) g).2
theorem yv(t:TypeId)(vs:Array Value):(newRow t vs).run P w= .ok ⟨w.heap.size,0,none⟩ (w.alloc (.cells vs t)):=rfl
theorem FB{cs a:List Cell}{off:Nat}(h:off+a.length<=cs.length):(kB cs off a).length=cs.length:=by
 simp[kB];omega
theorem Fr{cs a:List Cell}{vs us:List Value}{off:Nat}(b:CellsRel G ν nx cs vs)(c:CellsRel G ν nx a us):
  CellsRel G ν nx (kB cs off a) (vs.take off++us++vs.drop (off+us.length)):=by
 rw[c.1];exact((b.take off).append c).append (b.drop _)
theorem Lt(us:List Value):∀(off k:Nat) (cs:Array Value),off+k+us.length<=cs.size->
  ((us.zipIdx k).foldl (λcs (c,j)=>cs.setIfInBounds (off+j) c) cs).toList=cs.toList.take (off+k)++us++cs.toList.drop (off+k+us.length):=by
 induction us with
 |nil=>simp_all
 |cons u us ih=>
  intro off k cs h;simp only[List.zipIdx_cons,List.foldl_cons,Xs]at h⊢;rw[ih off (k+1) _ (by simp;omega)];have a:off+k<cs.toList.length:=by simp;omega
  simp only[Array.toList_setIfInBounds];generalize cs.toList=l at*;have b:(l.set (off+k) u).take (off+(k+1))=l.take (off+k)++ [u]:=by
   rw[←dB,List.take_succ_eq_append_getElem (by simp_all),List.take_set_of_le (Xm _)];simp
  grind [List.drop_set_of_lt]
end
section
variable{w0:World}{F:CS}{nt:Slots}{G0 G:GH}{ν:Nat->Nu}{objs:aa}{nx:Nat}{st ai:St}{a:Act}{w w':World}{P:Program}{T:Tab}
def Done(P:Program)(w0:World)(F:CS)(nt:Slots)(G0:GH)(o:Oper)(a:Act)(w:World)(ai:St):Prop:=
 ∃n v w' G' ν',(execOp a.eval o).run P w= .ok n w'/\(n= .value v\/(n= .skip/\v=undef))/\Rel w0 F nt G0 G' ν' ai (a.put o.dst v) w'
theorem FR(e:Rel w0 F nt G0 G ν st a w):∀(l:List (Nat×Operand)) (b:List (Nat×AVal)),kx st l=some b->
  b.length=l.length/\∀(j:Nat) (p:Nat×AVal) (q:Nat×Operand),b[j]?=some p->l[j]?=some q->p.1=q.1/\AValRel G ν st.nx p.2 (a.eval q.2)
 | [],b,h=>by simp[kx]at h;simp_all
 |(i,x)::l,b,h=>by
  simp only[kx]at h;split at h
  .rename_i y ys h1 h2;injection h with h;subst h;obtain⟨f,g⟩:=FR e l ys h2;refine⟨by simp[f],λj p q c d=>?_⟩;cases j with
   |zero=>simp at c d;subst c d;exact⟨rfl,WO e x _ h1⟩
   |succ j=>grind
  grind
theorem Sn(A:ao P T){m:List (Nat×TypeId)}{a:Nat->Option (Nat×Nat)}
  (r:∀(i off:Nat) (b:TypeId) (d:TE),m[i]?=some (off,b)->Wt T b=some d->a i=some (off,d.size)) (n:∀(i off:Nat) (b:TypeId) (d:TE),m[i]?=some (off,b)->Wt T b=some d->d.plain=true):
  ∀(l:List (Nat×AVal)) (e:List (Nat×Value)) (cs dj:List Cell) (vs:Array Value),CellsRel G ν nx cs vs.toList->e.length=l.length->
   (∀(j:Nat) (p:Nat×AVal) (q:Nat×Value),l[j]?=some p->e[j]?=some q->p.1=q.1/\AValRel G ν nx p.2 q.2)->rr T m l cs=some dj->
   ∃f,Instr.fill a vs e=some f/\CellsRel G ν nx dj f.toList
 | [],[],cs,dj,vs,g,_,_,h=>by simp[rr]at h;subst h;exact⟨vs,rfl,g⟩
 |(i,x)::l,[],_,_,_,_,k,_,_=>by simp at k
 | [],_::_,_,_,_,_,k,_,_=>by simp at k
 |(i,x)::l,(i',v)::e,cs,dj,vs,g,k,u,h=>by
  obtain⟨t,w⟩:=u 0 _ _ rfl rfl;simp only at t w;subst t;simp only[rr]at h;split at h
  .rename_i off b hf;split at h
   .rename_i d ds cp jG;split at h
    .rename_i bV;simp only[Xh,Wg]at bV;obtain⟨D,E⟩:=bV;obtain⟨s,_⟩:=yO w jG;have C:v.cells.size=ds.length:=by have:=s.1;omega
     have I:vs.size=cs.length:=by have:=g.1;omega
     have J:=n _ _ _ _ hf cp;have o:=Lt v.cells.toList off 0 vs (by simp;omega);simp only[c5,fi]at o;have B:CellsRel G ν nx (kB cs off ds) (v.cells.toList.zipIdx.foldl (λcs (c,j)=>cs.setIfInBounds (off+j) c) vs).toList:=by
      rw[o];have:=Fr (off:=off) g s;omega
     obtain⟨f,y,z⟩:=Sn A r n l e _ dj _ B (by simp_all) (λj p q F H=>u (j+1) p q (by simp_all) (by simp_all)) h;refine⟨f,?_,z⟩;simp only[Instr.fill,r _ _ _ _ hf cp];rw[We (by grind [W1])];rw[←y];congr 1;rw[←Array.foldl_toList];simp
    grind
   grind
  grind
theorem Ri{α β:Type}(f:α->Sem β)(g:α->β):∀(l:List α),(∀x∈l,(f x).run P w= .ok (g x) w)->(l.mapM f).run P w= .ok (l.map g) w
 | [],_=>by simp
 |x::l,h=>by
  simp only[Ed,Sem.run_bind,h x (Xl ..),Result.andThen_ok,Ri f g l (λy a=>h y (Xg _ a)),Sem.run_pure,bz]
theorem WnY{α β:Type}(f:α->Sem β)(g:α->β)(l:Array α)(h:∀x∈l,(f x).run P w= .ok (g x) w):(l.mapM f).run P w= .ok (l.map g) w:=by
 rw[Array.mapM_eq_mapM_toList];simp only[Sem.run_map,Ri f g l.toList (λx a=>h x (by simp_all)),Result.andThen_ok];congr 1
 grind
theorem WqV(r:ao P T)(B:Rel w0 F nt G0 G ν st a w){o:Oper}(L:∀d,o.dst=some d->nt.Ok d){t:TypeId}{c:Array (Nat×Operand)}(N:o.op= .build t c)
  {ty:Ty} {h:List (Nat×TypeId)} {u:List (Nat×AVal)} {cs:List Cell} (M:Wt T t=some ⟨ty,true,.struct h⟩) (E:kx st c.toList=some u) (l:rr T h u (mc ty)=some cs)
  (y:∀f∈h,∃e,Wt T f.2=some e/\e.plain=true):
  Done P w0 F nt G0 o a w (st.put o.dst (.s (.agg cs))):=by
 have v:=r _ _ M;obtain⟨_,b,O,V,_⟩:=v.und;obtain⟨z,Q,H⟩:=y7 (w:=w) v;obtain⟨I,W⟩:=FR B _ _ E;have D:∀f∈b,∃e,Wt T f.type=some e/\e.plain=true:=λf l=>y (f.offset,f.type) (by grind)
 let m:Field->Nat:=λf=>match Wt T f.type with|some e=>e.size|none=>0
 have C:(b.mapM λf=>(do pure (f.offset,←sizeOf f.type):Sem (Nat×Nat))).run P w= .ok (b.map λf=>(f.offset,m f)) w:=by
  refine WnY _ (λf=>(f.offset,m f)) b (λf l=>?_);obtain⟨e,g,_⟩:=D f l;simp[m,(r _ _ g).sizeOf,g]
 have R:∀(i off:Nat) (k:TypeId) (e:TE),h[i]?=some (off,k)->Wt T k=some e->(b.map λf=>(f.offset,m f))[i]?=some (off,e.size):=λi off k e A g=>by
  grind
 have S:CellsRel G ν st.nx (mc ty) z.cells.toList:=by
  rw[H];exact Hf ty
 obtain⟨n,J,K⟩:=Sn r R (λi off k e A g=>by
   obtain⟨U,X,Y⟩:=y _ (List.mem_of_getElem? A);simp_all) u (c.toList.map λp=>(p.1,a.eval p.2)) _ cs z.cells S (by simp[I]) (λj p q Z hq=>by
   grind) l
 refine⟨.value (.agg n),.agg n,w,G,ν,?_,.inl rfl,B.put L ⟨n.toList,by simp,K⟩⟩;simp only[execOp,N,Instr.build,Sem.run_bind,Q,Result.andThen_ok,Wl O,C];have:(c.map λx=>match x with|(i,x)=>(i,a.eval x)).toList=c.toList.map λp=>(p.1,a.eval p.2):=by simp
 rw[this,J];rfl
theorem Wq5(c:ao P T)(g:Rel w0 F nt G0 G ν st a w){o:Oper}(e:∀d,o.dst=some d->nt.Ok d){t:TypeId}(j:o.op= .alloc t){b:TE}(f:Wt T t=some b)(k:b.plain=true):
  Done P w0 F nt G0 o a w (st.new o.dst (.box (mc b.ty)) (.s (.one (.ptr st.nx 0)))):=by
 obtain⟨z,l,i⟩:=y7 (w:=w) (c _ _ f);obtain⟨ν',h⟩:=VO (t:=t) (vs:=z.cells) g e (cs:=mc b.ty) (by grind [tN,Hf]);refine⟨_,_,_,G,ν',?_,.inl rfl,h⟩;simp_all [execOp,Instr.alloc,Sem.run_bind,Result.andThen_ok,newVar,yv,Sem.run_pure]
theorem WlB(i:ao P T)(m:Rel w0 F nt G0 G ν st a w){o:Oper}(j:∀d,o.dst=some d->nt.Ok d){t:TypeId}(q:o.op= .alloc t){e:Ty}{n:Nat}{f:TypeId}(k:Wt T t=some ⟨e,true,.arr n f⟩)(b:e.data=true)(p:Wx n=true):
  Done P w0 F nt G0 o a w (st.new o.dst (.arr e (Xk n e.dflt)) (.s (.one (.aptr st.nx)))):=by
 obtain⟨z,r,g⟩:=y7 (w:=w) (i _ _ k);have l:n<=maxLen:=by grind [Wx,maxLen]
 have c:z.cells.size=n*e.size:=by
  grind [fi,TE.cells,Gh,mU]
 obtain⟨_,ν',h⟩:=MC (t:=t) (vs:=z.cells) m j (e:=e) b (xs:=Xk n e.dflt) (cap:=n) (cs:=rep (cH e) n) (by simp) l c (zk b n) (by rw[g];exact List.prefix_refl _) w rfl rfl rfl rfl;refine⟨_,_,_,G,ν',?_,.inl rfl,h⟩;simp_all [execOp,Instr.alloc,Sem.run_bind,Result.andThen_ok,newVar,yv,Sem.run_pure]
theorem Wu6(b:Rel w0 F nt G0 G ν st a w){o:Oper}(f:∀d,o.dst=some d->nt.Ok d){t:TypeId}{x:Operand}(g:o.op= .box t x){v:AVal}{cs:List Cell}(i:ev st x=some v)(e:jN v=some cs):
  Done P w0 F nt G0 o a w (st.new o.dst (.box cs) (.s (.one (.ptr st.nx 0)))):=by
 obtain⟨c,_⟩:=yO (WO b x _ i) e;obtain⟨ν',h⟩:=VO (t:=t) b f c;refine⟨_,_,_,G,ν',?_,.inl rfl,h⟩;simp only[execOp,g,Instr.box,Sem.run_bind,Result.andThen_ok,newVar,yv,Sem.run_pure]
theorem Wsa(f:ao P T)(b:Rel w0 F nt G0 G ν st a w){o:Oper}(g:∀d,o.dst=some d->nt.Ok d){r:AVal}(h:b5 T st o.op=some (true,r)):Done P w0 F nt G0 o a w (st.put o.dst r):=by
 obtain⟨v,c,e⟩:=WqH f b h;exact⟨_,v,w,G,ν,c,.inl rfl,b.put g e⟩
end
theorem K5{t a:Ty}{d:t.den}{d':a.den}(h:DE t a d=some d'):∃e:t=a,e▸d=d':=by
 grind [DE]
theorem jB{e e':Ty}{d:List e.den}{d':List e'.den}(h:iZ e e' d=some d'):∃a:e=e',a▸d=d':=by
 grind [iZ]
theorem Wtr{A a:Type}(b:A=a)(h:List A=List a)(l:List A)(i:Nat):cast h (l.take i)=(cast h l).take i:=by
 grind
theorem WtZ{A a:Type}(b:A=a)(h:List A=List a)(l:List A)(i:Nat):cast h (l.drop i)=(cast h l).drop i:=by
 grind
theorem Wrj(e:Ty)(l:List e.den)(i:Nat):du e (l.take i)=(du e l).take i:=Wtr (kI e).symm _ l i
theorem Wq9(e:Ty)(l:List e.den)(i:Nat):du e (l.drop i)=(du e l).drop i:=WtZ (kI e).symm _ l i
section
variable{w0:World}{F:CS}{G G':GH}{ν:Nat->Nu}{φ:Nat->CS}{objs:aa}{nx:Nat}{w:World}
def Lent(G':GH)(w:World)(φ:Nat->CS)(objs:aa)(l:List Nat):Prop:=∀a∈l,Live objs a->Froz G' w (φ a)
theorem Lent.mono{l m:List Nat}(h:Lent G' w φ objs m)(c:∀i∈l,i∈m):Lent G' w φ objs l:=λa b=>h a (c a b)
theorem CellsRel.single{c:Cell}{vs:List Value}(h:CellsRel G ν nx [c] vs):∃v,vs= [v]/\CellRel G ν nx c v/\v.oneCell'=true:=by
 obtain⟨a,b⟩:=h
 match vs,a with
 | [v],_=>exact⟨v,rfl,b 0 c v rfl rfl⟩
theorem FT{t:Ty}{c:Cell}{d:t.den}{v:Value}(f:GLe G G')(h:CellRel G ν nx c v)(a:nF t c=some d):Enc G' t d [v]:=by
 unfold nF at a;split at a
 .obtain⟨e,b⟩:=K5 a;subst e;simp only at b;subst b;exact iq f _ _ _ h
 grind
theorem FromL.mono{m m':List Nat}(h:∀i∈m,i∈m'):CS.le (FromL φ objs m) (FromL φ objs m'):=λb o ⟨i,c,a⟩=>⟨i,h i c,a⟩
theorem FromL.one{i:Nat}{m:List Nat}(hi:i∈m)(a:Live objs i):CS.le (φ i) (FromL φ objs m):=λb o h=>⟨i,hi,a,h⟩
theorem FromL.disj(h:HR w0 F G ν φ objs nx w){m m':List Nat}(f:∀i∈m,i∉m'):CS.disj (FromL φ objs m) (FromL φ objs m'):=λb o ⟨i,g,a,c⟩ ⟨j,k,d,e⟩=>by
 have:=h.inj i j b o a d c e;simp_all
theorem CS.disj.mono{A B a B':CS}(h:CS.disj A B)(c:CS.le a A)(d:CS.le B' B):CS.disj a B':=λb o e f=>h b o (c b o e) (d b o f)
theorem CS.disj.symm{A B:CS}(h:CS.disj A B):CS.disj B A:=λb o a c=>h b o c a
theorem MP{l m:List CS}{A B:CS}(a:Sep l)(b:Sep m)(c:∀s∈l,CS.le s A)(d:∀s∈m,CS.le s B)(e:CS.disj A B):Sep (l++m):=
 d0.2 ⟨a,b,λs f t g=>e.mono (c s f) (d t g)⟩
theorem TJ{l1 l2 l3:List CS}(g:Sep (l1++l3))(e:Sep l2)(c:∀s∈l2,∀t∈l1++l3,CS.disj s t):Sep (l1++(l2++l3)):=by
 obtain⟨d,f,h⟩:=d0.1 g;refine d0.2 ⟨d,d0.2 ⟨e,f,λs b t a=>c s b t (Xi _ a)⟩,λs b t a=>?_⟩;rcases Xp.1 a with a|a
 .exact(c t a s (Xo _ b)).symm
 simp_all
theorem FW{b off i n cap:Nat}(hi:i<cap){S:CS}(g:CS.le (rng b off (i*n)) S)(h:CS.le (rng b (off+i*n) n) S)(j:CS.le (rng b (off+(i+1)*n) ((cap-(i+1))*n)) S):CS.le (rng b off (cap*n)) S:=λa o ⟨e,f,m⟩=>by
 have k:(i+1)*n=i*n+n:=eY i n;have l:(cap-(i+1))*n+(i+1)*n=cap*n:=by rw[←j8];grind
 by_cases c:o<off+i*n
 .exact g a o ⟨e,f,c⟩
 .by_cases d:o<off+i*n+n
  .exact h a o ⟨e,by omega,d⟩
  .exact j a o ⟨e,by omega,by omega⟩
theorem Wug{b a n c m:Nat}(h:a+n<=c):CS.disj (rng b a n) (rng b c m):=λd o ⟨_,e,f⟩ ⟨_,g,i⟩=>by omega
theorem UM{e:Ty}{nu v:Nu}{xs:List e.den}{i:Nat}{S S1 S2:CS}(h:kQ w (WC G w e) e.size nu v xs i S){d:e.den}{vs:List Value}{y:List Pc}(J:WC G w e d vs y)
  {b:Nat} (hb:v.blk=some b) (K:Mem w b v.off vs) (u:CS.le (rng b v.off e.size) S1) (g:Sep (y.map Pc.fp)) (k:∀p∈y,CS.le p.fp S2) (P:CS.disj S S1) (z:CS.disj S S2) (Q:CS.disj S1 S2)
  {S':CS} (l1:CS.le S S') (l2:CS.le S1 S') (l3:CS.le S2 S'):ah w (WC G w e) e.size nu (xs.set i d) S':=by
 obtain⟨h1,V,W,D,X,r,Y,h7,Z,h9,N,O,B,C,F,R,T,g4,U,A⟩:=h;rw[hb]at r;injection r with r;subst r;have E:=gO (λx c q hx=>WI e x c q hx) _ _ _ F;rw[dA,lB (by omega)]at E;have M:=WI _ _ _ _ J;have e1:(i+1)*e.size=i*e.size+e.size:=eY i e.size;refine⟨by simp_all,V,?_⟩;simp only[X];have H:=A _ (Xl ..);have I:=A _ (Xg _ (Xl ..));have l:∀s∈(B++C).map Pc.fp,CS.le s S:=λs g=>A s (Xg _ (Xg _ g));obtain⟨q1,q2⟩:=Xu.1 U;obtain⟨q3,L⟩:=Xu.1 q2;rw[Y]at K u;refine⟨by simp_all,Z,h9,N++(vs++O),B++(y++C),UE W F J R,?_,Xu.2 ⟨λs a=>?_,?_⟩,λs a=>?_⟩
 .refine T.app (n:=i*e.size) ?_ E;refine K.app (n:=e.size) ?_ M
  grind
 .
  simp only[Xx,Xp]at a;have m:∀s,(CS.disj s (rng b nu.off (i*e.size)))->CS.disj s (rng b (nu.off+i*e.size) e.size)->CS.disj s (rng b (nu.off+(i+1)*e.size) ((nu.cap-(i+1))*e.size))->CS.disj (rng b nu.off (nu.cap*e.size)) s:=λs k1 k2 k3 D o lG kU=>
   (FW (show i<nu.cap by omega) (S:=λb o=>¬s b o) (λb o f g=>k1 b o g f) (λb o f g=>k2 b o g f) (λb o f g=>k3 b o g f) D o lG) kU
  have zF:∀s∈(B++C).map Pc.fp,CS.disj (rng b nu.off (nu.cap*e.size)) s:=λs g=>m s (q1 s (Xg _ g)).symm (P.mono (l s g) u) (q3 s g).symm;rcases a with a|a|a
  .simp_all
  .obtain⟨p,j,rfl⟩:=Xv.1 a;exact m _ (z.mono H (k p j)).symm (Q.mono u (k p j)).symm (z.mono I (k p j)).symm
  simp_all
 .rw[Xx,Xx];rw[Xx]at L l;refine TJ L g (λs a t ht=>?_);obtain⟨p,j,rfl⟩:=Xv.1 a;exact(z.mono (l t ht) (k p j)).symm
 .rcases Xr.1 a with rfl|a
  .exact FW (show i<nu.cap by omega) (λb o f=>l1 b o (H b o f)) (λb o f=>l2 b o (u b o f)) (λb o f=>l1 b o (I b o f))
  .simp only[Xx,Xp]at a;rcases a with a|a|a
   .exactλb o f=>l1 b o (l s (by simp_all) b o f)
   .obtain⟨p,j,rfl⟩:=Xv.1 a
    exactλb o f=>l3 b o (k p j b o f)
   .exactλb o f=>l1 b o (l s (by simp_all) b o f)
def Nu.part(n:Nu)(lo hi:Nat):Nu:=⟨n.blk,if n.cap=lo then n.off else n.off+lo*n.esz,hi-lo,n.cap-lo,n.esz⟩
theorem LS{n:Nu}{lo hi:Nat}:(n.part lo hi).hdr=n.vhdr lo hi:=by
 unfold Nu.hdr Nu.vhdr Nu.part;cases n.blk<;>rfl
theorem Uk{e:Ty}{nu:Nu}{xs:List e.den}{S:CS}{lo hi:Nat}(h:ah w (WC G w e) e.size nu xs S)(h1:lo<=hi)(h2:hi<=nu.len):ah w (WC G w e) e.size (nu.part lo hi) ((xs.take hi).drop lo) S:=by
 obtain⟨Z,l,m⟩:=h;refine⟨by simp[Nu.part];omega,l,?_⟩;show match nu.blk with|none=>_|some b=>_
 cases hb:nu.blk with
 |none=>simp_all
 |some b=>
  simp only[hb]at m;obtain⟨g4,g5,B,y,O,C,n,D,R⟩:=m;obtain⟨u,W,N,p2,H,I,J,k4⟩:=C6 xs y O hi C;obtain⟨X,z,q1,P,K,L,M,t⟩:=C6 (xs.take hi) u N lo J;have r:=gO (λx c q F=>WI e x c q F) _ _ _ M;rw[dA,dA,lB (by omega)]at r;have Y:(nu.cap-lo)*e.size+lo*e.size=nu.cap*e.size:=by rw[←j8];grind
  have V:((xs.take hi).drop lo).length=hi-lo:=by simp;omega
  by_cases p:nu.cap=lo
  .have h0:(xs.take hi).drop lo= []:=dV (by omega);have A:nu.cap-lo=0:=by omega
   simp only[Nu.part,Wf p,A,Nat.zero_mul,c5];rw[h0]at t⊢;refine⟨j6 _,j6 _,?_,[],[],⟨rfl,rfl⟩,λj v E=>by simp at E,Xu.2 ⟨by simp,List.Pairwise.nil⟩,λs a=>?_⟩
   .obtain⟨U,T,d,f⟩:=B;exact⟨U,T,d,by omega⟩
   .simp at a;subst a
    exactλb o ⟨_,d,f⟩=>Wz f (by omega)
  .simp only[Nu.part,We p,l];have k:CS.le (rng b (nu.off+lo*e.size) ((nu.cap-lo)*e.size)) (rng b nu.off (nu.cap*e.size)):=λg o ⟨Q,d,f⟩=>⟨Q,by omega,by omega⟩;refine⟨by omega,by omega,?_,z,P,t,?_,?_,λs a=>?_⟩
   .grind
   .rw[H,K,List.append_assoc]at n;exact(n.right r).left
   .obtain⟨d,f⟩:=Xu.1 D;rw[I,L,Xx,Xx]at d f;refine Xu.2 ⟨λs a=>(d s (Xo _ (Xi _ a))).mono k (λ_ _ i=>i),?_⟩
    grind
   .rcases Xr.1 a with rfl|a
    .exactλg o i=>R _ (Xl ..) g o (k g o i)
    simp_all
theorem TX{e:Ty}{nu:Nu}{xs:List e.den}{S:CS}{lo hi:Nat}(h:ah w (WC G w e) e.size nu xs S)(a:lo<=hi)(b:hi<=nu.len):ah w (WC G w e) e.size (nu.part lo hi) (List.drop lo (List.take hi xs)) S:=Uk h a b
theorem Wrz(C:GLe G G'){e:Ty}{nu m:Nu}{xs:List e.den}{i:Nat}{S S1:CS}(h:kQ w (WC G w e) e.size nu m xs i S){d:e.ro.den}{vs:List Value}(B:Enc G' e.ro d vs)
  {b:Nat} (T:m.blk=some b) (D:Mem w b m.off vs) (E:CS.le (rng b m.off e.size) S1) (o:Froz G' w S) (J:Froz G' w S1):nD G' (Enc G' e.ro) ((du e xs).set i d) nu.hdr:=by
 obtain⟨O,h2,h3,Z,P,l,Q,h7,R,h9,c1,c2,V,W,y,z,K,L,g5,r⟩:=h;rw[T]at l;injection l with l;subst l;have I:=gO (λx c q f=>WI e x c q f) _ _ _ y;have U:=gO (λx c q f=>WI e x c q f) _ _ _ z;rw[dA,lB (by omega)]at I;rw[D9]at U;have H:=c0 _ _ _ B;rw[gX]at H;have e1:(i+1)*e.size=i*e.size+e.size:=eY i e.size;rw[Q]at D E;have M:=r _ (Xl ..);have N:=r _ (Xg _ (Xl ..));have A:∀p∈V++W,Froz G' w p.fp:=λp k=>o.mono (r _ (Xg _ (Xg _ (eB k))));have lX:(xs.length-(i+1))*e.size<=(nu.cap-(i+1))*e.size:=fO _ (by omega);have t:=Gl (λx c p k f=>tW C e x c p k f) _ _ _ (λq s=>A q (Xo _ s)) y;have u:=Gl (λx c p k f=>tW C e x c p k f) _ _ _ (λq s=>A q (Xi _ s)) z;rw[Wrj]at t;rw[Wq9]at u;have F:(du e xs).length=xs.length:=FX e xs;have g:(du e xs).set i d=(du e xs).take i++(d::(du e xs).drop (i+1)):=by
  rw[Yi,Wf (by omega)]
 unfold Nu.hdr;simp only[P];refine .inr (.inl ⟨b,nu.off,nu.cap,c1++(vs++c2),by rw[List.length_set,F,O],by grind,R,?_,λj v a=>?_⟩)
 .rw[g];exact Ff _ _ _ _ t ⟨vs,c2,rfl,B,u⟩
 .have s1:m9 G' b nu.off c1:=K.stored (n:=i*e.size) (by omega) (o.mono M);have X:m9 G' b (nu.off+i*e.size) vs:=D.stored (n:=e.size) (by omega) (J.mono E);have Y:m9 G' b (nu.off+(i+1)*e.size) c2:=L.stored (n:=(nu.cap-(i+1))*e.size) (by omega) (o.mono N);rw[eW]at a;split at a
  .exact s1 j v a
  .rename_i eh;rw[eW]at a;split at a
   .have:=X _ v a
    grind
   .have:=Y _ v a
    grind
theorem Wq0{α:Type}{R:α->List Value->Prop}{n:Nat}(i:∀x c,R x c->c.length=n){nu:Nu}{xs:List α}(h:nD G R xs nu.hdr)(z:xs.length=nu.len)(u:nu.esz=n){lo hi:Nat}(H:lo<=hi)(I:hi<=nu.len)(t:nu.blk=none->hi=0)(w:nu.blk≠none->nu.len<=nu.cap/\nu.cap<=maxLen):
  nD G R ((xs.take hi).drop lo) (nu.vhdr lo hi):=by
 unfold Nu.hdr at h;unfold Nu.vhdr;cases hb:nu.blk with
 |none=>
  have:=t hb;refine .inl ⟨rfl,dV (by simp;omega)⟩
 |some b=>
  obtain⟨K,J⟩:=w (by grind);simp only[hb]at h;have k:((xs.take hi).drop lo).length=hi-lo:=by simp;omega
  by_cases s:hi-lo=0
  .refine .inr (.inr ⟨_,nu.cap-lo,by rw[s],dV (by omega)⟩)
  .rcases h with⟨e,_⟩|⟨A,y,d,l,e,E,F,q,r⟩|⟨a,d,e,B⟩
   .cases e
   .injection e with f C m;injection f with f;injection f with o p D;subst o p m;rw[We (by omega)];refine .inr (.inl ⟨b,nu.off+lo*nu.esz,nu.cap-lo,(l.take (hi*n)).drop (lo*n),by rw[k],by omega,by omega,C8 i _ _ lo (C9 i _ _ hi q),λj v g=>?_⟩);rw[li,lm]at g;split at g
    .rw[dB,u];exact r _ _ g
    grind
   simp_all
def Leaf(ν:Nat->Nu)(t:Ty)(cs:List Cell)(c:List Pc):Prop:=∀(a k r:Nat),gT t a=some k->cs[k]?=some (.own r)->∃b,c[a]?=some b/\b.nu=ν r
theorem FE:∀(t:Ty) (c k:Nat),gT t c=some k->c<t.owns/\k<t.size
 | .own _,c,k,h=>by
  cases c with
  |zero=>simp[gT]at h;subst h;exact⟨Nat.one_pos,Nat.one_pos⟩
  |succ n=>simp[gT]at h
 | .prod a b,c,k,h=>by
  simp only[gT]at h;split at h
  .obtain⟨d,e⟩:=FE a c k h;exact⟨by show _<a.owns+b.owns;omega,by show _<a.size+b.size;omega⟩
  .obtain⟨j,f,rfl⟩:=Xw.1 h;obtain⟨d,e⟩:=FE b _ j f;exact⟨by show _<a.owns+b.owns;omega,by show _<a.size+b.size;omega⟩
 | .int _,_,_,h=>by simp[gT]at h
 | .bool,_,_,h=>by simp[gT]at h
 | .str,_,_,h=>by simp[gT]at h
 | .slice _,_,_,h=>by simp[gT]at h
theorem Leaf.none{ν:Nat->Nu}{t:Ty}{cs:List Cell}{ns:List Pc}(h:t.owns=0):Leaf ν t cs ns:=λb k r a c=>by
 have:=(FE t b k a).1;omega
theorem XW{ν:Nat->Nu}{e:Ty}{c:Cell}{ns:List Pc}(a:∀r,c≠ .own r):Leaf ν (.own e) [c] ns:=λf k r b d=>by
 grind
theorem fz(h:HR w0 F G ν φ objs nx w)(D:GLe G G'):∀(t:Ty) (cs:List Cell) (vs:List Value) (d:t.den) (m l:List Nat),CellsRel G ν nx cs vs->Lent G' w φ objs l->m.Nodup->
  aC t cs objs=some (d,m,l)->∃T,WC G' w t d vs T/\Sep (T.map Pc.fp)/\(∀p∈T,CS.le p.fp (FromL φ objs m))/\(∀i∈m,Live objs i)/\(∀i∈l,Live objs i)/\Leaf ν t cs T
 | .prod a b,cs,vs,d,m,l,u,H,P,f=>by
  simp only[aC]at f;split at f
  .rename_i x m1 l1 y m2 l2 Q R;simp only[Option.some.injEq,Prod.mk.injEq]at f;obtain⟨rfl,rfl,rfl⟩:=f;obtain⟨n1,n2,n3⟩:=List.nodup_append.1 P;obtain⟨q1,U,s1,h4,h5,h5',f1⟩:=fz h D a _ (vs.take a.size) x m1 l1 (u.take _) (H.mono (by simp_all)) n1 Q;obtain⟨q2,h6,s2,h7,h8,h8',f2⟩:=fz h D b _ (vs.drop a.size) y m2 l2 (u.drop _) (H.mono (by simp_all)) n2 R;refine⟨q1++q2,⟨_,_,q1,q2,(List.take_append_drop a.size vs).symm,rfl,U,h6⟩,?_,?_,?_,?_,?_⟩
   .rw[Xx];refine MP s1 s2 (A:=FromL φ objs m1) (B:=FromL φ objs m2) (λs hs=>?_) (λs hs=>?_) (FromL.disj h (λi E Y=>n3 i E i Y rfl))
    .grind
    grind
   .intro p O b o L;rcases Xp.1 O with O|O
    .exact FromL.mono (λi E=>Xo _ E) b o (h4 p O b o L)
    .exact FromL.mono (λi E=>Xi _ E) b o (h7 p O b o L)
   .grind
   .grind
   .intro lf k r k1 k2;have hq:=W9 _ _ _ _ U;simp only[gT]at k1;split at k1
    .rename_i ae;obtain⟨_,hk⟩:=FE a lf k k1;obtain⟨pc,k3,k4⟩:=f1 lf k r k1 (by simp_all)
     grind
    .obtain⟨j,Y,rfl⟩:=Xw.1 k1;obtain⟨pc,k3,k4⟩:=f2 _ j r Y (by simp_all)
     grind
  grind
 | .own e,cs,vs,d,m,l,u,H,P,f=>by
  simp only[aC]at f;split at f
  .rename_i id;obtain⟨v,rfl,⟨_,q⟩,_⟩:=u.single;subst q;have oN:∀{S:CS},Leaf ν (.own e) [.own id] [⟨ν id,S⟩]:=λ{S} lf k r k1 k2=>by
    cases lf with
    |zero=>
     simp[gT]at k1;simp_all
    |succ n=>simp[gT]at k1
   obtain⟨⟨ys,m'⟩,g,f⟩:=Xw.1 f;simp only[Prod.mk.injEq]at f;obtain⟨rfl,rfl,rfl⟩:=f;unfold GX at g;split at g
   .rename_i e' xs z;obtain⟨Z,J,g⟩:=Xw.1 g;have g:=Prod.mk.inj g;obtain⟨rfl,rfl⟩:=g;obtain⟨K,C⟩:=jB J;subst K;simp only at C;subst C;have N:Live objs id:=⟨_,z,by simp⟩;have I:ah w (WC G w e') e'.size (ν id) xs (φ id):=h.ob _ _ z;refine⟨[⟨ν id,φ id⟩],⟨_,rfl,rfl,tZ D (Same.refl _ w) (λ_ _ L=>L) I⟩,rP _ _,?_,?_,by simp,oN⟩
    .simp_all [FromL.one]
    simp_all
   .rename_i e' xs i p z;split at g
    .rename_i Z dj J X;split at g
     .rename_i d' m'' rO;simp only[Option.some.injEq,Prod.mk.injEq]at g;obtain⟨rfl,rfl⟩:=g;obtain⟨K,C⟩:=jB J;subst K;simp only at C;subst C;obtain⟨n1,n2⟩:=cr.1 P;obtain⟨n3,n4⟩:=cr.1 n2;have N:Live objs id:=⟨_,z,by simp⟩;have gJ:Live objs p:=⟨_,X,by simp⟩;obtain⟨nJ,M⟩:p<nx/\kQ w (WC G w e') e'.size (ν id) (ν p) xs i (φ id):=h.ob _ _ z;obtain⟨b,us,hb,bu,aN,V,W⟩:dt G ν nx w p (φ p) (.box dj):=h.ob _ _ X;obtain⟨T,t1,t2,t3,t4,_,_⟩:=fz h D e' dj us d' m'' [] V (λi E=>by simp at E) n4 rO;have ew:=WI _ _ _ _ t1;have rT:=SU D (Same.refl _ w) (λ_ _ L=>L) M;rw[←V.1,ew]at W;have bI:id≠p:=λe=>n1 (by simp_all);refine⟨[⟨ν id,FromL φ objs (id::p::m'')⟩],⟨_,rfl,rfl,UM rT t1 hb aN W t2 t3 ?_ ?_ ?_ ?_ ?_ ?_⟩,rP _ _,?_,?_,by simp,oN⟩
      .exactλb o Q R=>bI (h.inj id p b o N gJ Q R)
      .exactλb o Q ⟨j,Y,R,U⟩=>by
        have:=h.inj id j b o N R Q U;simp_all
      .exactλb o Q ⟨j,Y,R,U⟩=>by
        have:=h.inj p j b o gJ R Q U;simp_all
      .simp_all [FromL.one]
      .simp_all [FromL.one]
      .grind [FromL.mono,Xg]
      .intro p O;simp at O;subst O;exactλ_ _ L=>L
      simp_all
     grind
    grind
   grind
  .rename_i id lo E;obtain⟨v,rfl,⟨_,g1,g2,g3,q⟩,_⟩:=u.single;subst q;split at f
   .rename_i e' xs z;obtain⟨Z,J,f⟩:=Xw.1 f;have f:=And.intro (Prod.mk.inj f).1 (Prod.mk.inj (Prod.mk.inj f).2);obtain⟨rfl,rfl,rfl⟩:=f;obtain⟨K,C⟩:=jB J;subst K;simp only at C;subst C;have N:Live objs id:=⟨_,z,by simp⟩;have I:ah w (WC G w e') e'.size (ν id) xs (φ id):=h.ob _ _ z;refine⟨[⟨(ν id).part lo E,φ id⟩],⟨_,rfl,by rw[LS],TX (tZ D (Same.refl _ w) (λ_ _ L=>L) I) g1 g2⟩,rP _ _,?_,?_,by simp,XW (by simp_all)⟩
    .simp_all [FromL.one]
    simp_all
   grind
  .simp only[Option.some.injEq,Prod.mk.injEq]at f;obtain⟨rfl,rfl,rfl⟩:=f;obtain⟨v,rfl,q,_⟩:=u.single;simp only[CellRel]at q;subst q;exact⟨[⟨⟨none,0,0,0,e.size⟩,λ_ _=>False⟩],⟨_,rfl,rfl,rfl,rfl,rfl⟩,rP _ _,λp O b o L=>by simp_all,by simp,by simp,XW (by simp_all)⟩
  grind
 | .slice e,cs,vs,d,m,l,u,H,P,f=>by
  simp only[aC]at f;split at f
  .rename_i id;obtain⟨v,rfl,⟨_,q⟩,_⟩:=u.single;subst q;obtain⟨⟨ys,l'⟩,g,f⟩:=Xw.1 f;simp only[Prod.mk.injEq]at f;obtain⟨rfl,rfl,rfl⟩:=f;unfold VX at g;split at g
   .rename_i e' xs z;obtain⟨Z,J,g⟩:=Xw.1 g;have g:=Prod.mk.inj g;obtain⟨rfl,rfl⟩:=g;obtain⟨K,C⟩:=jB J;subst K;simp only at C;subst C;have N:Live objs id:=⟨_,z,by simp⟩;have I:ah w (WC G w e') e'.size (ν id) xs (φ id):=h.ob _ _ z;refine⟨[],⟨rfl,_,rfl,Lp D (H id (by simp) N) I⟩,List.Pairwise.nil,by simp,by simp,?_,Leaf.none rfl⟩;simp_all
   .rename_i e' xs i p z;split at g
    .rename_i Z dj J X;split at g
     .rename_i d' l'' rO;simp only[Option.some.injEq,Prod.mk.injEq]at g;obtain⟨rfl,rfl⟩:=g;obtain⟨K,C⟩:=jB J;subst K;simp only at C;subst C;have N:Live objs id:=⟨_,z,by simp⟩;have gJ:Live objs p:=⟨_,X,by simp⟩;obtain⟨nJ,M⟩:p<nx/\kQ w (WC G w e') e'.size (ν id) (ν p) xs i (φ id):=h.ob _ _ z;obtain⟨b,us,hb,bu,aN,V,W⟩:dt G ν nx w p (φ p) (.box dj):=h.ob _ _ X;obtain⟨T,t1,t2,t3,t4,t5,_⟩:=fz h D e'.ro dj us d' [] l'' V (H.mono (λi E=>Xg _ (Xg _ E))) p0 rO;obtain⟨t6,_⟩:=(mT e'.ro d' us T (Mz e')).1 t1;have ew:=c0 _ _ _ t6;rw[gX]at ew;rw[←V.1,ew]at W;refine⟨[],⟨rfl,_,rfl,Wrz D M t6 hb aN W (H id (by simp) N) (H p (by simp) gJ)⟩,List.Pairwise.nil,by simp,by simp,?_,Leaf.none rfl⟩;simp_all
     grind
    grind
   grind
  .rename_i id lo E;obtain⟨v,rfl,⟨_,g1,g2,g3,q⟩,_⟩:=u.single;subst q;split at f
   .rename_i e' xs z;obtain⟨Z,J,f⟩:=Xw.1 f;have f:=And.intro (Prod.mk.inj f).1 (Prod.mk.inj (Prod.mk.inj f).2);obtain⟨rfl,rfl,rfl⟩:=f;obtain⟨K,C⟩:=jB J;subst K;simp only at C;subst C;have N:Live objs id:=⟨_,z,by simp⟩;have I:ah w (WC G w e') e'.size (ν id) xs (φ id):=h.ob _ _ z;have jY:=Lp D (H id (by simp) N) I;refine⟨[],⟨rfl,_,rfl,?_⟩,List.Pairwise.nil,by simp,by simp,?_,Leaf.none rfl⟩
    .refine Wq0 (n:=e'.size) (λx c u=>by grind [gX,c0]) jY (by rw[FX];exact I.1) I.2.1 g1 g2 g3 (λhb=>?_);cases rU:(ν id).blk with
     |none=>simp_all
     |some b=>
      have:=I.2.2;simp only[rU]at this;exact⟨by rw[←I.1];omega,this.2.1⟩
    simp_all
   grind
  .simp only[Option.some.injEq,Prod.mk.injEq]at f;obtain⟨rfl,rfl,rfl⟩:=f;obtain⟨v,rfl,q,_⟩:=u.single;simp only[CellRel]at q;subst q;exact⟨[],⟨rfl,_,rfl,.inl ⟨rfl,rfl⟩⟩,List.Pairwise.nil,by simp,by simp,by simp,Leaf.none rfl⟩
  .rename_i c _ _ _;cases gI:nF (.slice e) c with
   |none=>simp_all
   |some x=>
    simp only[gI,lr,Option.some.injEq,Prod.mk.injEq]at f;obtain⟨rfl,rfl,rfl⟩:=f;obtain⟨v,rfl,q,_⟩:=u.single;exact⟨[],⟨rfl,FT D q gI⟩,List.Pairwise.nil,by simp,by simp,by simp,Leaf.none rfl⟩
  grind
 | .int k,cs,vs,d,m,l,u,H,P,f=>by
  simp only[aC]at f;split at f
  .rename_i c;cases gI:nF (.int k) c with
   |none=>simp_all
   |some x=>
    simp only[gI,lr,Option.some.injEq,Prod.mk.injEq]at f;obtain⟨rfl,rfl,rfl⟩:=f;obtain⟨v,rfl,q,_⟩:=u.single;exact⟨[],⟨rfl,FT D q gI⟩,List.Pairwise.nil,by simp,by simp,by simp,Leaf.none rfl⟩
  grind
 | .bool,cs,vs,d,m,l,u,H,P,f=>by
  simp only[aC]at f;split at f
  .rename_i c;cases gI:nF .bool c with
   |none=>simp_all
   |some x=>
    simp only[gI,lr,Option.some.injEq,Prod.mk.injEq]at f;obtain⟨rfl,rfl,rfl⟩:=f;obtain⟨v,rfl,q,_⟩:=u.single;exact⟨[],⟨rfl,FT D q gI⟩,List.Pairwise.nil,by simp,by simp,by simp,Leaf.none rfl⟩
  grind
 | .str,cs,vs,d,m,l,u,H,P,f=>by
  simp only[aC]at f;split at f
  .rename_i c;cases gI:nF .str c with
   |none=>simp_all
   |some x=>
    simp only[gI,lr,Option.some.injEq,Prod.mk.injEq]at f;obtain⟨rfl,rfl,rfl⟩:=f;obtain⟨v,rfl,q,_⟩:=u.single;exact⟨[],⟨rfl,FT D q gI⟩,List.Pairwise.nil,by simp,by simp,by simp,Leaf.none rfl⟩
  grind
theorem Tt(h:HRel w0 F G ν objs nx w){t:Ty}{cs:List Cell}{vs:List Value}{d:t.den}(b:CellsRel G ν nx cs vs)(g:t.data=true)(c:aC t cs objs=some (d,[],[])):Enc G t d vs:=by
 obtain⟨φ,h⟩:=h;obtain⟨j,f,_⟩:=fz (G':=G) h (λ_ _ _ e=>e) t cs vs d [] [] b (λi a=>by simp at a) p0 c
 grind [mT]
end
section
variable{w0:World}{F:CS}{nt:Slots}{G0 G G':GH}{ν ν':Nat->Nu}{φ:Nat->CS}{objs objs':aa}{nx aq:Nat}{st ai:St}{a:Act}{w w':World}{P:Program}{T:Tab}{Γ:Ctx}
theorem Ll(i:Nat):∀(l:List Nat),dl i l=true↔i∈l
 | []=>by simp[dl]
 |j::l=>by
  simp only[dl,Bool.or_eq_true,Ll i l,Xr];simp_all
open Classical in
noncomputable def kR(G:GH)(w:World)(S:CS):GH:=λb o=>if S b o then w.cell? ⟨b,o,none⟩else G b o
theorem VL{S:CS}{b o:Nat}(h:S b o):kR G w S b o=w.cell? ⟨b,o,none⟩:=by unfold kR;rw[Wf h]
theorem qI{S:CS}{b o:Nat}(h:¬S b o):kR G w S b o=G b o:=by unfold kR;rw[We h]
theorem LI(S:CS):Froz (kR G w S) w S:=λb o v a c=>by grind [VL]
theorem HR.addG_le(h:HR w0 F G ν φ objs nx w)(l:List Nat):GLe G (kR G w (FromL φ objs l)):=λb o v a=>by
 by_cases e:FromL φ objs l b o
 .obtain⟨i,_,c,d⟩:=e;rw[h.gf i b o c d]at a;cases a
 grind [qI]
theorem HR.addG_w(h:HR w0 F G ν φ objs nx w)(l:List Nat):∀b o v,kR G w (FromL φ objs l) b o=some v->w.cell? ⟨b,o,none⟩=some v:=λb o v a=>by
 by_cases c:FromL φ objs l b o
 .grind [VL]
 .rw[qI c]at a;exact h.g b o v a
theorem HRel.freezeL(h:HRel w0 F G ν objs nx w)(q:GExt w0.heap.size F G0 G)(l:List Nat):∃c,GLe G c/\HRel w0 F c ν (Sx.kill objs l) nx w/\GExt w0.heap.size F G0 c/\
  ∀p∈l,∀(e:Ty) (xs:List e.den),Wt objs p=some (.arr e xs)->nD c (Enc c e.ro) (du e xs) (ν p).hdr:=by
 obtain⟨φ,h⟩:=h;have f:=h.addG_le l;refine⟨kR G w (FromL φ objs l),f,⟨φ,?_⟩,⟨λb o v d=>f b o v (q.le b o v d),λb o v d=>?_⟩,λp u e xs s=>?_⟩
 .exact{
   g:=h.addG_w l
   ob:=λj ob a=>by
    by_cases n:ob= .dead
    .subst n;trivial
    .obtain⟨a,r⟩:=C5 l j ob a n;exact C1 f (Same.refl _ w) (λ_ _ y=>y) (λ_ _=>rfl) (Xm _) (h.lt j ⟨ob,a,n⟩) ob (h.ob j ob a)
   gf:=λj b o a t=>by
    obtain⟨a,r⟩:=yL a;rw[qI (λ⟨i,hi,k,m⟩=>r (by rw[h.inj j i b o a k t m];exact hi))];exact h.gf j b o a t
   inj:=λj z b o a x=>h.inj j z b o (yL a).1 (yL x).1
   own:=λj b o a=>h.own j b o (yL a).1
   lt:=λj a=>h.lt j (yL a).1
   bl:=λj b o a=>h.bl j b o (yL a).1
   le:=h.le}
 .by_cases hs:FromL φ objs l b o
  .obtain⟨i,_,k,m⟩:=hs;exact .inr (h.own i b o k m)
  .rw[qI hs]at d;exact q.new b o v d
 .exact Lp f ((LI _).mono (FromL.one u ⟨_,s,by simp⟩)) (h.ob _ _ s)
structure Frz(w0:World)(F:CS)(nt:Slots)(G0 G:GH)(ν:Nat->Nu)(st:St)(l:List Nat)(a:Act)(w:World)(G1:GH):Prop where
 le:GLe G G1
 rel:Rel w0 F nt G0 G1 ν {env:=st.env,objs:=kill st.objs l,nx:=st.nx} a w
 sl:∀id∈l,∀(e:Ty) (xs:List e.den),Wt st.objs id=some (.arr e xs)->nD G1 (Enc G1 e.ro) (du e xs) (ν id).hdr
theorem Rel.frz(h:Rel w0 F nt G0 G ν st a w)(l:List Nat):∃G1,Frz w0 F nt G0 G ν st l a w G1:=by
 obtain⟨G1,b,c,d,e⟩:=h.h.freezeL h.gx l;exact⟨G1,b,h.on b (λ_ _=>rfl) (Xm _) c d,e⟩
theorem Frz.cell{l:List Nat}{j:GH}(h:Frz w0 F nt G0 G ν st l a w j):∀(c:Cell) (v:Value),CellRel G ν st.nx c v->CellRel j ν st.nx (GA st.objs l c) v:=by
 have b:=λc v (g:CellRel G ν st.nx c v)=>CellRel.mono (G':=j) (ν':=ν) (aq:=st.nx) h.le (λ_ _=>rfl) (Xm _) c v g;intro c v g;cases c with
 |own id=>
  simp only[GA];cases he:dl id l with
  |false=>simp_all
  |true=>
   simp only[Wa];have k:=(Ll id l).1 he;split
   .rename_i e xs ho;obtain⟨_,m⟩:=g;rw[m];exact⟨_,rfl,h.sl id k e xs ho⟩
   .trivial
 |vw id lo hi=>exact b _ v g
 |val t d=>exact b _ v g
 |nils=>exact b _ v g
 |aptr id=>exact b _ v g
 |ptr id off=>exact b _ v g
 |eptr id i off=>exact b _ v g
 |rptr t d off=>exact b _ v g
 |clos f caps=>exact b _ v g
 |junk=>trivial
theorem Frz.val{l:List Nat}{b:GH}(h:Frz w0 F nt G0 G ν st l a w b):∀(x:AVal) (v:Value),AValRel G ν st.nx x v->AValRel b ν st.nx (q8 st.objs l x) v
 | .s (.one c),v,hx=>⟨h.cell c v hx.1,hx.2⟩
 | .s (.agg cs),v,⟨n,m,k,e⟩=>by
  refine⟨n,m,by simp[k],λj c u f i=>?_⟩;rw[dF]at f;obtain⟨d,g,rfl⟩:=Xw.1 f;exact⟨h.cell d u (e j d u g i).1,(e j d u g i).2⟩
 | .tup xs,v,hx=>AValRel.mono h.le (λ_ _=>rfl) (Xm _) (.tup xs) v hx
end
end Go.Sx
