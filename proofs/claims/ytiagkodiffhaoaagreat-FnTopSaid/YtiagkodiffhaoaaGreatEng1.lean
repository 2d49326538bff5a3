/- The abstract machine, part 1: a reflective interpreter of the program's code over data, with its soundness over the model. -/
import Derived.WalkKit
import Derived.LoopN
import Derived.KernelRfl
import Derived.ProofKit
import Derived.OpenShut
import Derived.JoinedCond
open Nat renaming beq->fG,succ_mul->lz,add_comm->AM,add_assoc->gU,lt_of_lt_of_le->pP,mul_le_mul_right->lu,min_eq_left->jB,add_zero->gJ,eq_of_beq_eq_true->D8,add_mul->o5,zero_le->jI,le_refl->Xj,le_trans->mA,le_succ->EG,lt_succ_self->nq,zero_mul->H4
open List renaming length->Xa,getD->Xc,append->Xh,replicate->Xp,length_append->bX,length_cons->Xv,drop_drop->H2,take_length_add_append->Xgd,drop_left->SA,getElem?_append->ko,getElem?_take->p3,getElem?_drop->pS,mem_append_left->Xn,mem_append_right->Xk,set_eq_take_append_cons_drop->Xfd,getElem?_eq_some_iff->iW,mem_cons_of_mem->Xe,mem_map_of_mem->ju,mem_cons_self->Xg,mem_singleton->dq,length_take->gv,length_drop->HZ,pairwise_cons->Xz,getElem?_eq_getElem->Xq,mapM_cons->H5,getElem?_map->hV,eq_nil_of_length_eq_zero->eY,map_toArray->Ee,map_cons->bo,map_nil->d6,mem_map->Xy,mem_cons->Xr,prefix_refl->Sz,pairwise_append->dZ,mem_append->Xo,map_append->Xw,append_assoc->o0,take_append_drop->Xdp,pairwise_singleton->ye,nodup_cons->dH,nodup_nil->Ec,getElem?_append_left->Xcp,getElem?_append_right->HL,nil_prefix->Xig,prefix_append_right_inj->Xfu,length_replicate->yh,append_nil->rb,getElem?_toArray->Xfg
open Bool renaming and_eq_true->Xl
open Option renaming map_some->vp,map_eq_some_iff->im
open Array renaming getElem?_setIfInBounds_ne->Xfk,length_toList->kj,foldl_toList->Sv,range->nr
open Int renaming mul_le_mul_of_nonneg_right->Xfm
namespace Go.Sx
set_option linter.defProp false
theorem Ω{p:Prop}(h:p:=by omega):p:=h
theorem Ψ{p:Prop}(h:p:=by simp_all):p:=h
theorem Φ{p:Prop}(h:p:=by simp;omega):p:=h
theorem Δ{p:Prop}(h:p:=by simp):p:=h
theorem Θ{p:Prop}(h:p:=by grind):p:=h
abbrev Wa:=@if_neg
abbrev Wb:=@if_pos
abbrev Wf:=@decide_eq_true
abbrev Wj:=@decide_eq_false
abbrev Wg:=@decide_eq_true_eq
abbrev WD:=@decide_eq_false_iff_not
abbrev Wx:=@of_decide_eq_true
abbrev Wh:=@absurd
abbrev Wq:=@congrArg
abbrev gp:=@if_true
abbrev jN:=@if_false
def We{A:Type}(a b:A):cond true a b=a:=rfl
theorem Wc{A:Type}(a b:A):cond false a b=b:=rfl
inductive Ty where
 |int (k:IntKind)|bool|slice (e:Ty)|own (e:Ty)|prod (a b:Ty)
 deriving DecidableEq
def Ty.den:Ty->Type
 | .int _=>Int
 | .bool=>Bool
 | .slice e=>List e.den
 | .own e=>List e.den
 | .prod a b=>a.den×b.den
def Ty.size:Ty->Nat
 | .prod a b=>a.size+b.size
 |_=>1
def Ty.dflt:(t:Ty)->t.den
 | .int _=>(0:Int)
 | .bool=>false
 | .slice e=>([]:List e.den)
 | .own e=>([]:List e.den)
 | .prod a b=>(a.dflt,b.dflt)
def Ty.noRo:Ty->Bool
 | .slice _=>false
 | .own e=>e.noRo
 | .prod a b=>a.noRo&&b.noRo
 |_=>true
def Ty.ro:Ty->Ty
 | .own e=>.slice e.ro
 | .slice e=>.slice e
 | .prod a b=>.prod a.ro b.ro
 | .int k=>.int k
 | .bool=>.bool
def pA:∀t:Ty,t.ro.den=t.den
 | .own e=>Wq List (pA e)
 | .slice _=>rfl
 | .prod a b=>by show(a.ro.den×b.ro.den)=(a.den×b.den);rw[pA a,pA b]
 | .int _| .bool=>rfl
def yd(t:Ty)(d:t.den):t.ro.den:=cast (pA t).symm d
def gG(t:Ty)(l:List t.den):List t.ro.den:=cast (Wq List (pA t).symm) l
def Ht(t a:Ty)(d:t.den):Option a.den:=
 if h:t=a then some (h▸d)else none
def nc(e a:Ty)(l:List e.den):Option (List a.den):=
 if h:e=a then some (h▸l)else none
inductive Cell where
 |val (t:Ty) (d:t.den)
 |nils
 |own (id:Nat)
 |vw (id c b:Nat)
 |aptr (id:Nat)
 |ptr (id a:Nat)
 |eptr (id i a:Nat)
 |rptr (t:Ty) (d:t.den) (a:Nat)
 |clos (f:FuncId) (caps:List Nat)
 |junk
inductive AV where
 |one (c:Cell)
 |agg (a:List Cell)
inductive AVal where
 |s (x:AV)
 |tup (a:List AV)
inductive Ob where
 |box (b:List Cell)
 |arr (e:Ty) (a:List e.den)
 |hole (e:Ty) (a:List e.den) (i p:Nat)
 |dead
abbrev ai:=List (Nat×Ob)
structure St where
 env:List (Nat×AVal)
 objs:ai
 nx:Nat
universe u
def look{a:Type u}:List (Nat×a)->Nat->Option a
 | [],_=>none
 |(k,v)::l,i=>match fG k i with|true=>some v|false=>look l i
abbrev GH:=Nat->Nat->Option Value
abbrev CS:=Nat->Nat->Prop
def CS.disj(A B:CS):Prop:=∀b o,A b o->B b o->False
def CS.le(A B:CS):Prop:=∀b o,A b o->B b o
def rng(b a n:Nat):CS:=λc o=>c=b/\a<=o/\o<a+n
def Sep(l:List CS):Prop:=l.Pairwise CS.disj
structure Nu where
 blk:Option Nat
 off:Nat
 len:Nat
 cap:Nat
 esz:Nat
def Nu.hdr(n:Nu):Value:=match n.blk with
 |none=>.slice none 0 0
 |some b=>.slice (some ⟨b,n.off,none⟩) n.len n.cap
def Nu.vhdr(n:Nu)(a c:Nat):Value:=match n.blk with
 |none=>.slice none 0 0
 |some b=>.slice (some ⟨b,if n.cap=a then n.off else n.off+a*n.esz,none⟩) (c-a) (n.cap-a)
structure Pc where
 nu:Nu
 fp:CS
def sf(G:GH)(b c:Nat)(a:List Value):Prop:=∀(j:Nat) (v:Value),a[j]?=some v->G b (c+j)=some v
def da{a:Type}(R:a->List Value->Prop):List a->List Value->Prop
 | [],d=>d= []
 |x::l,d=>∃c b,d=c++b/\R x c/\da R l b
def sm{a:Type}(G:GH)(R:a->List Value->Prop)(l:List a)(v:Value):Prop:=
 (v= .slice none 0 0/\l= [])\/
 (∃b d c e,v= .slice (some ⟨b,d,none⟩) l.length c/\l.length<=c/\c<=maxLen/\da R l e/\sf G b d e)\/
 ∃f c,v= .slice (some f) 0 c/\l= []
def Enc(G:GH):(t:Ty)->t.den->List Value->Prop
 | .int k,n,a=>a= [.int k n]
 | .bool,b,a=>a= [.bool b]
 | .slice e,l,a=>∃v,a= [v]/\sm G (Enc G e) l v
 | .own _,_,_=>False
 | .prod g b,d,a=>∃c f,a=c++f/\Enc G g d.1 c/\Enc G b d.2 f
def CellRel(G:GH)(h:Nat->Nu)(l:Nat):Cell->Value->Prop
 | .val t d,v=>Enc G t d [v]
 | .nils,v=>v= .slice none 0 0
 | .own g,v=>g<l/\v=(h g).hdr
 | .vw g a m,v=>g<l/\a<=m/\m<=(h g).len/\((h g).blk=none->m=0)/\v=(h g).vhdr a m
 | .aptr g,v=>g<l/\∃b,(h g).blk=some b/\v= .pointer (some ⟨b,(h g).off,none⟩)
 | .ptr g k,v=>g<l/\∃b,(h g).blk=some b/\v= .pointer (some ⟨b,(h g).off+k,none⟩)
 | .eptr g i k,v=>g<l/\i<(h g).len/\∃b,(h g).blk=some b/\v= .pointer (some ⟨b,(h g).off+(i*(h g).esz+k),none⟩)
 | .rptr t d k,v=>∃b o e,v= .pointer (some ⟨b,o+k,none⟩)/\Enc G t d e/\sf G b o e
 | .clos f caps,v=>∃c:List Value,v= .func (.func f) #[] c.toArray/\c.length=caps.length/\
   ∀(j g:Nat) (u:Value),caps[j]?=some g->c[j]?=some u->g<l/\u.oneCell'=true/\∃b,(h g).blk=some b/\u= .pointer (some ⟨b,(h g).off+0,none⟩)
 | .junk,_=>True
def CellsRel(G:GH)(b:Nat->Nu)(d:Nat)(a:List Cell)(e:List Value):Prop:=
 e.length=a.length/\∀(j:Nat) (c:Cell) (v:Value),a[j]?=some c->e[j]?=some v->CellRel G b d c v/\v.oneCell'=true
def AvRel(G:GH)(d:Nat->Nu)(e:Nat):AV->Value->Prop
 | .one c,v=>CellRel G d e c v/\v.oneCell'=true
 | .agg a,v=>∃b:List Value,v= .agg b.toArray/\CellsRel G d e a b
def RR(G:GH)(b:Nat->Nu)(d:Nat)(c:List AV)(a:List Value):Prop:=
 a.length=c.length/\∀(j:Nat) (x:AV) (v:Value),c[j]?=some x->a[j]?=some v->AvRel G b d x v
def AValRel(G:GH)(c:Nat->Nu)(a:Nat):AVal->Value->Prop
 | .s x,v=>AvRel G c a x v
 | .tup d,v=>∃b:List Value,v= .tuple b.toArray/\RR G c a d b
def Row(w:World)(b n:Nat):Prop:=∃a T,w.heap[b]?=some (.cells a T (0,0))/\n<=a.size
def Mem(w:World)(b o:Nat)(a:List Value):Prop:=∀(j:Nat) (v:Value),a[j]?=some v->w.cell? ⟨b,o+j,none⟩=some v
def dU{a:Type}(R:a->List Value->List Pc->Prop):List a->List Value->List Pc->Prop
 | [],f,ps=>f= []/\ps= []
 |x::l,f,ps=>∃b c d e,f=b++c/\ps=d++e/\R x b d/\dU R l c e
def az{a:Type}(w:World)(R:a->List Value->List Pc->Prop)(n:Nat)(b:Nu)(e:List a)(S:CS):Prop:=
 e.length=b.len/\b.esz=n/\match b.blk with
  |none=>e= []
  |some f=>e.length<=b.cap/\b.cap<=maxLen/\Row w f (b.off+b.cap*n)/\∃c d,dU R e c d/\Mem w f b.off c/\
    Sep (rng f b.off (b.cap*n)::d.map Pc.fp)/\∀s∈rng f b.off (b.cap*n)::d.map Pc.fp,CS.le s S
def WL(G:GH)(w:World):(t:Ty)->t.den->List Value->List Pc->Prop
 | .own e,j,c,ns=>∃p:Pc,ns= [p]/\c= [p.nu.hdr]/\az w (WL G w e) e.size p.nu j p.fp
 | .prod a b,d,c,ns=>∃h i f g,c=h++i/\ns=f++g/\WL G w a d.1 h f/\WL G w b d.2 i g
 | .int k,d,c,ns=>ns= []/\Enc G (.int k) d c
 | .bool,d,c,ns=>ns= []/\Enc G .bool d c
 | .slice e,d,c,ns=>ns= []/\Enc G (.slice e) d c
def qE{j:Type}(w:World)(R:j->List Value->List Pc->Prop)(n:Nat)(a f:Nu)(h:List j)(i:Nat)(S:CS):Prop:=
 h.length=a.len/\a.esz=n/\i<h.length/\∃b,a.blk=some b/\f.blk=some b/\f.off=a.off+i*n/\h.length<=a.cap/\a.cap<=maxLen/\Row w b (a.off+a.cap*n)/\
  ∃d e g c,dU R (h.take i) d g/\dU R (h.drop (i+1)) e c/\Mem w b a.off d/\Mem w b (a.off+(i+1)*n) e/\
   Sep (rng b a.off (i*n)::rng b (a.off+(i+1)*n) ((a.cap-(i+1))*n)::(g++c).map Pc.fp)/\
   ∀s∈rng b a.off (i*n)::rng b (a.off+(i+1)*n) ((a.cap-(i+1))*n)::(g++c).map Pc.fp,CS.le s S
def gy(G:GH)(f:Nat->Nu)(h:Nat)(w:World)(d:Nat)(S:CS):Ob->Prop
 | .box a=>∃b c,(f d).blk=some b/\Row w b ((f d).off+a.length)/\Mem w b (f d).off c/\CellsRel G f h a c/\CS.le (rng b (f d).off a.length) S
 | .arr e g=>az w (WL G w e) e.size (f d) g S
 | .hole e g i p=>p<h/\qE w (WL G w e) e.size (f d) (f p) g i S
 | .dead=>True
def Live(a:ai)(b:Nat):Prop:=∃c,look a b=some c/\c≠ .dead
structure WLe(F:CS)(w c:World):Prop where
 size:w.heap.size<=c.heap.size
 row:∀(b:Nat) (a:Array Value) (T:TypeId),w.heap[b]?=some (Obj.cells a T (0,0))->∃aD:Array Value,c.heap[b]?=some (Obj.cells aD T (0,0))/\aD.size=a.size
 cell:∀(b o:Nat),b<w.heap.size->¬F b o->c.cell? ⟨b,o,none⟩=w.cell? ⟨b,o,none⟩
 whole:∀(b:Nat),b<w.heap.size->(∀o,¬F b o)->c.heap[b]?=w.heap[b]?
 os:c.os=w.os
 output:c.output=w.output
 tape:c.tape=w.tape
structure HR(f:World)(F:CS)(G:GH)(c:Nat->Nu)(e:Nat->CS)(a:ai)(d:Nat)(w:World):Prop where
 g:∀b o v,G b o=some v->w.cell? ⟨b,o,none⟩=some v
 ob:∀id ob,look a id=some ob->gy G c d w id (e id) ob
 gf:∀id b o,Live a id->e id b o->G b o=none
 inj:∀id cH b o,Live a id->Live a cH->e id b o->e cH b o->id=cH
 own:∀id b o,Live a id->e id b o->f.heap.size<=b\/F b o
 lt:∀id,Live a id->id<d
 bl:∀id b o,Live a id->e id b o->b<w.heap.size
 le:WLe F f w
def HRel(a:World)(F:CS)(G:GH)(c:Nat->Nu)(b:ai)(d:Nat)(w:World):Prop:=∃e,HR a F G c e b d w
structure GExt(B:Nat)(F:CS)(G a:GH):Prop where
 le:∀b o v,G b o=some v->a b o=some v
 new:∀b o v,a b o=some v->G b o=some v\/B<=b\/F b o
structure Slots where
 n:Nat
 kept:List (Nat×Value)
def Slots.Ok(s:Slots)(d:Nat):Prop:=d<s.n/\∀p∈s.kept,p.1≠d
structure Rel(d:World)(F:CS)(e:Slots)(f G:GH)(c:Nat->Nu)(b:St)(a:Act)(w:World):Prop where
 defers:a.defers= []
 ntm:a.tmps.size=e.n
 par:∀p∈e.kept,a.tmps[p.1]?=some p.2
 env:∀i x,look b.env i=some x->∃v,a.tmps[i]?=some v/\AValRel G c b.nx x v
 h:HRel d F G c b.objs b.nx w
 gx:GExt d.heap.size F f G
set_option linter.unusedVariables false
inductive Shape where
 |basic|slice (e:TypeId)|struct (fs:List (Nat×TypeId))|ptr (e:TypeId)|arr (n:Nat) (e:TypeId)
structure TE where
 ty:Ty
 agg:Bool
 shape:Shape
abbrev Tab:=List (TypeId×TE)
def TE.plain(a:TE):Bool:=match a.shape with
 | .arr _ _=>false
 |_=>true
def Ws(k:IntKind)(a b:Int):Int:=k.wrap (a+b)
def ah(k:IntKind)(a b:Int):Int:=k.wrap (a-b)
def fg(k:IntKind)(a b:Int):Int:=k.wrap (a*b)
def kc(k:IntKind)(a b:Int):Int:=k.wrap (a.tdiv b)
def cj(a b:Int):Int:=a.tmod b
def x8(k:IntKind)(a b:Int):Int:=k.wrap (BitVec.ofInt k.bits a&&&BitVec.ofInt k.bits b).toNat
def ior(k:IntKind)(a b:Int):Int:=k.wrap (BitVec.ofInt k.bits a|||BitVec.ofInt k.bits b).toNat
def F9(k:IntKind)(a b:Int):Int:=k.wrap (BitVec.ofInt k.bits a^^^BitVec.ofInt k.bits b).toNat
def WC2(k:IntKind)(a b:Int):Int:=k.wrap (BitVec.ofInt k.bits a&&& ~~~BitVec.ofInt k.bits b).toNat
def OG(k:IntKind)(a b:Int):Int:=k.wrap (a*2^(min b.toNat k.bits))
def q7(k:IntKind)(a b:Int):Int:=a.fdiv (2^(min b.toNat k.bits))
def Wi{a:Type}(l:List a):Int:=(l.length:Int)
def inb(i:Int)(n:Nat):Bool:=decide (0<=i)&&decide (i<(n:Int))
def WH(n:Nat):Bool:=decide (n<=1073741824)
def beq(a b:Bool):Bool:=a==b
def inz(b:Int):Bool:=!decide (b=0)
def inn(b:Int):Bool:=!decide (b<0)
def one(t:Ty)(d:t.den):AVal:=.s (.one (.val t d))
def OI(c:BinOp)(k:IntKind)(a b:Int):Option (Bool×AVal):=
 match c with
 | .add=>some (true,one (.int k) (Ws k a b))
 | .sub=>some (true,one (.int k) (ah k a b))
 | .mul=>some (true,one (.int k) (fg k a b))
 | .quo=>some (inz b,one (.int k) (kc k a b))
 | .rem=>some (inz b,one (.int k) (cj a b))
 | .and=>some (true,one (.int k) (x8 k a b))
 | .or=>some (true,one (.int k) (ior k a b))
 | .xor=>some (true,one (.int k) (F9 k a b))
 | .andNot=>some (true,one (.int k) (WC2 k a b))
 | .eql=>some (true,one .bool (a==b))
 | .neq=>some (true,one .bool (a !=b))
 | .lss=>some (true,one .bool (decide (a<b)))
 | .leq=>some (true,one .bool (decide (a<=b)))
 | .gtr=>some (true,one .bool (decide (a>b)))
 | .geq=>some (true,one .bool (decide (a>=b)))
 |_=>none
def binOp(T:Tab)(c:BinOp)(t:TypeId)(x y:AVal):Option (Bool×AVal):=
 match x,y with
 | .s (.one (.val (.int k) a)),.s (.one (.val (.int k') b))=>
  match c with
  | .shl=>some (inn b,one (.int k) (OG k a b))
  | .shr=>some (inn b,one (.int k) (q7 k a b))
  |_=>if k=k' then OI c k a b else none
 | .s (.one (.val .bool a)),.s (.one (.val .bool b))=>
  match look T t with
  |some ⟨.bool,false,.basic⟩=>
   match c with
   | .eql=>some (true,one .bool (beq a b))
   | .neq=>some (true,one .bool (!beq a b))
   |_=>none
  |_=>none
 |_,_=>none
def unOp(a:UnOp)(x:AVal):Option (Bool×AVal):=
 match a,x with
 | .not,.s (.one (.val .bool b))=>some (true,one .bool (!b))
 | .neg,.s (.one (.val (.int k) n))=>some (true,one (.int k) (ah k 0 n))
 |_,_=>none
def split:(t:Ty)->t.den->List Cell
 | .prod a b,d=>split a d.1++split b d.2
 | .int k,d=>[.val (.int k) d]
 | .bool,d=>[.val .bool d]
 | .slice e,d=>[.val (.slice e) d]
 | .own e,d=>[.junk]
def lP:Value->Option Cell
 | .int k n=>some (.val (.int k) n)
 | .bool b=>some (.val .bool b)
 | .slice none 0 0=>some .nils
 | .pointer none=>some .junk
 | .nilFunc=>some .junk
 |_=>none
def WuY:Value->Option AVal
 | .agg a=>(a.toList.mapM lP).map λl=>.s (.agg l)
 |v=>(lP v).map λc=>.s (.one c)
def ev(a:St):Operand->Option AVal
 | .tmp t=>look a.env t
 | .const v=>WuY v
 | .func f=>some (.s (.one (.clos f [])))
 | .global _=>none
def St.put(a:St)(i:Option Tmp)(x:AVal):St:=
 match i with
 |some d=>{a with env:=(d,x)::a.env}
 |none=>a
def sub(b:Bool)(a:List Cell)(d n:Nat):Option AVal:=
 if b then(if d+n<=a.length then some (.s (.agg ((a.drop d).take n)))else none)
 else(a[d]?).map λc=>.s (.one c)
def xF(T:Tab)(b:St)(t:TypeId)(x:AVal):Option AVal:=
 match look T t with
 |some te=>
  if te.plain then
   match x with
   | .s (.one (.ptr id f))=>match look b.objs id with
    |some (.box a)=>sub te.agg a f te.ty.size
    |_=>none
   | .s (.one (.eptr id i f))=>match look b.objs id with
    |some (.arr e c)=>sub te.agg (split e (c.getD i e.dflt)) f te.ty.size
    |_=>none
   | .s (.one (.rptr t' d f))=>sub te.agg (split t' d) f te.ty.size
   |_=>none
  else none
 |none=>none
def asI:AVal->Option Int
 | .s (.one (.val (.int _) n))=>some n
 |_=>none
def asB:AVal->Option Bool
 | .s (.one (.val .bool b))=>some b
 |_=>none
def obL(o:Option Ob):Option (Bool×AVal):=match o with
 |some (.arr _ a)=>some (true,one (.int .i64) (Wi a))
 |some (.hole _ a _ _)=>some (true,one (.int .i64) (Wi a))
 |_=>none
def si(T:Tab)(b:St)(t:TypeId)(x:AVal):Option (Bool×AVal):=
 match look T t,x with
 |some ⟨_,false,.slice _⟩,.s (.one (.val (.slice _) l))=>some (true,one (.int .i64) (Wi l))
 |some ⟨_,false,.slice _⟩,.s (.one .nils)=>some (true,one (.int .i64) (0:Int))
 |some ⟨_,false,.slice _⟩,.s (.one (.own id))=>obL (look b.objs id)
 |some ⟨_,false,.slice _⟩,.s (.one (.vw _ a c))=>some (true,one (.int .i64) ((c-a:Nat):Int))
 |_,_=>none
def GQ(T:Tab)(t:TypeId)(f:Nat):Option (Nat×TE):=
 match look T t with
 |some ⟨_,_,.struct fs⟩=>match fs[f]? with
  |some (a,ft)=>match look T ft with
   |some te=>if te.plain then some (a,te)else none
   |none=>none
  |none=>none
 |_=>none
def CK(T:Tab)(b:St)(t:TypeId)(x:AVal)(f:Nat):Option (Bool×AVal):=
 match GQ T t f,x with
 |some (a,_),.s (.one (.ptr id o))=>match look b.objs id with
  |some (.box _)=>some (true,.s (.one (.ptr id (o+a))))
  |_=>none
 |some (a,_),.s (.one (.eptr id i o))=>match look b.objs id with
  |some (.arr _ _)=>some (true,.s (.one (.eptr id i (o+a))))
  |_=>none
 |some (a,_),.s (.one (.rptr t' d o))=>some (true,.s (.one (.rptr t' d (o+a))))
 |_,_=>none
def Rz(T:Tab)(t:TypeId)(x:AVal)(f:Nat):Option (Bool×AVal):=
 match GQ T t f,x with
 |some (b,te),.s (.agg a)=>(sub te.agg a b te.ty.size).map λv=>(true,v)
 |_,_=>none
def obI(c:TE)(n:Int)(b:Nat)(o:Option Ob):Option (Bool×AVal):=match o with
 |some (.arr e a)=>if c.ty=e.ro then some (inb n a.length,.s (.one (.eptr b n.toNat 0)))else none
 |some (.hole e a i p)=>if c.ty=e.ro then some (inb n a.length&&fG n.toNat i,.s (.one (.ptr p 0)))else none
 |_=>none
def Ga(b:TE)(n:Int)(c a f:Nat)(o:Option Ob):Option (Bool×AVal):=match o with
 |some (.arr e d)=>if b.ty=e.ro then some (inb n (f-a),.s (.one (.eptr c (a+n.toNat) 0)))else none
 |_=>none
def F4(b:TE)(n:Int)(k c:Nat)(o:Option Ob):Option (Bool×AVal):=match o with
 |some (.arr e a)=>if b.ty=e then some (inb n k&&decide (a.length=k),.s (.one (.eptr c n.toNat 0)))else none
 |_=>none
def CJ(T:Tab)(b:St)(t:TypeId)(x i:AVal):Option (Bool×AVal):=
 match look T t,asI i with
 |some ⟨_,_,.slice et⟩,some n=>match look T et with
  |some te=>
   if te.plain then match x with
    | .s (.one (.val (.slice e) l))=>if te.ty=e then some (inb n (Xa l),.s (.one (.rptr e (Xc l n.toNat e.dflt) 0)))else none
    | .s (.one .nils)=>some (false,.s (.one .junk))
    | .s (.one (.own id))=>obI te n id (look b.objs id)
    | .s (.one (.vw id a c))=>Ga te n id a c (look b.objs id)
    |_=>none
   else none
  |none=>none
 |some ⟨_,_,.arr k et⟩,some n=>match look T et with
  |some te=>
   if te.plain then match x with
    | .s (.one (.aptr id))=>F4 te n k id (look b.objs id)
    |_=>none
   else none
  |none=>none
 |_,_=>none
def bH(n:Nat)(a b:Option Int):Bool×Nat×Nat:=
 match a,b with
 |none,none=>(true,0,n)
 |some l,none=>(decide (0<=l)&&decide (l<=(n:Int)),l.toNat,n)
 |none,some h=>(decide (0<=h)&&decide (h<=(n:Int)),0,h.toNat)
 |some l,some h=>(decide (0<=h)&&decide (h<=(n:Int))&&decide (0<=l)&&decide (l<=h),l.toNat,h.toNat)
def CD{e:Type}(l:List e)(a d:Option Int):List e:=
 match a,d with
 |none,none=>l
 |some c,none=>l.drop c.toNat
 |none,some b=>l.take b.toNat
 |some c,some b=>(l.take b.toNat).drop c.toNat
def j0(a:St):Option Operand->Option (Option Int)
 |none=>some none
 |some x=>((ev a x).bind asI).map some
def K5(T:Tab)(b:St)(t:TypeId)(x:AVal)(a d:Option Operand):Option (Bool×AVal):=
 match look T t,x,j0 b a,j0 b d with
 |some ⟨_,_,.slice et⟩,.s (.one (.val (.slice e) c)),some l,some h=>match look T et with
  |some te=>if te.ty=e/\te.plain then some ((bH (Xa c) l h).1,one (.slice e) (CD c l h))else none
  |none=>none
 |_,_,_,_=>none
def LJ(a:St):AVal->Option Ob
 | .s (.one (.own id))=>look a.objs id
 |_=>none
def TJ(T:Tab)(o:Option Ob)(b a:TypeId)(x:AVal):Option (Bool×AVal):=
 match look T b,look T a,x with
 |some ⟨.int _,false,.basic⟩,some ⟨.int k,false,.basic⟩,.s (.one (.val (.int _) n))=>some (true,one (.int k) (k.wrap n))
 |_,_,_=>none
def DL(T:Tab)(c:St)(b a:TypeId)(x:AVal):Option (Bool×AVal):=TJ T (LJ c x) b a x
def DZ(a:St)(x:AVal):Option (Bool×AVal):=
 match x with
 | .s (.one (.rptr _ _ _))=>some (true,x)
 | .s (.one (.ptr id _))=>match look a.objs id with
  |some (.box _)=>some (true,x)
  |_=>none
 | .s (.one (.eptr id _ _))| .s (.one (.aptr id))=>match look a.objs id with
  |some (.arr _ _)=>some (true,x)
  |_=>none
 |_=>none
def uY(a:St):List Operand->Option (List Nat)
 | []=>some []
 |o::l=>match ev a o,uY a l with
  |some (.s (.one (.ptr b 0))),some r=>some (b::r)
  |_,_=>none
def TV(a b:Int):Int:=if b<a then b else a
def CB(a b:Int):Int:=if a<b then b else a
def dI(T:Tab)(h:St):Op->Option (Bool×AVal)
 | .move x| .assign x=>(ev h x).map λv=>(true,v)
 | .pick c g b=>match(ev h c).bind asB with
  |some p=>match ev h g,ev h b with
   |some (.s (.one (.val .bool x))),some (.s (.one (.val .bool y)))=>some (true,one .bool (bif p then x else y))
   |e,vb=>(bif p then e else vb).map λv=>(true,v)
  |none=>none
 | .load t g=>(ev h g).bind λv=>(xF T h t v).map λr=>(true,r)
 | .nilCheck x=>(ev h x).bind (DZ h)
 | .binOp op t x y _=>match ev h x,ev h y with
  |some g,some b=>binOp T op t g b
  |_,_=>none
 | .unOp op _ x=>(ev h x).bind (unOp op)
 | .convert src a x=>(ev h x).bind (DL T h src a)
 | .slice t x m l none=>(ev h x).bind λv=>K5 T h t v m l
 | .fieldAddr s x f=>(ev h x).bind λv=>CK T h s v f
 | .field t x f=>(ev h x).bind λv=>Rz T t v f
 | .indexAddr t x i=>match ev h x,ev h i with
  |some g,some b=>CJ T h t g b
  |_,_=>none
 | .extract t ix=>match ev h t with
  |some (.tup j)=>(j[ix]?).map λx=>(true,.s x)
  |_=>none
 | .makeFunc (.func f) first captured=>if first.isEmpty then(uY h captured.toList).map λd=>(true,.s (.one (.clos f d)))else none
 | .call c=>match c.callee,c.args.toList,c.argTypes.toList with
  | .builtin .len,[x],[t]=>(ev h x).bind (si T h t)
  | .builtin .min,[x,y],[_,_]=>match ev h x,ev h y with
   |some (.s (.one (.val (.int k) g))),some (.s (.one (.val (.int k') b)))=>if k=k' then some (true,one (.int k) (TV g b))else none
   |_,_=>none
  | .builtin .max,[x,y],[_,_]=>match ev h x,ev h y with
   |some (.s (.one (.val (.int k) g))),some (.s (.one (.val (.int k') b)))=>if k=k' then some (true,one (.int k) (CB g b))else none
   |_,_=>none
  |_,_,_=>none
 |_=>none
def qx:Ty->List Cell
 | .prod a b=>qx a++qx b
 | .int k=>[.val (.int k) (0:Int)]
 | .bool=>[.val .bool false]
 | .slice _=>[.nils]
 | .own _=>[.junk]
def Ty.data:Ty->Bool
 | .own _=>false
 | .prod a b=>a.data&&b.data
 |_=>true
def unfold:(t:Ty)->t.den->Nat->List Cell×ai×Nat
 | .prod c b,d,a=>
  let x:=unfold c d.1 a
  let y:=unfold b d.2 x.2.2
  (x.1++y.1,x.2.1++y.2.1,y.2.2)
 | .own e,d,a=>([.own a],[(a,.arr e d)],a+1)
 | .int k,d,a=>([.val (.int k) d],[],a)
 | .bool,d,a=>([.val .bool d],[],a)
 | .slice e,d,a=>([.val (.slice e) d],[],a)
def xZ(t:Ty)(c:Cell):Option t.den:=
 match c with
 | .val t' d=>Ht t' t d
 |_=>none
def Tu(e:Ty)(g:ai)(c:List Cell->Option (e.den×List Nat×List Nat))(f:Nat):Option (List e.den×List Nat):=
 match look g f with
 |some (.arr e' h)=>(nc e' e h).map λb=>(b,[f])
 |some (.hole e' h i p)=>match nc e' e h,look g p with
  |some b,some (.box a)=>match c a with
   |some (d,m,[])=>some (b.set i d,f::p::m)
   |_=>none
  |_,_=>none
 |_=>none
def WzI(e:Ty)(g:ai)(c:List Cell->Option (e.den×List Nat×List Nat))(f:Nat):Option (List e.den×List Nat):=
 match look g f with
 |some (.arr e' h)=>(nc e'.ro e (gG e' h)).map λb=>(b,[f])
 |some (.hole e' h i p)=>match nc e'.ro e (gG e' h),look g p with
  |some b,some (.box a)=>match c a with
   |some (d,[],l)=>some (b.set i d,f::p::l)
   |_=>none
  |_,_=>none
 |_=>none
def d9:(t:Ty)->List Cell->ai->Option (t.den×List Nat×List Nat)
 | .prod i b,f,j=>match d9 i (f.take i.size) j,d9 b (f.drop i.size) j with
  |some (x,m,r),some (y,h,r')=>some ((x,y),m++h,r++r')
  |_,_=>none
 | .own e,f,j=>match f with
  | [.own id]=>(Tu e j (λf=>d9 e f j) id).map λp=>(p.1,p.2,[])
  | [.vw id a n]=>match look j id with
   |some (.arr e' l)=>(nc e' e l).map λg=>((g.take n).drop a,[id],[])
   |_=>none
  | [.nils]=>some (([]:List e.den),[],[])
  |_=>none
 | .slice e,f,j=>match f with
  | [.own id]=>(WzI e j (λf=>d9 e f j) id).map λp=>(p.1,[],p.2)
  | [.vw id a n]=>match look j id with
   |some (.arr e' l)=>(nc e'.ro e (gG e' l)).map λg=>((g.take n).drop a,[],[id])
   |_=>none
  | [.nils]=>some (([]:List e.den),[],[])
  | [c]=>(xZ (.slice e) c).map λd=>(d,[],[])
  |_=>none
 | .int k,f,_=>match f with
  | [c]=>(xZ (.int k) c).map λd=>(d,[],[])
  |_=>none
 | .bool,f,_=>match f with
  | [c]=>(xZ .bool c).map λd=>(d,[],[])
  |_=>none
def gc(i:Nat):List Nat->Bool
 | []=>false
 |j::l=>fG i j||gc i l
def iE:List Nat->Bool
 | []=>true
 |i::l=>!gc i l&&iE l
def eqN:List Nat->List Nat->Bool
 | [],[]=>true
 |i::l,j::m=>fG i j&&eqN l m
 |_,_=>false
def oT(l m:List Nat):Bool:=l.all λi=>!gc i m
def kill(a:ai):List Nat->ai
 | []=>a
 |i::l=>(i,.dead)::kill a l
def cellsOf(b:Bool):AVal->Option (List Cell)
 | .s (.one c)=>if b then none else some [c]
 | .s (.agg a)=>if b then some a else none
 | .tup _=>none
inductive PTy where
 |v (t:Ty) (agg:Bool)
 |box (t:Ty)
 |mut (e:Ty)
 |clos (g:FuncId) (n:Nat)
 |rp (t:Ty)
 |boxal (t:Ty) (lf:Nat)
 |vj (t:Ty)
def Ty.owns:Ty->Nat
 | .own _=>1
 | .prod a b=>a.owns+b.owns
 |_=>0
def gR:List PTy->Type
 | []=>Unit
 | .v t _::ps=>t.den×gR ps
 | .box t::ps=>t.den×gR ps
 | .mut e::ps=>List e.den×gR ps
 | .clos _ _::ps=>gR ps
 | .rp t::ps=>t.den×gR ps
 | .vj _::ps=>gR ps
 | .boxal t _::ps=>t.den×Nat×gR ps
def hQ:List PTy->Type
 | []=>Unit
 | .v _ _::ps=>hQ ps
 | .box t::ps=>t.den×hQ ps
 | .mut e::ps=>List e.den×hQ ps
 | .clos _ _::ps=>hQ ps
 | .rp _::ps=>hQ ps
 | .vj _::ps=>hQ ps
 | .boxal t _::ps=>t.den×hQ ps
def iO:List PTy->Type
 | []=>Unit
 | .v t _::rs=>t.den×iO rs
 | .box t::rs=>t.den×iO rs
 | .mut _::rs=>iO rs
 | .clos _ _::rs=>iO rs
 | .rp _::rs=>iO rs
 | .vj t::rs=>t.den×iO rs
 | .boxal _ _::rs=>iO rs
structure Kp where
 id:Nat
 off:Nat
structure Args(ps:List PTy) where
 d:gR ps
 moved:List Nat
 lent:List Nat
 kept:List Kp
 all:List Nat
def m7:Ty->Nat->Option Nat
 | .own _,n=>match n with
  |0=>some 0
  |_+1=>none
 | .prod a b,n=>if n<a.owns then m7 a n else(m7 b (n-a.owns)).map (a.size+ ·)
 | .int _,_=>none
 | .bool,_=>none
 | .slice _,_=>none
def RU(b:ai):Cell->AVal->Option Nat
 | .own r,.s (.one (.ptr p a))=>match a,look b r with
  |0,some (.hole _ _ i p')=>if fG p p' then some i else none
  |_,_=>none
 | .own r,.s (.one (.eptr r' i a))=>match a,look b r with
  |0,some (.arr _ _)=>if fG r r' then some i else none
  |_,_=>none
 |_,_=>none
def WDv:Cell->Bool
 | .vw _ _ _=>false
 |_=>true
def iM(l:List Nat):List AVal:=l.map λa=>.s (.one (.ptr a 0))
def i8:(f:List PTy)->List AVal->ai->Option (Args f)
 | [],j,_=>match j with
  | []=>some ⟨(),[],[],[],[]⟩
  |_=>none
 | .v t agg::f,j,a=>match j with
  |x::j=>match(cellsOf agg x).bind λh=>d9 t h a,i8 f j a with
   |some (d,m,r),some A=>some ⟨(d,A.d),m++A.moved,r++A.lent,A.kept,m++A.all⟩
   |_,_=>none
  |_=>none
 | .box t::f,j,a=>match j with
  | .s (.one (.ptr id b))::j=>match look a id with
   |some (.box h)=>match d9 t ((h.drop b).take t.size) a,i8 f j a with
    |some (d,m,[]),some A=>some ⟨(d,A.d),m++A.moved,A.lent,⟨id,b⟩::A.kept,id::(m++A.all)⟩
    |_,_=>none
   |_=>none
  |_=>none
 | .mut e::f,j,a=>match j with
  | .s (.one (.own id))::j=>match look a id with
   |some (.arr e' ys)=>match nc e' e ys,i8 f j a with
    |some d,some A=>some ⟨(d,A.d),A.moved,A.lent,⟨id,0⟩::A.kept,id::A.all⟩
    |_,_=>none
   |_=>none
  |_=>none
 | .clos g n::f,j,a=>match j with
  | .s (.one (.clos g' caps))::j=>if g'=g/\caps.length=n then(i8 f (iM caps++j) a).map λA=>⟨A.d,A.moved,A.lent,A.kept,A.all⟩else none
  |_=>none
 | .rp t::f,j,a=>match j with
  | .s (.one (.ptr id b))::j=>match look a id with
   |some (.box h)=>match d9 t ((h.drop b).take t.size) a,i8 f j a with
    |some (d,[],r),some A=>if t.data then some ⟨(d,A.d),A.moved,id::(r++A.lent),A.kept,A.all⟩else none
    |_,_=>none
   |_=>none
  | .s (.one (.rptr t' d b))::j=>match d9 t (((split t' d).drop b).take t.size) a,i8 f j a with
   |some (d,[],[]),some A=>if t.data then some ⟨(d,A.d),A.moved,A.lent,A.kept,A.all⟩else none
   |_,_=>none
  |_=>none
 | .vj _::_,_,_=>none
 | .boxal t lf::f,j,a=>match j with
  | .s (.one (.ptr id b))::y::j=>match look a id with
   |some (.box h)=>match d9 t ((h.drop b).take t.size) a,i8 f j a,((m7 t lf).bind λk=>((h.drop b).take t.size)[k]?).bind λc=>RU a c y with
    |some (d,m,[]),some A,some i=>some ⟨(d,i,A.d),m++A.moved,A.lent,⟨id,b⟩::A.kept,id::(m++A.all)⟩
    |_,_,_=>none
   |_=>none
  |_=>none
def TU:(t:Ty)->t.den->List Nat->ai
 | .own e,d,ids=>match ids with
  |id::_=>[(id,.arr e d)]
  | []=>[]
 | .prod a b,d,ids=>TU a d.1 (ids.take a.owns)++TU b d.2 (ids.drop a.owns)
 | .int _,_,_=>[]
 | .bool,_,_=>[]
 | .slice _,_,_=>[]
def py(a:List Cell)(c:Nat)(b:List Cell):List Cell:=a.take c++b++a.drop (c+b.length)
def xI(o:Option Ob)(c:Nat)(b:List Cell):Ob:=match o with
 |some (.box a)=>.box (py a c b)
 |_=>.dead
def gN:(b:List PTy)->hQ b->List Kp->ai->Nat->ai×Nat
 | [],_,_,d,a=>(d,a)
 | .v _ _::b,o,c,d,a=>gN b o c d a
 | .box t::b,o,c,d,a=>match c with
  |k::c=>
   let x:=unfold t o.1 a
   gN b o.2 c ((k.id,xI (look d k.id) k.off x.1)::(x.2.1++d)) x.2.2
  | []=>(d,a)
 | .mut e::b,o,c,d,a=>match c with
  |k::c=>gN b o.2 c ((k.id,.arr e o.1)::d) a
  | []=>(d,a)
 | .clos _ _::b,o,c,d,a=>gN b o c d a
 | .rp _::b,o,c,d,a=>gN b o c d a
 | .vj _::b,o,c,d,a=>gN b o c d a
 | .boxal t _::b,o,c,d,a=>match c with
  |k::c=>
   let x:=unfold t o.1 a
   gN b o.2 c ((k.id,xI (look d k.id) k.off x.1)::(x.2.1++d)) x.2.2
  | []=>(d,a)
def IX(b:Bool)(a:List Cell):AV:=if b then .agg a else match a with
 | [c]=>.one c
 |_=>.agg a
def iy:(b:List PTy)->iO b->ai->Nat->List AV×ai×Nat
 | [],_,c,a=>([],c,a)
 | .v t agg::b,d,c,a=>
  let x:=unfold t d.1 a
  let y:=iy b d.2 (x.2.1++c) x.2.2
  (IX agg x.1::y.1,y.2)
 | .box t::b,d,c,a=>
  let x:=unfold t d.1 (a+1)
  let y:=iy b d.2 ((a,.box x.1)::(x.2.1++c)) x.2.2
  (.one (.ptr a 0)::y.1,y.2)
 | .mut _::b,d,c,a=>iy b d c a
 | .clos _ _::b,d,c,a=>iy b d c a
 | .rp _::b,d,c,a=>iy b d c a
 | .vj t::b,d,c,a=>
  let x:=unfold t d.1 a
  let y:=iy b d.2 (x.2.1++c) x.2.2
  (.agg (x.1++ [.junk])::y.1,y.2)
 | .boxal _ _::b,d,c,a=>iy b d c a
def TP:List AV->AVal
 | [x]=>.s x
 |a=>.tup a
structure Sig where
 ps:List PTy
 rs:List PTy
 fn:(R:Type)->gR ps->(hQ ps×iO rs->Option R)->Option R
 run:gR ps->Option (hQ ps×iO rs)
 law:∀(R:Type) (d:gR ps) (k:hQ ps×iO rs->Option R),fn R d k=(run d).bind k
noncomputable def Sig.of(b c:List PTy)(a:gR b->Option (hQ b×iO c)):Sig:=⟨b,c,λ_ d k=>(a d).bind k,a,λ_ _ _=>rfl⟩
def Sig.law'(s:Sig){R}(d)(k)(r)(h:s.fn R d k=some r):∃o,s.run d=some o/\k o=some r:=by
 rw[s.law]at h;cases a:s.run d with
 |none=>simp_all
 |some o=>simp_all
def PTy.fresh:PTy->Bool
 | .v _ _=>true
 | .box t=>t.noRo
 | .mut e=>e.noRo
 | .clos _ _=>true
 | .rp _=>true
 | .vj _=>true
 | .boxal t _=>t.noRo
def PTy.freshR:PTy->Bool
 | .v t _=>t.noRo
 | .box t=>t.noRo
 | .mut _=>true
 | .clos _ _=>true
 | .rp _=>true
 | .vj t=>t.noRo
 | .boxal _ _=>true
def Sig.fresh(s:Sig):Bool:=s.rs.all PTy.freshR&&s.ps.all PTy.fresh
abbrev Ctx:=List (FuncId×Sig)
def evs(b:St):List Operand->Option (List AVal)
 | []=>some []
 |o::l=>match ev b o,evs b l with
  |some x,some a=>some (x::a)
  |_,_=>none
abbrev KV(R:Type):=AVal->ai->Nat->Option R
def r9{R:Type}(b:Sig)(c:St)(a:List AVal)(k:KV R):Option R:=
 match i8 b.ps a c.objs with
 |some A=>
  if iE A.all&&oT A.lent A.all&&(b.fresh||A.lent.isEmpty)then
   b.fn R A.d λo=>
    let p:=gN b.ps o.1 A.kept (kill c.objs A.moved) c.nx
    let q:=iy b.rs o.2 p.1 p.2
    k (TP q.1) q.2.1 q.2.2
  else none
 |none=>none
def Lj(c:ai)(b:List Nat):Cell->Cell
 | .own id=>bif gc id b then(match look c id with
  |some (.arr e g)=>.val (.slice e.ro) (gG e g)
  |_=>.junk)else .own id
 | .vw id a j=>.vw id a j
 | .val t d=>.val t d
 | .nils=>.nils
 | .aptr id=>.aptr id
 | .ptr id h=>.ptr id h
 | .eptr id i h=>.eptr id i h
 | .rptr t d h=>.rptr t d h
 | .clos f caps=>.clos f caps
 | .junk=>.junk
def xU(d:ai)(b:List Nat):AVal->AVal
 | .s (.one c)=>.s (.one (Lj d b c))
 | .s (.agg a)=>.s (.agg (a.map (Lj d b)))
 | .tup e=>.tup e
def Sg:Cell->List Nat
 | .own id=>[id]
 | .vw _ _ _=>[]
 | .val _ _=>[]
 | .nils=>[]
 | .aptr _=>[]
 | .ptr _ _=>[]
 | .eptr _ _ _=>[]
 | .rptr _ _ _=>[]
 | .clos _ _=>[]
 | .junk=>[]
def WvY:AVal->List Nat
 | .s (.one c)=>Sg c
 | .s (.agg a)=>a.flatMap Sg
 | .tup _=>[]
def LV:Ty->List Cell->List Nat
 | .prod d b,a=>LV d (a.take d.size)++LV b (a.drop d.size)
 | .slice _,a=>match a with
  |c::_=>Sg c
  | []=>[]
 | .own _,_=>[]
 | .int _,_=>[]
 | .bool,_=>[]
def xC(e:Ty):AVal->List Nat
 | .s (.one c)=>LV e [c]
 | .s (.agg a)=>LV e a
 | .tup _=>[]
def zU(a:ai)(p v:AVal):List Nat:=match p with
 | .s (.one (.eptr id _ _))=>match look a id with
  |some (.arr e _)=>bif e.data then WvY v else xC e v
  |_=>[]
 |_=>[]
def Ln(a:List (Nat×AVal)):List Nat:=a.flatMap λp=>WvY p.2
def uR(a:ai)(l:List Nat):ai:=kill a l
def Qx(a:ai)(b:List (Nat×AVal)):List (Nat×AVal):=b.map λp=>(p.1,xU a (Ln b) p.2)
def xX{R:Type}(b:Sig)(c:St)(a:List AVal)(k:KV R):Option R:=
 bif b.fresh then r9 b c a k else match i8 b.ps a c.objs with
  |some A=>match A.lent with
   | []=>r9 b c a k
   |_=>r9 b {env:=c.env,objs:=kill c.objs A.lent,nx:=c.nx} (a.map (xU c.objs A.lent)) k
  |none=>none
def St.new(c:St)(a:Option Tmp)(b:Ob)(x:AVal):St:=
 {env:=c.env,objs:=(c.nx,b)::c.objs,nx:=c.nx+1:St}.put a x
def St.turn(a:St)(c:Nat)(b:Ob):St:={a with objs:=(c,b)::a.objs}
def oF:AVal->Option (List Cell)
 | .s (.one c)=>some [c]
 | .s (.agg a)=>some a
 | .tup _=>none
def ql(T:Tab)(c:St)(t:TypeId)(x v:AVal):Option St:=
 match look T t,x,oF v with
 |some te,.s (.one (.ptr b g)),some ds=>match look c.objs b with
  |some (.box a)=>if decide (te.ty.size=ds.length)&&te.plain&&decide (g+ds.length<=a.length)then some (c.turn b (.box (py a g ds)))else none
  |_=>none
 |some te,.s (.one (.eptr b i g)),some ds=>match look c.objs b with
  |some (.arr e f)=>
   if decide (te.ty.size=ds.length)&&te.plain&&decide (g+ds.length<=e.size)&&e.data then
    match d9 e (py (split e (f.getD i e.dflt)) g ds) c.objs with
    |some (d,[],[])=>some (c.turn b (.arr e (f.set i d)))
    |_=>none
   else if decide (te.ty.size=ds.length)&&te.plain&&decide (g=0)&&decide (ds.length=e.size)then
    match d9 e ds c.objs with
    |some (d,m,[])=>if iE (b::m)then some {env:=c.env,objs:=(b,.arr e (f.set i d))::kill c.objs m,nx:=c.nx}else none
    |_=>none
   else none
  |_=>none
 |_,_,_=>none
def Oq(c:St)(e:Ty):AVal->Option (List e.den)
 | .s (.one (.val (.slice e') d))=>nc e' e d
 | .s (.one .nils)=>some []
 | .s (.one (.own id))=>match look c.objs id with
  |some (.arr e' f)=>nc e' e f
  |_=>none
 | .s (.one (.vw id a g))=>match look c.objs id with
  |some (.arr e' f)=>(nc e' e f).map λb=>(b.take g).drop a
  |_=>none
 |_=>none
def LY(c:St)(e:Ty):AVal->Option (List e.den×List Nat)
 | .s (.one .nils)=>some ([],[])
 | .s (.one (.own id))=>match look c.objs id with
  |some (.arr e' a)=>(nc e' e a).map λb=>(b,[id])
  |_=>none
 |_=>none
def WDB(a:St):AVal->Option Ty
 | .s (.one (.own id))=>match look a.objs id with
  |some (.arr e _)=>some e
  |_=>none
 |_=>none
def w6{R:Type}(d:St)(b:Ty)(s x:AVal)(k:KV R):Option R:=
 match s with
 | .s (.one .nils)=>match WDB d x with
  |some e=>if e.ro=b then match LY d e x with
    |some (l,m)=>bif WH l.length then k (.s (.one (.own d.nx))) ((d.nx,.arr e l)::kill d.objs m) (d.nx+1)else none
    |none=>none
   else none
  |none=>none
 | .s (.one (.own c))=>match look d.objs c with
  |some (.arr e a)=>if e.ro=b then match LY d e x with
    |some (l,m)=>if iE (c::m)then(bif WH (a.length+l.length)then k (.s (.one (.own d.nx))) ((d.nx,.arr e (Xh a l))::kill d.objs (c::m)) (d.nx+1)else none)else none
    |none=>none
   else none
  |_=>none
 |_=>none
def LO(a:St):AVal->AVal->Bool
 | .s (.one (.own id)),_=>match look a.objs id with
  |some (.arr e _)=>e.data
  |_=>true
 | .s (.one .nils),.s (.one (.own id))=>match look a.objs id with
  |some (.arr e _)=>e.data
  |_=>true
 |_,_=>true
def zH{R:Type}(T:Tab)(c:St)(t b:TypeId)(s x:AVal)(k:KV R):Option R:=
 match look T t,look T b with
 |some ⟨_,false,.slice et⟩,some _=>match look T et with
  |some te=>
   if t=b/\te.plain/\te.ty.data then
    bif !LO c s x then w6 c te.ty s x k else
    match s,Oq c te.ty x with
    | .s (.one .nils),some l=>bif WH l.length then k (.s (.one (.own c.nx))) ((c.nx,.arr te.ty l)::c.objs) (c.nx+1)else none
    | .s (.one (.own id)),some l=>match look c.objs id with
     |some (.arr e d)=>match Ht (.own e) (.own te.ty) d with
      |some ys=>bif WH (Xa ys+l.length)then k (.s (.one (.own c.nx))) ((c.nx,.arr te.ty (Xh ys l))::(id,.dead)::c.objs) (c.nx+1)else none
      |none=>none
     |_=>none
    | .s (.one (.vw id 0 a)),some l=>match look c.objs id with
     |some (.arr e d)=>match Ht (.own e) (.own te.ty) d with
      |some ys=>bif WH (a+l.length)then k (.s (.one (.own c.nx))) ((c.nx,.arr te.ty (Xh (ys.take a) l))::(id,.dead)::c.objs) (c.nx+1)else none
      |none=>none
     |_=>none
    |_,_=>none
   else none
  |none=>none
 |_,_=>none
def xY(T:Tab)(b:List (Nat×TypeId)):List (Nat×AVal)->List Cell->Option (List Cell)
 | [],a=>some a
 |(i,x)::ps,a=>match b[i]? with
  |some (c,ft)=>match look T ft,oF x with
   |some te,some ds=>if decide (te.ty.size=ds.length)&&decide (c+ds.length<=a.length)then xY T b ps (py a c ds)else none
   |_,_=>none
  |none=>none
def DW(e:Ty)(b:ai):List (Nat×AVal)->List e.den->Option (List e.den)
 | [],a=>some a
 |(i,x)::ps,a=>match oF x with
  |some ds=>match d9 e ds b with
   |some (d,[],[])=>if i<a.length then DW e b ps (a.set i d)else none
   |_=>none
  |none=>none
def pq(b:St):List (Nat×Operand)->Option (List (Nat×AVal))
 | []=>some []
 |(i,o)::l=>match ev b o,pq b l with
  |some x,some a=>some ((i,x)::a)
  |_,_=>none
inductive An where
 |nest (e:Ty)
 |view
 |opn
def IT(A:List (Nat×An))(o:Oper):Option An:=match o.dst with
 |some d=>look A d
 |none=>none
def rQ{R:Type}(a:St)(e:Ty)(b:List (Nat×AVal))(k:KV R):Option R:=
 match b with
 | [p]=>if p.1=0 then match oF (xU a.objs (xC e p.2) p.2)with
  |some ds=>match d9 e ds (uR a.objs (xC e p.2))with
   |some (d,m,[])=>if iE m then k (.s (.one (.own a.nx))) ((a.nx,.arr e [d])::kill (uR a.objs (xC e p.2)) m) (a.nx+1)else none
   |_=>none
  |none=>none
  else none
 |_=>none
def rW{R:Type}(d:St)(b:Ty)(c:Nat)(l h:Option Int)(k:KV R):Option R:=
 match look d.objs c with
 |some (.arr e a)=>if b=e.ro then bif (bH (Xa a) l h).1 then k (.s (.one (.vw c (bH (Xa a) l h).2.1 (bH (Xa a) l h).2.2))) d.objs d.nx else none else none
 |_=>none
def R8(o:Option Ob)(n:Nat):Bool:=match o with
 |some (.box a)=>fG a.length n
 |_=>false
def rxe{R:Type}(T:Tab)(B:Ctx)(A:List (Nat×An))(o:Oper)(m:St)(k:KV R):Option R:=
 match o.op with
 | .alloc t=>match look T t with
  |some ⟨e,true,.arr n _⟩=>if e.data&&WH n then k (.s (.one (.aptr m.nx))) ((m.nx,.arr e (Xp n e.dflt))::m.objs) (m.nx+1)else none
  |some te=>if te.plain then k (.s (.one (.ptr m.nx 0))) ((m.nx,.box (qx te.ty))::m.objs) (m.nx+1)else none
  |none=>none
 | .box t x=>match look T t,(ev m x).bind oF with
  |some _,some u=>k (.s (.one (.ptr m.nx 0))) ((m.nx,.box u)::m.objs) (m.nx+1)
  |_,_=>none
 | .build t parts=>match look T t,pq m parts.toList with
  |some ⟨d,true,.struct fs⟩,some ps=>
   if fs.all (λf=>match look T f.2 with|some te=>te.plain|none=>false)then
    match xY T fs ps (qx d)with
    |some u=>k (.s (.agg u)) m.objs m.nx
    |none=>none
   else none
  |_,_=>none
 | .buildSlice t n parts=>match look T t,pq m parts.toList with
  |some ⟨_,false,.slice et⟩,some ps=>match look T et with
   |some te=>match IT A o with
    |some (.nest e)=>if decide (n=1)&&decide (e.ro=te.ty)&&te.plain&&decide (te.ty.size<=16777216)then rQ m e ps k else none
    |_=>match DW te.ty (uR m.objs (Ln ps)) (Qx m.objs ps) (Xp n te.ty.dflt)with
    |some q=>if decide (n*te.ty.size<=16777216)&&te.ty.data&&te.plain then k (.s (.one (.own m.nx))) ((m.nx,.arr te.ty q)::uR m.objs (Ln ps)) (m.nx+1)else none
    |none=>none
   |none=>none
  |_,_=>none
 | .makeSlice t n c=>match look T t,(ev m n).bind asI,(ev m c).bind asI with
  |some ⟨_,false,.slice et⟩,some a,some w=>match look T et with
   |some te=>match IT A o with
    |some (.nest e)=>if decide (e.ro=te.ty)&&te.plain then(bif decide (0<=a)&&decide (a<=w)&&WH w.toNat then k (.s (.one (.own m.nx))) ((m.nx,.arr e (Xp a.toNat e.dflt))::m.objs) (m.nx+1)else none)else none
    |_=>if te.ty.data&&te.plain then(bif decide (0<=a)&&decide (a<=w)&&WH w.toNat then k (.s (.one (.own m.nx))) ((m.nx,.arr te.ty (Xp a.toNat te.ty.dflt))::m.objs) (m.nx+1)else none)else none
   |none=>none
  |_,_,_=>none
 | .store t j x=>match ev m j,ev m x with
  |some p,some v=>match ql T {env:=m.env,objs:=uR m.objs (zU m.objs p v),nx:=m.nx} t p (xU m.objs (zU m.objs p v) v)with
   |some z=>match o.dst with
    |none=>k (.tup []) z.objs z.nx
    |some _=>none
   |none=>none
  |_,_=>none
 | .slice t x y r none=>match ev m x with
  |some (.s (.one (.own id)))=>match look T t,j0 m y,j0 m r with
   |some ⟨_,false,.slice et⟩,some l,some h=>match look T et with
    |some te=>match IT A o with
     |some .view=>if te.plain then rW m te.ty id l h k else none
     |_=>match l,h,look m.objs id with
      |none,some h,some (.arr e q)=>if te.ty=e.ro/\te.plain then(bif decide (0<=h)&&decide (h<=(q.length:Int))then k (.s (.one (.own m.nx))) ((m.nx,.arr e (q.take h.toNat))::(id,.dead)::m.objs) (m.nx+1)else none)else none
      |none,some h,some (.hole e q i p)=>if te.ty=e.ro/\te.plain/\R8 (look m.objs p) e.size then(bif decide (0<=h)&&decide (h<=(q.length:Int))&&decide (h<=(i:Int))then k (.s (.one (.own m.nx))) ((m.nx,.arr e (q.take h.toNat))::(id,.dead)::(p,.dead)::m.objs) (m.nx+1)else none)else none
      |_,_,_=>none
    |none=>none
   |_,_,_=>none
  |_=>match dI T m o.op with
   |some (c,v)=>bif c then k v m.objs m.nx else none
   |none=>none
 | .call c=>match c.callee,c.args.toList,c.argTypes.toList with
  | .builtin .append,[s,x],[t,t2]=>match ev m s,ev m x with
   |some sv,some xv=>zH T m t t2 sv xv k
   |_,_=>none
  | .builtin .clear,[x],[t]=>match ev m x with
   |some (.s (.one (.vw id y r)))=>match look T t,look m.objs id with
    |some ⟨_,false,.slice et⟩,some (.arr e q)=>match look T et with
     |some te=>if te.ty=e/\te.plain/\e.data then k (.tup []) ((id,.arr e (q.take y++Xp (r-y) e.dflt++q.drop r))::m.objs) m.nx else none
     |none=>none
    |_,_=>none
   |_=>none
  | .builtin _,_,_=>match dI T m o.op with
   |some (c,v)=>bif c then k v m.objs m.nx else none
   |none=>none
  | .value f,b,_=>match ev m f,evs m b with
   |some (.s (.one (.clos g caps))),some q=>match look B g with
    |some sg=>xX sg m (q++iM caps) k
    |none=>none
   |_,_=>none
  |_,_,_=>none
 |op=>match dI T m op with
  |some (c,v)=>bif c then k v m.objs m.nx else none
  |none=>none
def rx1{R:Type}(T:Tab)(a:Ctx)(A:List (Nat×An))(o:Oper)(c:St)(k:St->Option R):Option R:=
 rxe T a A o c λx b d=>k (({env:=c.env,objs:=b,nx:=d}:St).put o.dst x)
def rxg{R:Type}(T:Tab)(a:Ctx)(A:List (Nat×An))(d:Array Oper)(o:Oper)(c:St)(k:St->Option R):Option R:=
 match o.guard with
 |none=>rx1 T a A o c k
 |some (j,want)=>match(d[j]?).bind (·.dst)with
  |some t=>match look c.env t with
   |some (.tup [])=>k (c.put o.dst (.tup []))
   |some x=>match asB x with
    |some b=>bif b
     then(if want then rx1 T a A o (c.put (some t) (one .bool true)) k else k ((c.put (some t) (one .bool true)).put o.dst (.tup [])))
     else(if want then k ((c.put (some t) (one .bool false)).put o.dst (.tup []))else rx1 T a A o (c.put (some t) (one .bool false)) k)
    |none=>none
   |none=>none
  |none=>none
inductive Ex where
 |normal|exit (id:Nat)|ret
def AI{R:Type}(f:St->(Ex->St->Option R)->Option R):Nat->St->(Ex->St->Option R)->Option R
 |0,_,_=>none
 |n+1,b,k=>f b λe a=>match e with
  | .normal=>AI f n a k
  | .exit id=>k (.exit id) a
  | .ret=>k .ret a
inductive Ghost where
 |canon (slots:List Nat)
 |adoptC (slot a:Nat) (e:Ty)
 |freezeC (slot a:Nat)
 |empt (slot:Nat) (e:Ty)
 |nest (b:Nat) (e:Ty)
 |view (b:Nat)
 |opn (b:Nat)
 |unfE (slot:Nat)
def sD:List Ghost->List (Nat×An)
 | []=>[]
 | .nest d e::l=>(d,.nest e)::sD l
 | .view d::l=>(d,.view)::sD l
 | .opn d::l=>(d,.opn)::sD l
 | .canon _::l=>sD l
 | .adoptC _ _ _::l=>sD l
 | .freezeC _ _::l=>sD l
 | .empt _ _::l=>sD l
 | .unfE _::l=>sD l
def lW:Cell->List Nat
 | .own id| .aptr id| .ptr id _| .eptr id _ _| .vw id _ _=>[id]
 | .clos _ caps=>caps
 |_=>[]
def nb:AV->List Nat
 | .one c=>lW c
 | .agg a=>a.flatMap lW
def kH:AVal->List Nat
 | .s x=>nb x
 | .tup a=>a.flatMap nb
def va:Nat->List Nat->List Nat->ai->List Nat
 |0,_,c,_=>c
 |n+1,b,c,d=>match b with
  | []=>c
  |i::l=>if gc i c then va n l c d else
   match look d i with
   |some (.box a)=>va n (l++a.flatMap lW) (c++ [i]) d
   |some (.arr _ _)=>va n l (c++ [i]) d
   |some (.hole _ _ _ p)=>va n (l++ [p]) (c++ [i]) d
   |_=>va n l c d
def qK(i:Nat):List Nat->Option Nat
 | []=>none
 |j::l=>if fG i j then some 0 else(qK i l).map (· +1)
def HB(m:List Nat):List Nat->Option (List Nat)
 | []=>some []
 |i::l=>match qK i m,HB m l with
  |some j,some r=>some (j::r)
  |_,_=>none
def qo(m:List Nat):Cell->Cell
 | .own id=>match qK id m with|some j=>.own j|none=>.junk
 | .vw id a c=>match qK id m with|some j=>.vw j a c|none=>.junk
 | .aptr id=>match qK id m with|some j=>.aptr j|none=>.junk
 | .ptr id b=>match qK id m with|some j=>.ptr j b|none=>.junk
 | .eptr id i b=>match qK id m with|some j=>.eptr j i b|none=>.junk
 | .clos f caps=>match HB m caps with|some js=>.clos f js|none=>.junk
 | .val t d=>.val t d
 | .nils=>.nils
 | .rptr t d b=>.rptr t d b
 | .junk=>.junk
def Oj(m:List Nat):AV->AV
 | .one c=>.one (qo m c)
 | .agg a=>.agg (a.map (qo m))
def Rr(m:List Nat):AVal->AVal
 | .s x=>.s (Oj m x)
 | .tup a=>.tup (a.map (Oj m))
def HD(m:List Nat):Ob->Ob
 | .box a=>.box (a.map (qo m))
 | .arr e b=>.arr e b
 | .hole e b i p=>match qK p m with|some j=>.hole e b i j|none=>.dead
 | .dead=>.dead
def zX(a:List (Nat×AVal)):List Nat->List (Nat×AVal)
 | []=>[]
 |i::l=>match look a i with
  |some x=>(i,x)::zX a l
  |none=>zX a l
def uG(m:List Nat)(a:ai):Nat->List Nat->ai
 |_,[]=>[]
 |j,i::l=>match look a i with
  |some ob=>(j,HD m ob)::uG m a (j+1) l
  |none=>uG m a (j+1) l
def canon(b:List Nat)(c:St):St:=
 let a:=zX c.env b
 let m:=va 400 (a.flatMap λp=>kH p.2) [] c.objs
 {env:=a.map λp=>(p.1,Rr m p.2),objs:=uG m c.objs 0 m,nx:=m.length}
def LG(b:St)(r i:Nat):Option St:=
 match look b.objs r with
 |some (.arr e a)=>
  let x:=unfold e (a.getD i e.dflt) (b.nx+1)
  some {env:=b.env,objs:=(r,.hole e a i b.nx)::(b.nx,.box x.1)::(x.2.1++b.objs),nx:=x.2.2}
 |_=>none
def x5(g:Ghost)(b:St):Option (Bool×St):=
 match g with
 | .canon slots=>some (true,canon slots b)
 | .adoptC slot d e=>match look b.env slot with
  |some (.s (.one (.ptr id 0)))=>match look b.objs id with
   |some (.box f)=>match f[d]? with
    |some .nils=>some (true,{env:=b.env,objs:=(id,.box (f.set d (.own b.nx)))::(b.nx,.arr e [])::b.objs,nx:=b.nx+1})
    |some (.own _)=>some (true,b)
    |_=>none
   |_=>none
  |_=>none
 | .freezeC slot d=>match look b.env slot with
  |some (.s (.one (.ptr id 0)))=>match look b.objs id with
   |some (.box f)=>match f[d]? with
    |some (.own j)=>match look b.objs j with
     |some (.arr e c)=>some (true,{b with objs:=(id,.box (f.set d (.val (.slice e.ro) (gG e c))))::(j,.dead)::b.objs})
     |_=>none
    |some (.val _ _)=>some (true,b)
    |some .nils=>some (true,b)
    |_=>none
   |_=>none
  |_=>none
 | .empt slot e=>match look b.env slot with
  |some (.s (.one (.own id)))=>match look b.objs id with
   |some (.arr e' [])=>if e.size=e'.size/\e.ro=e'.ro then some (true,b.turn id (.arr e []))else none
   |_=>none
  |_=>none
 | .nest _ _=>some (true,b)
 | .view _=>some (true,b)
 | .opn _=>some (true,b)
 | .unfE slot=>match look b.env slot with
  |some (.s (.one (.eptr r i 0)))=>(LG b r i).map λa=>(true,a.put (some slot) (.s (.one (.ptr b.nx 0))))
  |_=>none
def pw:List Ghost->St->Option (Bool×St)
 | [],b=>some (true,b)
 |g::l,b=>match x5 g b with
  |some (c,a)=>match pw l a with
   |some (d,dj)=>some (c&&d,dj)
   |none=>none
  |none=>none
def opG(A:List (Nat×An))(o:Oper)(a:St):Option (Bool×St):=match IT A o,o.dst with
 |some .opn,some d=>match look a.env d with
  |some (.tup [])=>some (true,a)
  |_=>x5 (.unfE d) a
 |some .view,_=>some (true,a)
 |some (.nest _),_=>some (true,a)
 |none,_=>some (true,a)
 |some .opn,none=>some (true,a)
def rxs{R:Type}(T:Tab)(a:Ctx)(A:List (Nat×An))(d:Array Oper):List Oper->St->(St->Option R)->Option R
 | [],b,k=>k b
 |o::l,b,k=>rxg T a A d o b λe=>match opG A o e with
  |some (c,dj)=>bif c then rxs T a A d l dj k else none
  |none=>none
def zZ:Code->Option Nat
 | .region id _ _=>some id
 | .seq a b=>match zZ a with
  |some i=>some i
  |none=>zZ b
 | .cond _ a b=>match zZ a with
  |some i=>some i
  |none=>zZ b
 | .block _ c=>zZ c
 | .loop c=>(zZ c).map (· +100000)
 |_=>none
def Al(c:Code):Nat:=match zZ c with
 |some i=>i+100000
 |none=>99999
def DQ{R:Type}(b:List Ghost)(f:St->(Ex->St->Option R)->Option R)(d:St)(k:Ex->St->Option R):Option R:=
 f d λe a=>match e with
  | .normal=>match pw b a with
   |some (c,dj)=>bif c then k .normal dj else none
   |none=>none
  | .exit id=>k (.exit id) a
  | .ret=>k .ret a
def be:Op->List Operand
 | .move x| .assign x| .box _ x| .load _ x| .nilCheck x| .unOp _ _ x| .convert _ _ x| .fieldAddr _ x _| .field _ x _| .extract x _=>[x]
 | .pick c a b=>[c,a,b]
 | .build _ ps| .buildSlice _ _ ps=>ps.toList.map (·.2)
 | .store _ a v| .binOp _ _ a v _| .makeSlice _ a v| .indexAddr _ a v| .index _ a v=>[a,v]
 | .makeFunc _ first captured=>first.toList++captured.toList
 | .slice _ x l h m=>x::(l.toList++(h.toList++m.toList))
 | .call c=>(match c.callee with| .value f=>[f]|_=>[])++c.args.toList
 |_=>[]
def cz(o:Oper):Bool:=match o.op with
 | .alloc _| .box _ _| .buildSlice _ _ _| .makeSlice _ _ _| .store _ _ _| .slice _ _ _ _ _=>true
 | .call c=>match c.callee with
  | .builtin .append=>true
  | .builtin .clear=>true
  | .builtin _=>false
  |_=>true
 |_=>false
def Oh:Op->Bool
 | .load _ _| .nilCheck _| .binOp _ _ _ _ _| .convert _ _ _| .fieldAddr _ _ _| .indexAddr _ _ _| .call _=>true
 |_=>false
def w7(a:St):List Operand->List Nat
 | []=>[]
 |x::l=>match ev a x with
  |some v=>kH v++w7 a l
  |none=>w7 a l
def qk(o:Oper)(a:St):List Nat:=bif Oh o.op then w7 a (be o.op)else []
def xT(l:ai):List Nat:=l.map (·.1)
def Sl(a b:ai):List Nat:=xT (b.take (b.length-a.length))
def IN(x:Nat)(l:List Nat):List Nat:=bif gc x l then l else x::l
def Hs:List Nat->List Nat->List Nat
 | [],l=>l
 |x::m,l=>Hs m (IN x l)
def lr(o:Oper):List Nat:=(o.after.toList.filter (Region.binds .any)).map (·.on)
def u6(a:List (List Nat)):List Nat->List Nat->List Nat
 | [],l=>l
 |j::ds,l=>u6 a ds (Hs (a.getD j []) (IN j l))
def kQ:List Oper->List (List Nat)->List (List Nat)
 | [],acc=>acc
 |o::l,acc=>kQ l (acc++ [u6 acc (lr o) []])
def hN(B:List (List Nat))(j i:Nat):Bool:=gc j (B.getD i [])
def LU:List Oper->Nat->Bool
 | [],_=>true
 |o::l,n=>(lr o).all (λd=>Nat.blt d n)&&LU l (n+1)
def Sb:Operand->List Nat
 | .tmp t=>[t]
 |_=>[]
def rO(a:Array Oper)(o:Oper):List Nat:=(be o.op).flatMap Sb++(match o.guard with
 |some (j,_)=>((a[j]?).bind (·.dst)).toList
 |none=>[])
def xN:List Oper->Nat->List (Nat×Nat)
 | [],_=>[]
 |o::l,i=>match o.dst with
  |some d=>(d,i)::xN l (i+1)
  |none=>xN l (i+1)
def Lf(a:Array Oper)(B:List (List Nat))(D:List (Nat×Nat)):List Oper->Nat->Bool
 | [],_=>true
 |o::l,i=>(rO a o).all (λt=>D.all λp=>!fG p.1 t||fG p.2 i||hN B p.2 i||hN B i p.2)&&Lf a B D l (i+1)
def Ot(a:Array Oper)(B:List (List Nat)):Bool:=
 LU a.toList 0&&iE ((xN a.toList 0).map (·.1))&&Lf a B (xN a.toList 0) a.toList 0
def xD:List Oper->Nat->List Nat
 | [],_=>[]
 |o::l,i=>bif cz o then i::xD l (i+1)else xD l (i+1)
def zn(B:List (List Nat)):Nat->List Nat->List (List Nat)
 |0,_=>[[]]
 |n+1,rem=>match rem with
  | []=>[[]]
  |_=>(rem.filter λm=>rem.all λa=>!hN B a m).flatMap λm=>(zn B n (rem.filter λx=>!fG x m)).map (m:: ·)
def Wzp(a:List Oper)(B:List (List Nat))(b σ:List Nat):Nat->Option Nat:=λi=>match a with
 | []=>none
 |o::l=>bif !gc i b&&(B.getD i []).all (λj=>gc j b)&&(!cz o||(match σ with|m::_=>fG m i| []=>false))then some i else Wzp l B b σ (i+1)
def Le(a:List Oper)(B:List (List Nat)):Nat->List Nat->List Nat->List Nat
 |0,_,_=>[]
 |n+1,b,σ=>match Wzp a B b σ 0 with
  |some i=>i::Le a B n (i::b) (match σ with|m::σ'=>bif fG m i then σ' else σ| []=>[])
  |none=>[]
def sq(a:Array Oper):List Nat->List Nat->Bool
 | [],done=>fG done.length a.size
 |i::l,done=>!gc i done&&(match a[i]? with|some o=>(lr o).all (λd=>gc d done)|none=>false)&&sq a l (i::done)
def uW{a:Type}:List Nat->(List Nat->a)->a
 | [],k=>k []
 |x::l,k=>uW l λb=>k (x::b)
def Lx{c:Type}:List (List Nat)->(List (List Nat)->c)->c
 | [],k=>k []
 |x::l,k=>uW x λa=>Lx l λb=>k (a::b)
def rdx{R:Type}(T:Tab)(a:Ctx)(A:List (Nat×An))(f:Array Oper)(B:List (List Nat)):List Nat->List (Nat×List Nat)->List (Nat×List Nat)->St->(St->Option R)->Option R
 | [],_,_,e,k=>k e
 |i::l,b,c,e,k=>match f[i]? with
  |some o=>bif cz o
   then rxg T a A f o e λg=>uW (Sl e.objs g.objs) λd=>
    bif b.all (λp=>hN B p.1 i||oT p.2 d)then rdx T a A f B l b ((i,d)::c) g k else none
   else uW (qk o e) λd=>
    bif c.all (λp=>hN B p.1 i||oT d p.2)then rxg T a A f o e λg=>rdx T a A f B l ((i,d)::b) c g k else none
  |none=>none
def Wm{b a:Type}(x:b)(f:b->a):a:=f x
open Classical in
noncomputable def dL{a:Type}(c b:Option a):Option a:=if c=b then c else none
noncomputable def F3{R:Type}(T:Tab)(a:Ctx)(A:List (Nat×An))(d:Array Oper)(B:List (List Nat))(c:St)(k:St->Option R):List (List Nat)->Option R
 | []=>none
 |σ::l=>
  let b:=uW (Le d.toList B d.size [] σ) λL=>bif sq d L []&&eqN (L.filter λi=>gc i σ) σ then rdx T a A d B L [] [] c k else none
  match l with
  | []=>b
  |_=>dL b (F3 T a A d B c k l)
noncomputable def Oc{R:Type}(T:Tab)(a:Ctx)(A:List (Nat×An))(c:Array Oper)(b:St)(k:St->Option R):Option R:=
 Lx (kQ c.toList []) λB=>bif Ot c B then F3 T a A c B b k (zn B c.size (xD c.toList 0))else none
noncomputable def sx{R:Type}(T:Tab)(a:Ctx)(d:Nat->List Ghost)(N:Nat):Code->St->(Ex->St->Option R)->Option R
 | .skip,g,k=>k .normal g
 | .region id h draw,g,k=>
  bif draw then Oc T a (sD (d id)) h g λi=>match pw (d id) i with
   |some (c,dj)=>bif c then k .normal dj else none
   |none=>none
  else rxs T a (sD (d id)) h h.toList g λi=>match pw (d id) i with
   |some (c,dj)=>bif c then k .normal dj else none
   |none=>none
 | .seq f b,g,k=>sx T a d N f g λe i=>match e with
  | .normal=>sx T a d N b i k
  | .exit id=>k (.exit id) i
  | .ret=>k .ret i
 | .cond c x y,g,k=>match(ev g c).bind asB with
  |some b=>bif b then sx T a d N x g k else sx T a d N y g k
  |none=>none
 | .block id c,g,k=>sx T a d N c g λe i=>match e with
  | .exit cH=>if cH=id then k .normal i else k (.exit cH) i
  | .normal=>k .normal i
  | .ret=>k .ret i
 | .loop c,g,k=>match pw (d (Al c)) g with
  |some (b,i)=>bif b then AI (DQ (d (Al c)) λg k=>sx T a d N c g k) N i k else none
  |none=>none
 | .exit id,g,k=>k (.exit id) g
 | .ret,g,k=>k .ret g
 |_,_,_=>none
def HK:List AVal->List Nat
 | []=>[]
 | .s (.one (.ptr id 0))::l=>id::HK l
 |_::l=>HK l
def W3:(b:List PTy)->gR b->ai->Nat->List AVal×ai×Nat
 | [],_,c,a=>([],c,a)
 | .v t agg::b,d,c,a=>
  let x:=unfold t d.1 a
  let y:=W3 b d.2 (x.2.1++c) x.2.2
  (.s (IX agg x.1)::y.1,y.2)
 | .box t::b,d,c,a=>
  let x:=unfold t d.1 (a+1)
  let y:=W3 b d.2 ((a,.box x.1)::(x.2.1++c)) x.2.2
  (.s (.one (.ptr a 0))::y.1,y.2)
 | .mut e::b,d,c,a=>
  let y:=W3 b d.2 ((a,.arr e d.1)::c) (a+1)
  (.s (.one (.own a))::y.1,y.2)
 | .clos g n::b,d,c,a=>
  let y:=W3 b d c a
  (.s (.one (.clos g (HK (y.1.take n))))::y.1.drop n,y.2)
 | .rp t::b,d,c,a=>
  let y:=W3 b d.2 c a
  (.s (.one (.rptr t d.1 0))::y.1,y.2)
 | .vj _::b,d,c,a=>
  let y:=W3 b d c a
  (.tup []::y.1,y.2)
 | .boxal t lf::b,d,c,a=>
  let x:=unfold t d.1 (a+1)
  let y:=W3 b d.2.2 ((a,.box x.1)::(x.2.1++c)) x.2.2
  (.s (.one (.ptr a 0)):: .s (.one (.eptr (a+1+lf) d.2.1 0))::y.1,y.2)
def Dt:Nat->List AVal->List (Nat×AVal)
 |_,[]=>[]
 |i,x::a=>(i,x)::Dt (i+1) a
def qr(T:Tab)(c:St):List ResultVar->Option (List AVal)
 | []=>some []
 | .tmp t::rs=>match look c.env t,qr T c rs with
  |some x,some a=>some (x::a)
  |_,_=>none
 | .cell b t::rs=>match(look c.env b).bind (xF T c t),qr T c rs with
  |some x,some a=>some (x::a)
  |_,_=>none
structure Outs(a:Type) where
 d:a
 moved:List Nat
 lent:List Nat
def kI:(b:List PTy)->List AVal->ai->Option (Outs (iO b))
 | [],e,_=>match e with
  | []=>some ⟨(),[],[]⟩
  |_=>none
 | .v t agg::b,e,a=>match e with
  |x::e=>match(cellsOf agg x).bind λc=>d9 t c a,kI b e a with
   |some (d,m,l),some A=>some ⟨(d,A.d),m++A.moved,l++A.lent⟩
   |_,_=>none
  |_=>none
 | .box t::b,e,a=>match e with
  | .s (.one (.ptr id 0))::e=>match look a id with
   |some (.box c)=>match d9 t c a,kI b e a with
    |some (d,m,l),some A=>some ⟨(d,A.d),id::(m++A.moved),l++A.lent⟩
    |_,_=>none
   |_=>none
  |_=>none
 | .mut _::_,_,_=>none
 | .clos _ _::_,_,_=>none
 | .rp _::_,_,_=>none
 | .vj t::b,e,a=>match e with
  | .s (.agg c)::e=>if c.length=t.size+1 then(match d9 t (c.take t.size) a,kI b e a with
   |some (d,m,l),some A=>some ⟨(d,A.d),m++A.moved,l++A.lent⟩
   |_,_=>none)else none
  |_=>none
 | .boxal _ _::_,_,_=>none
structure OutK(a:Type) where
 d:a
 kept:List Nat
 moved:List Nat
 lent:List Nat
def WQ:List PTy->Nat->Nat->St->List AVal
 | [],_,_,_=>[]
 |_::ps,i,k+1,a=>WQ ps i k a
 | .v _ _::ps,i,0,a=>.tup []::WQ ps (i+1) 0 a
 | .box _::ps,i,0,a=>(look a.env i).getD (.tup [])::WQ ps (i+1) 0 a
 | .mut _::ps,i,0,a=>(look a.env i).getD (.tup [])::WQ ps (i+1) 0 a
 | .clos _ n::ps,i,0,a=>(look a.env i).getD (.tup [])::WQ ps (i+1) n a
 | .rp _::ps,i,0,a=>.tup []::WQ ps (i+1) 0 a
 | .vj _::ps,i,0,a=>.tup []::WQ ps (i+1) 0 a
 | .boxal _ _::ps,i,0,a=>(look a.env i).getD (.tup []):: .tup []::WQ ps (i+2) 0 a
def hG:(b:List PTy)->List AVal->ai->Option (OutK (hQ b))
 | [],_,_=>some ⟨(),[],[],[]⟩
 | .v _ _::b,c,f=>(hG b c.tail f).map λA=>⟨A.d,A.kept,A.moved,A.lent⟩
 | .box t::b,c,f=>match c with
  | .s (.one (.ptr id 0))::c=>match look f id with
   |some (.box a)=>match d9 t a f,hG b c f with
    |some (d,m,l),some A=>some ⟨(d,A.d),id::A.kept,m++A.moved,l++A.lent⟩
    |_,_=>none
   |_=>none
  |_=>none
 | .mut e::b,c,f=>match c with
  | .s (.one (.own id))::c=>match look f id with
   |some (.arr e' ys)=>match nc e' e ys,hG b c f with
    |some d,some A=>some ⟨(d,A.d),id::A.kept,A.moved,A.lent⟩
    |_,_=>none
   |_=>none
  |_=>none
 | .clos g n::b,c,f=>match c with
  | .s (.one (.clos g' caps))::c=>if g'=g/\caps.length=n then(hG b (iM caps++c) f).map λA=>⟨A.d,A.kept,A.moved,A.lent⟩else none
  |_=>none
 | .rp _::b,c,f=>(hG b c.tail f).map λA=>⟨A.d,A.kept,A.moved,A.lent⟩
 | .vj _::_,_,_=>none
 | .boxal t _::b,c,f=>match c with
  | .s (.one (.ptr id 0))::_::c=>match look f id with
   |some (.box a)=>match d9 t a f,hG b c f with
    |some (d,m,l),some A=>some ⟨(d,A.d),id::A.kept,m++A.moved,l++A.lent⟩
    |_,_=>none
   |_=>none
  |_=>none
def Oy{R:Type}(T:Tab)(b:Sig)(a:List ResultVar)(k:hQ b.ps×iO b.rs->Option R)(e:Ex)(c:St):Option R:=
 match e with
 | .exit _=>none
 |_=>match qr T c a with
  |some d=>match kI b.rs d c.objs,hG b.ps (WQ b.ps 0 0 c) c.objs with
   |some A,some B=>if iE (B.kept++(B.moved++A.moved))&&oT (A.lent++B.lent) (B.kept++(B.moved++A.moved))then k (B.d,A.d)else none
   |_,_=>none
  |none=>none
noncomputable def den{R:Type}(T:Tab)(a:Ctx)(g:Nat->List Ghost)(N:Nat)(e:Sig)(f:Func)(d:gR e.ps)(k:hQ e.ps×iO e.rs->Option R):Option R:=
 let x:=W3 e.ps d [] 0
 match f.body,pw (g 1000000) {env:=Dt 0 x.1,objs:=x.2.1,nx:=x.2.2}with
 |some c,some (b,h)=>bif b then sx T a g N c h (Oy T e f.results.toList k)else none
 |_,_=>none
def qq:List PTy->Nat->Nat->List Nat
 | [],_,_=>[]
 |_::ps,i,k+1=>qq ps i k
 | .v _ _::ps,i,0=>qq ps (i+1) 0
 | .box _::ps,i,0=>i::qq ps (i+1) 0
 | .mut _::ps,i,0=>i::qq ps (i+1) 0
 | .clos _ n::ps,i,0=>i::qq ps (i+1) n
 | .rp _::ps,i,0=>qq ps (i+1) 0
 | .vj _::ps,i,0=>qq ps (i+1) 0
 | .boxal _ _::ps,i,0=>i::qq ps (i+2) 0
def kJ:List PTy->Nat
 | []=>0
 | .v _ _::ps=>kJ ps+1
 | .box _::ps=>kJ ps+1
 | .mut _::ps=>kJ ps+1
 | .clos _ _::ps=>kJ ps+1
 | .rp _::ps=>kJ ps+1
 | .vj _::ps=>kJ ps+1
 | .boxal _ _::ps=>kJ ps+2
def DM:List PTy->Nat->Bool
 |_,0=>true
 | .box _::ps,n+1=>DM ps n
 |_,_+1=>false
def lC:List PTy->Bool
 | []=>true
 | .clos _ n::ps=>DM ps n&&lC ps
 | .v _ _::ps=>lC ps
 | .box _::ps=>lC ps
 | .mut _::ps=>lC ps
 | .rp _::ps=>lC ps
 | .vj _::ps=>lC ps
 | .boxal _ _::ps=>lC ps
def zO{a}{R}{n}(h:∀x c,R x c->c.length=n):
  ∀(l:List a) (i),da R l i->i.length=l.length*n
 | [],i,e=>by grind [da]
 |x::l,i,e=>by
  obtain⟨f,g,rfl,b,d⟩:=e;have:=zO h l g d;rw[bX,h _ _ b,this,Xv,lz,AM]
def XI{a}{R R'}(h:∀x c,R x c->R' x c):
  ∀(l:List a) (j),da R l j->da R' l j
 | [],_,e=>e
 |_::l,_,⟨b,i,g,d,f⟩=>⟨b,i,g,h _ _ d,XI h l i f⟩
def I5{j}{R}:∀(l h:List j) (i a),da R l i->da R h a->da R (l++h) (i++a)
 | [],_,i,a,e,e'=>by grind [da]
 |x::l,h,_,a,⟨c,b,g,d,f⟩,e'=>⟨c,b++a,by simp[g],d,I5 l h b a f e'⟩
def Qd{a}{R}{n}(h:∀x c,R x c->c.length=n):
  ∀(l) (m) (i) (x:a),da R l m->l[i]?=some x->R x ((m.drop (i*n)).take n)
 | [],_,_,_,_,k=>by simp at k
 |y::l,m,0,x,⟨e,j,d,b,_⟩,k=>by
  grind
 |y::l,m,i+1,x,⟨e,j,d,b,f⟩,k=>by
  have g:=h _ _ b;have:=Qd h l j i x f Ψ;rw[d,lz,AM,<-H2,List.drop_left' g];exact this
theorem GI{a}{R}{n}(h:∀x c,R x c->c.length=n):
  ∀(l:List a) (k) (m),da R l k->da R (l.take m) (k.take (m*n))
 | [],k,m,e=>by grind [da]
 |x::l,k,0,_=>by simp[da]
 |x::l,k,m+1,⟨d,j,g,b,f⟩=>by
  have i:=h _ _ b;refine⟨d,j.take (m*n),?_,b,GI h l j m f⟩;rw[g,lz,AM,<-i,Xgd]
theorem GG{a}{R}{n}(h:∀x c,R x c->c.length=n):
  ∀(l:List a) (k) (m),da R l k->da R (l.drop m) (k.drop (m*n))
 | [],k,m,e=>by grind [da]
 |x::l,k,0,e=>Θ
 |x::l,k,m+1,⟨f,j,g,b,d⟩=>by
  have i:=h _ _ b;have:=GG h l j m d
  grind [da,lz,AM,H2,SA]
def QP{a}{R}{n}(h:∀x c,R x c->c.length=n):
  ∀(l) (q) (i) (x:a) (p),da R l q->i<l.length->R x p->
   da R (l.set i x) (q.take (i*n)++p++q.drop (i*n+n))
 | [],_,_,_,_,_,k,_=>by simp at k
 |y::l,q,0,x,p,⟨d,e,j,b,f⟩,_,g=>by
  have m:=h _ _ b;refine⟨p,e,?_,g,f⟩;simp_all
 |y::l,q,i+1,x,p,⟨d,e,j,b,f⟩,k,g=>by
  have m:=h _ _ b;refine⟨d,_,?_,b,QP h l e i x p f Ψ g⟩;have o:(i+1)*n=d.length+i*n:=by rw[lz,m,AM]
  rw[j,o,Xgd,gU,<-H2,SA];simp
theorem fi{G}:∀(t) (d) (a),Enc G t d a->a.length=t.size
 | .int _,_,_,h=>by grind [Enc,Ty.size]
 | .bool,_,_,h=>by grind [Enc,Ty.size]
 | .slice _,_,_,h=>by obtain⟨v,rfl,_⟩:=h;simp[Ty.size]
 | .own _,_,_,h=>h.elim
 | .prod i b,d,_,h=>by
  obtain⟨f,g,rfl,c,e⟩:=h;rw[bX,fi i _ _ c,fi b _ _ e,Ty.size]
def GLe(G a:GH):Prop:=∀b o v,G b o=some v->a b o=some v
def Vr{G a}(h:GLe G a){b o}{e}(c:sf G b o e):sf a b o e:=λj v d=>h _ _ _ (c j v d)
def pj{G a}(h:GLe G a):∀(t) (d) (y),Enc G t d y->Enc a t d y
 | .int _,_,_,e=>e
 | .bool,_,_,e=>e
 | .slice e,d,y,hh=>by
  obtain⟨v,s,f⟩:=hh;refine⟨v,s,?_⟩;rcases f with f|⟨b,k,g,n,i,j,o,p,q⟩|f
  .exact .inl f
  rotate_left
  .exact .inr (.inr f)
  .exact .inr<| .inl ⟨b,k,g,n,i,j,o,XI (λx c u=>pj h e x c u) _ _ p,Vr h q⟩
 | .own _,_,_,e=>e
 | .prod w b,d,_,⟨l,m,r,i,j⟩=>⟨l,m,r,pj h w _ _ i,pj h b _ _ j⟩
section
variable{G:GH}{a:Nat->Nu}{b:Nat}
theorem CellsRel.nil:CellsRel G a b [] []:=⟨rfl,λj c v h=>by simp at h⟩
def CellsRel.append{k c}{i aD}(h:CellsRel G a b k i)(d:CellsRel G a b c aD):
  CellsRel G a b (k++c) (i++aD):=by
 refine⟨by simp[h.1,d.1],λj g v f e=>?_⟩;rw[ko]at f e;rw[h.1]at e;split at f
 .rename_i ab;rw[Wb ab]at e;exact h.2 j g v f e
 .rename_i ab;rw[Wa ab]at e;exact d.2 _ g v f e
def CellsRel.take{c}{g}(h:CellsRel G a b c g)(n):CellsRel G a b (c.take n) (g.take n):=by
 refine⟨by simp[h.1],λj f v d e=>?_⟩;rw[p3]at d e;split at d
 .rename_i ab;rw[Wb ab]at e;exact h.2 j f v d e
 grind
def CellsRel.drop{c}{g}(h:CellsRel G a b c g)(n):CellsRel G a b (c.drop n) (g.drop n):=by
 refine⟨by simp[h.1],λj f v d e=>?_⟩;rw[pS]at d e;exact h.2 _ f v d e
theorem CellsRel.one{c}{v}(h:CellRel G a b c v)(f:v.oneCell'=true):CellsRel G a b [c] [v]:=by
 refine⟨rfl,λj g e i d=>?_⟩
 grind
def pm:∀(t) (d) (c),Enc G t d c->CellsRel G a b (split t d) c
 | .int k,d,c,h=>by have p:=h;simp only[Enc]at p;subst p;exact CellsRel.one h rfl
 | .bool,d,c,h=>by have p:=h;simp only[Enc]at p;subst p;exact CellsRel.one h rfl
 | .slice e,d,c,h=>by
  obtain⟨v,rfl,f⟩:=h;refine CellsRel.one ⟨v,rfl,f⟩ ?_;rcases f with⟨rfl,_⟩|⟨_,_,_,_,rfl,_⟩|⟨_,_,rfl,_⟩<;>rfl
 | .own _,_,_,h=>h.elim
 | .prod n o,d,c,⟨l,m,j,g,i⟩=>by
  subst j;exact(pm n _ _ g).append (pm o _ _ i)
end
def q6(d:Nat)(c a:Nat->Nu):Prop:=∀b,b<d->a b=c b
section
variable{G Z:GH}{a x:Nat->Nu}{b A:Nat}
def CellRel.mono(n:GLe G Z)(k:q6 b a x)(l:b<=A):
  ∀(C) (v),CellRel G a b C v->CellRel Z x A C v
 | .val t d,v,h=>pj n t d _ h
 | .nils,_,h=>h
 | .own g,v,⟨z,e⟩=>⟨pP z l,by rw[k g z];exact e⟩
 | .vw g c E,v,⟨z,e⟩=>⟨pP z l,by rw[k g z];exact e⟩
 | .aptr g,v,⟨z,e⟩=>⟨pP z l,by rw[k g z];exact e⟩
 | .ptr g B,v,⟨z,e⟩=>⟨pP z l,by rw[k g z];exact e⟩
 | .eptr g i B,v,⟨z,e⟩=>⟨pP z l,by rw[k g z];exact e⟩
 | .rptr t d B,v,⟨F,o,q,z,e,m⟩=>⟨F,o,q,z,pj n t d _ e,Vr n m⟩
 | .clos f caps,v,⟨y,z,e,m⟩=>⟨y,z,e,λj g u w D=>by
   obtain⟨p,s,r⟩:=m j g u w D;exact⟨pP p l,s,by rw[k g p];exact r⟩⟩
 | .junk,_,_=>trivial
def CellsRel.mono(d:GLe G Z)(e:q6 b a x)(f:b<=A){c}{l}(h:CellsRel G a b c l):CellsRel Z x A c l:=
 ⟨h.1,λj k v g i=>⟨CellRel.mono d e f k v (h.2 j k v g i).1,(h.2 j k v g i).2⟩⟩
def AvRel.mono(g:GLe G Z)(i:q6 b a x)(d:b<=A):∀(k) (v),AvRel G a b k v->AvRel Z x A k v
 | .one j,v,h=>⟨CellRel.mono g i d j v h.1,h.2⟩
 | .agg c,v,⟨f,e,h⟩=>⟨f,e,h.mono g i d⟩
theorem AValRel.mono(k:GLe G Z)(l:q6 b a x)(c:b<=A):∀(n) (v),AValRel G a b n v->AValRel Z x A n v
 | .s n,v,h=>AvRel.mono k l c n v h
 | .tup m,v,⟨i,d,e,h⟩=>⟨i,d,e,λj n u g f=>AvRel.mono k l c n u (h j n u g f)⟩
end
def He(a:Nu):a.hdr.oneCell'=true:=by unfold Nu.hdr;split<;>rfl
def WyO(a:Nu)(c b):(a.vhdr c b).oneCell'=true:=by unfold Nu.vhdr;split<;>rfl
section
variable{a:Type}{R R':a->List Value->List Pc->Prop}
def ma{n}(h:∀x c p,R x c p->c.length=n):∀(l) (a) (o),dU R l a o->a.length=l.length*n
 | [],a,o,e=>by simp[e.1]
 |x::l,a,o,⟨j,b,m,i,g,k,d,f⟩=>by
  rw[g,bX,h _ _ _ d,ma h l b i f,Xv,lz,AM]
def ur{Q:Pc->Prop}(h:∀x c p,(∀q∈p,Q q)->R x c p->R' x c p):∀(l) (a) (ps),(∀q∈ps,Q q)->dU R l a ps->dU R' l a ps
 | [],_,_,_,e=>e
 |_::l,_,_,d,⟨g,b,n,f,k,m,i,j⟩=>by
  subst m;exact⟨g,b,n,f,k,rfl,h _ _ _ (λq o=>d q (Xn _ o)) i,ur h l b f (λq o=>d q (Xk _ o)) j⟩
def I9:∀(l o) (a b) (c n),dU R l a c->dU R o b n->dU R (l++o) (a++b) (c++n)
 | [],_,a,b,c,n,e,e'=>by obtain⟨rfl,rfl⟩:=e;exact e'
 |x::l,o,_,b,_,n,⟨g,d,m,f,j,k,h,i⟩,e'=>⟨g,d++b,m,f++n,by simp[j],by simp[k],h,I9 l o d b f n i e'⟩
def Vt:∀(l b) (a) (d),dU R (l++b) a d->∃u f c g,a=u++f/\d=c++g/\dU R l u c/\dU R b f g
 | [],b,a,d,e=>⟨[],a,[],d,rfl,rfl,⟨rfl,rfl⟩,e⟩
 |x::l,b,a,d,⟨u,f,c,g,s,t,n,o⟩=>by
  obtain⟨h,j,i,p,q,r,k,m⟩:=Vt l b f g o;exact⟨u++h,j,c++i,p,Θ,Θ,⟨u,h,c,i,rfl,rfl,n,k⟩,m⟩
def Wsm{x}{a}{ps}:dU R [x] a ps↔R x a ps:=by
 constructor
 .rintro⟨k,b,i,j,f,g,c,d,e⟩;simp_all
 .intro h;exact⟨a,[],ps,[],Δ,Δ,h,rfl,rfl⟩
def GK(l)(a)(ps)(n)(h:dU R l a ps):∃d b c p2,a=d++b/\ps=c++p2/\dU R (l.take n) d c/\dU R (l.drop n) b p2:=
 Vt _ _ _ _ Ψ
def Rm{l}{a}{ps}{i}(h:dU R l a ps)(d)(v:i<l.length):
  ∃u c b f p p2,a=u++(c++b)/\ps=f++(p++p2)/\dU R (l.take i) u f/\R (l.getD i d) c p/\dU R (l.drop (i+1)) b p2:=by
 obtain⟨u,j,f,t,k,m,n,g⟩:=GK l a ps i h;have e:l.drop i=l.getD i d::l.drop (i+1):=by
  simp_all
 rw[e]at g;obtain⟨c,b,p,p2,o,q,r,s⟩:=g
 grind
def YI{l:List a}{c1 c g}{p1 p b}{i}{x}(j:i<l.length)(d:dU R (l.take i) c1 p1)(h:R x c p)(f:dU R (l.drop (i+1)) g b):
  dU R (l.set i x) (c1++(c++g)) (p1++(p++b)):=by
 have e:l.set i x=l.take i++(x::l.drop (i+1)):=by
  rw[Xfd,Wb j]
 rw[e];exact I9 _ _ _ _ _ _ d ⟨c,g,p,b,rfl,rfl,h,f⟩
end
section
variable{G Z:GH}{w a:World}
def WV:∀(t) (d) (a) (c),WL G w t d a c->a.length=t.size
 | .own e,q,a,c,⟨p,_,h,_⟩=>by rw[h];rfl
 | .prod r b,d,a,c,⟨n,o,l,m,f,j,g,i⟩=>by
  rw[f,bX,WV r _ _ _ g,WV b _ _ _ i];rfl
 | .int k,d,a,c,h=>fi _ _ _ h.2
 | .bool,d,a,c,h=>fi _ _ _ h.2
 | .slice e,d,a,c,h=>fi _ _ _ h.2
def pi:∀(t) (d) (a) (c),WL G w t d a c->c.length=t.owns
 | .own e,q,a,c,⟨n,h,_⟩=>by rw[h];rfl
 | .prod r b,d,a,c,⟨o,p,l,m,j,f,g,i⟩=>by rw[f,bX,pi r _ _ _ g,pi b _ _ _ i];rfl
 | .int k,d,a,c,h=>by rw[h.1];rfl
 | .bool,d,a,c,h=>by rw[h.1];rfl
 | .slice e,d,a,c,h=>by rw[h.1];rfl
theorem rG:∀(t) (d) (a) (c),t.data=true->(WL G w t d a c↔Enc G t d a/\c= [])
 | .own e,u,a,c,h=>by simp[Ty.data]at h
 | .prod v b,d,a,c,h=>by
  simp only[Ty.data,Xl]at h;constructor
  .rintro⟨j,l,r,s,f,m,g,i⟩;obtain⟨n,p⟩:=(rG v _ _ _ h.1).1 g;obtain⟨o,q⟩:=(rG b _ _ _ h.2).1 i;exact⟨⟨j,l,f,n,o⟩,Ψ⟩
  .rintro⟨⟨j,l,f,m,g⟩,i⟩;exact⟨j,l,[],[],f,i,(rG v _ _ _ h.1).2 ⟨m,rfl⟩,(rG b _ _ _ h.2).2 ⟨g,rfl⟩⟩
 | .int k,d,a,c,_=>⟨λh=>⟨h.2,h.1⟩,λh=>⟨h.2,h.1⟩⟩
 | .bool,d,a,c,_=>⟨λh=>⟨h.2,h.1⟩,λh=>⟨h.2,h.1⟩⟩
 | .slice e,d,a,c,_=>⟨λh=>⟨h.2,h.1⟩,λh=>⟨h.2,h.1⟩⟩
theorem w5{e}(o:e.data=true):∀(p) (a) (ps),dU (WL G w e) p a ps↔da (Enc G e) p a/\ps= []
 | [],a,ps=>Iff.rfl
 |x::p,a,ps=>by
  constructor
  .rintro⟨b,c,m,n,d,h,f,g⟩;obtain⟨i,k⟩:=(rG e _ _ _ o).1 f;obtain⟨j,l⟩:=(w5 o p _ _).1 g;exact⟨⟨b,c,d,i,j⟩,Ψ⟩
  .rintro⟨⟨b,c,d,h,f⟩,g⟩;exact⟨b,c,[],[],d,g,(rG e _ _ _ o).2 ⟨h,rfl⟩,(w5 o p _ _).2 ⟨f,rfl⟩⟩
structure Same(S:CS)(w a:World):Prop where
 row:∀b n,Row w b n->Row a b n
 cell:∀b o,S b o->a.cell? ⟨b,o,none⟩=w.cell? ⟨b,o,none⟩
def Same.mono{S b}(h:Same S w a)(d:CS.le b S):Same b w a:=⟨h.row,λe o c=>h.cell e o (d e o c)⟩
def Mem.same{S}(h:Same S w a){b o n}{i}(c:Mem w b o i)(f:i.length<=n)(d:CS.le (rng b o n) S):Mem a b o i:=λj v g=>by
 have e:j<i.length:=(iW.1 g).1;rw[h.cell b (o+j) (d _ _ ⟨rfl,Ω,Ω⟩)];exact c j v g
def KJ{I}{R R'}{n}{J}{H:List I}{S b}(u:∀x c p,R x c p->c.length=n)(h:Same S w a)(g:CS.le S b)
  (y:∀x c p,(∀q∈p,CS.le q.fp S)->R x c p->R' x c p) (z:az w R n J H S):az a R' n J H b:=by
 obtain⟨j,k,d⟩:=z;refine⟨j,k,?_⟩;cases hb:J.blk with
 |none=>simp_all
 |some K=>
  simp only[hb]at d;obtain⟨e,l,m,i,C,f,r,t,F⟩:=d;have D:=ma u _ _ _ f;have E:H.length*n<=J.cap*n:=lu _ e;exact⟨e,l,h.row _ _ m,i,C,ur (Q:=λq=>CS.le q.fp S) y _ _ _ (λq A=>F _ (Xe _ (ju A))) f,r.same h (n:=J.cap*n) Ω (F _ (Xg ..)),t,λs B K o v=>g K o (F s B K o v)⟩
def pe(g:GLe G Z):∀(t) (d) (H) (f),(∀p∈f,Same p.fp w a)->WL G w t d H f->WL Z a t d H f
 | .own e,E,H,f,i,⟨p,j,l,m⟩=>by
  subst j;have r:=i p (dq.2 rfl);exact⟨p,rfl,l,KJ (λx c q o=>WV e x c q o) r (λ_ _ u=>u) (λx c q v o=>pe g e x c q (λB y=>r.mono (v B y)) o) m⟩
 | .prod F b,d,H,f,i,⟨C,D,z,A,j,l,m,s⟩=>by
  subst l;exact⟨C,D,z,A,j,rfl,pe g F _ _ _ (λp n=>i p (Xn _ n)) m,pe g b _ _ _ (λp n=>i p (Xk _ n)) s⟩
 | .int k,d,H,f,_,h=>⟨h.1,pj g _ _ _ h.2⟩
 | .bool,d,H,f,_,h=>⟨h.1,pj g _ _ _ h.2⟩
 | .slice e,d,H,f,_,h=>⟨h.1,pj g _ _ _ h.2⟩
def Same.refl(S)(w):Same S w w:=⟨λ_ _ h=>h,λ_ _ _=>rfl⟩
def Db(d:GLe G Z){e}{m}{l}{S b}(h:Same S w a)(n:CS.le S b)(f:az w (WL G w e) e.size m l S):az a (WL Z a e) e.size m l b:=
 KJ (λx c q k=>WV e x c q k) h n (λx c q g k=>pe d e x c q (λj i=>h.mono (g j i)) k) f
theorem XE(m:GLe G Z){e}{V np}{U}{i}{S b}(h:Same S w a)(p:CS.le S b)(K:qE w (WL G w e) e.size V np U i S):qE a (WL Z a e) e.size V np U i b:=by
 obtain⟨z,A,B,W,C,D,E,F,H,I,r,t,O,P,k,l,u,v,y,d⟩:=K;have M:=ma (λx c q T=>WV e x c q T) _ _ _ k;have N:=ma (λx c q T=>WV e x c q T) _ _ _ l;rw[gv,jB Ω]at M;rw[HZ]at N;have R:(U.length-(i+1))*e.size<=(V.cap-(i+1))*e.size:=lu _ Ω;refine⟨z,A,B,W,C,D,E,F,H,h.row _ _ I,r,t,O,P,?_,?_,?_,?_,y,λs L W o J=>p W o (d s L W o J)⟩
 .exact ur (Q:=λq=>CS.le q.fp S) (λx c q f T=>pe m e x c q (λj g=>h.mono (f j g)) T) _ _ _ (λq f=>d _ Θ) k
 .exact ur (Q:=λq=>CS.le q.fp S) (λx c q f T=>pe m e x c q (λj g=>h.mono (f j g)) T) _ _ _ (λq f=>d _ Θ) l
 .exact u.same h (n:=i*e.size) Ω (d _ (Xg ..))
 .exact v.same h (n:=(V.cap-(i+1))*e.size) Ω (d _ (Xe _ (Xg ..)))
def Gw(j:GLe G Z){x B}{z D id}{S b}(h:Same S w a)(d:CS.le S b)(v:q6 z x B)(t:z<=D)(c:id<z):
  ∀(ob),gy G x z w id S ob->gy Z B D a id b ob
 | .dead,_=>trivial
 | .box A,⟨C,u,l,m,q,f,g⟩=>by
  refine⟨C,u,by rw[v id c];exact l,by rw[v id c];exact h.row _ _ m,by rw[v id c];exact q.same h (n:=A.length) (by rw[f.1];omega) g,f.mono j v t,by rw[v id c];exactλC o r=>d C o (g C o r)⟩
 | .arr e y,k=>by
  show az a (WL Z a e) e.size (B id) y b;rw[v id c];exact Db j h d k
 | .hole e y i p,⟨s,k⟩=>by
  show p<D/\qE a (WL Z a e) e.size (B id) (B p) y i b;rw[v id c,v p s];grind [pP,XE]
def KZ{a}{b}:∀(t) (d) (c) (s),WL G w t d c s->CellsRel G a b (split t d) c
 | .own e,d,c,s,⟨p,_,h,_⟩=>by rw[h];exact CellsRel.one trivial (He _)
 | .prod q r,d,c,s,⟨n,o,l,m,f,j,g,i⟩=>by
  rw[f];exact(KZ q _ _ _ g).append (KZ r _ _ _ i)
 | .int k,d,c,s,h=>pm _ _ _ h.2
 | .bool,d,c,s,h=>pm _ _ _ h.2
 | .slice e,d,c,s,h=>pm _ _ _ h.2
def Wxk{A a B b:Type}(hA)(hB)(h:(A×B)=(a×b))(d):cast h d=(cast hA d.1,cast hB d.2):=by
 grind
def Wt2{A a:Type}(hA)(h:List A=List a)(x)(l):cast h (x::l)=cast hA x::cast h l:=by
 grind
def WxU{A a:Type}(b:A=a)(h:List A=List a):cast h ([]:List A)= []:=by
 grind
def Wq4{A a:Type}(b:A=a)(h:List A=List a)(l):(cast h l).length=l.length:=by
 grind
def WvD(a b)(d):yd (.prod a b) d=(yd a d.1,yd b d.2):=Wxk (pA a).symm (pA b).symm _ d
def WtE(e)(x)(l):gG e (x::l)=yd e x::gG e l:=Wt2 (pA e).symm _ x l
def Ym(e):gG e []= []:=WxU (pA e).symm _
theorem J3(e)(l):(gG e l).length=l.length:=Wq4 (pA e).symm _ l
theorem md:∀t:Ty,t.ro.size=t.size
 | .prod a b=>by simp only[Ty.ro,Ty.size,md a,md b]
 | .own _| .slice _| .int _| .bool=>rfl
def Rs:∀t:Ty,t.ro.data=true
 | .prod a b=>by simp only[Ty.ro,Ty.data,Rs a,Rs b];rfl
 | .own _| .slice _| .int _| .bool=>rfl
def Froz(G:GH)(w:World)(S:CS):Prop:=∀b o v,S b o->w.cell? ⟨b,o,none⟩=some v->G b o=some v
def Froz.mono{G}{S b}(h:Froz G w S)(a:CS.le b S):Froz G w b:=λd o v c=>h d o v (a d o c)
def Mem.stored{b o n}{a}(d:Mem w b o a)(f:a.length<=n)(c:Froz G w (rng b o n)):sf G b o a:=λj v g=>by
 have e:j<a.length:=(iW.1 g).1;exact c b (o+j) v ⟨rfl,Ω,Ω⟩ (d j v g)
def Lm{e}(g:∀(x) (c) (p),(∀q∈p,Froz Z w q.fp)->WL G w e x c p->Enc Z e.ro (yd e x) c):
  ∀(s) (a) (r),(∀q∈r,Froz Z w q.fp)->dU (WL G w e) s a r->da (Enc Z e.ro) (gG e s) a
 | [],a,r,_,h=>by rw[Ym];exact h.1
 |x::s,a,r,i,⟨d,f,n,o,j,k,l,m⟩=>by
  subst k;rw[WtE];exact⟨d,f,j,g x d n (λq b=>i q (Xn _ b)) l,Lm g s f o (λq b=>i q (Xk _ b)) m⟩
def WvM{e}(o:∀(x) (c) (p),(∀q∈p,Froz Z w q.fp)->WL G w e x c p->Enc Z e.ro (yd e x) c){a}{C}{S}
  (i:Froz Z w S) (h:az w (WL G w e) e.size a C S):sm Z (Enc Z e.ro) (gG e C) a.hdr:=by
 obtain⟨j,u,B⟩:=h;unfold Nu.hdr;cases hb:a.blk with
 |none=>simp only[hb]at B;exact .inl ⟨rfl,by rw[B,Ym]⟩
 |some b=>
  simp only[hb]at B;obtain⟨k,l,v,f,t,g,m,y,d⟩:=B;have z:=ma (λx c q s=>WV e x c q s) _ _ _ g;have A:C.length*e.size<=a.cap*e.size:=lu _ k;refine .inr (.inl ⟨b,a.off,a.cap,f,by rw[J3,j],by grind [J3],l,Lm o C f t (λq r=>i.mono (d _ (Xe _ (ju r)))) g,?_⟩);exact m.stored (n:=a.cap*e.size) Ω (i.mono (d _ (Xg ..)))
def zR(g:GLe G Z):∀(t) (d) (a) (f),(∀p∈f,Froz Z w p.fp)->WL G w t d a f->Enc Z t.ro (yd t d) a
 | .own e,A,a,f,i,⟨p,j,l,m⟩=>by
  subst j;exact⟨_,l,WvM (λx c q r s=>zR g e x c q r s) (i p (dq.2 rfl)) m⟩
 | .prod B b,d,a,f,i,⟨u,v,y,z,j,l,m,o⟩=>by
  subst l;rw[WvD];exact⟨u,v,j,zR g B _ _ _ (λp n=>i p (Xn _ n)) m,zR g b _ _ _ (λp n=>i p (Xk _ n)) o⟩
 | .int k,d,a,f,_,h=>pj g (.int k) _ _ h.2
 | .bool,d,a,f,_,h=>pj g .bool _ _ h.2
 | .slice e,d,a,f,_,h=>pj g (.slice e) _ _ h.2
def PA(b:GLe G Z){e}{a}{i}{S}(g:Froz Z w S)(h:az w (WL G w e) e.size a i S):sm Z (Enc Z e.ro) (gG e i) a.hdr:=
 WvM (λx c q d f=>zR b e x c q d f) g h
def Wwt{b}{e}{T}(h:w.heap[b]?=some (Obj.cells e T (0,0))){o}{a}(d:∀j v,a[j]?=some v->e.toList[o+j]?=some v):Mem w b o a:=λj v c=>by
 grind [cell_of_row]
def Mem.left{b o}{c1 c2}(h:Mem w b o (c1++c2)):Mem w b o c1:=λj v a=>h j v Θ
def Mem.right{b o n}{c1 c2}(h:Mem w b o (c1++c2))(c:c1.length=n):Mem w b (o+n) c2:=λj v a=>by
 have:=h (n+j) v Θ
 grind
def Mem.app{b o n}{c1 c2}(c:Mem w b o c1)(d:Mem w b (o+n) c2)(e:c1.length=n):Mem w b o (c1++c2):=λj v a=>by
 rw[ko]at a;split at a
 .exact c j v a
 .rename_i ab;have:=d (j-c1.length) v a
  grind
def Wvy{e}{a}{J}{S}{b i}(h:az w (WL G w e) e.size a J S)(m:a.blk=some b)(K:i<J.length):
  ∃c p,WL G w e (J.getD i e.dflt) c p/\Mem w b (a.off+i*e.size) c:=by
 obtain⟨y,z,I⟩:=h;simp only[m]at I;obtain⟨A,B,C,t,H,l,d,D,s⟩:=I;obtain⟨o,c,r,E,p,F,g,u,j,k,v⟩:=Rm l e.dflt K;refine⟨c,p,k,?_⟩;rw[g]at d;have f:=ma (λx c q n=>WV e x c q n) _ _ _ j;rw[gv,jB Ω]at f;exact(d.right f).left
def J5{e}(i:e.data=true){a}{k}{S}{b}(h:az w (WL G w e) e.size a k S)(g:a.blk=some b):
  k.length=a.len/\k.length<=a.cap/\a.cap<=maxLen/\Row w b (a.off+a.cap*e.size)/\∃j,da (Enc G e) k j/\Mem w b a.off j/\CS.le (rng b a.off (a.cap*e.size)) S:=by
 obtain⟨c,d,f⟩:=h
 grind [w5,Xg]
def XL{e}(k:e.data=true){a}{o}{S}{b}{p}(j:a.blk=some b)(n:o.length=a.len)(c:a.esz=e.size)(d:o.length<=a.cap)(f:a.cap<=maxLen)
  (g:Row w b (a.off+a.cap*e.size)) (h:da (Enc G e) o p) (i:Mem w b a.off p) (l:CS.le (rng b a.off (a.cap*e.size)) S):az w (WL G w e) e.size a o S:=by
 refine⟨n,c,?_⟩;simp only[j];exact⟨d,f,g,p,[],(w5 k o p []).2 ⟨h,rfl⟩,i,Xz.2 ⟨Δ,List.Pairwise.nil⟩,λs m=>Ψ⟩
def zz{e}{a}{g}{S}(h:az w (WL G w e) e.size a g S)(d:a.blk=none):g= []:=by
 obtain⟨f,b,c⟩:=h;simp_all
end
set_option linter.unusedSimpArgs false
def ew:Ty->List Value
 | .prod a b=>ew a++ew b
 | .int k=>[.int k 0]
 | .bool=>[.bool false]
 | .slice _=>[.slice none 0 0]
 | .own _=>[.pointer none]
def rep{a:Type}(l:List a):Nat->List a
 |0=>[]
 |n+1=>l++rep l n
def TE.cells(a:TE):List Value:=match a.shape with
 | .arr n _=>rep (ew a.ty) n
 |_=>ew a.ty
def TE.size(a:TE):Nat:=match a.shape with
 | .arr n _=>n*a.ty.size
 |_=>a.ty.size
structure TEok(P:Program)(T:Tab)(t:TypeId)(te:TE):Prop where
 und:match te.shape with
  | .basic=>te.agg=false/\(match te.ty with
   | .int k=>P.underlying t=some (.int k)
   | .bool=>P.underlying t=some .bool
   |_=>False)
  | .slice e=>te.agg=false/\P.underlying t=some (.slice e)/\∃fm,look T e=some fm/\te.ty= .slice fm.ty
  | .struct fs=>te.agg=true/\∃fields:Array Field,P.underlying t=some (.struct fields)/\fields.toList.map (λf=>(f.offset,f.type))=fs/\
    (∀f∈fields,f.name≠ "_")∧P.stoodInHeld t=false∧P.eqGuardType P.depth t=false
  | .ptr e=>te.agg=false/\P.underlying t=some (.pointer e)
  | .arr n e=>te.agg=true/\P.underlying t=some (.array n e)/\∃fm,look T e=some fm/\fm.ty=te.ty/\∀m f,fm.shape≠ .arr m f
 info:∃i z,P.info? t=some i/\i.size=te.size/\i.zero=some z/\z.cells.toList=te.cells/\i.bytes<=4096
def bv(P:Program)(T:Tab):Prop:=∀t a,look T t=some a->TEok P T t a
theorem qh:∀t:Ty,0<t.size
 | .prod a b=>by have:=qh a;simp[Ty.size];omega
 | .int _| .bool| .slice _| .own _=>by simp[Ty.size]
section
variable{P:Program}{T:Tab}{w:World}
def Wt{t}{d}(h:P.underlying t=some d):(underlying t).run P w= .ok d w:=by
 simp[underlying,h]
def UO{t}{i}(h:P.info? t=some i):(typeInfo t).run P w= .ok i w:=by
 simp[typeInfo,h]
def Wto{t}{i}(h:P.info? t=some i):(sizeOf t).run P w= .ok i.size w:=by
 simp[sizeOf,UO h]
def TEok.sizeOf{t}{te}(h:TEok P T t te):(sizeOf t).run P w= .ok te.size w:=by
 obtain⟨i,z,a,b,_⟩:=h.info;rw[Wto a,b]
def TEok.isAgg{t}{te}(h:TEok P T t te):(isAgg t).run P w= .ok te.agg w:=by
 have a:=h.und;obtain⟨d,b,shape⟩:=te;cases shape with
 |basic=>
  obtain⟨c,a⟩:=a;cases d<;>simp only at a<;>first|exact a.elim|simp_all [Go.isAgg,Wt]
 |slice e=>simp_all [Go.isAgg,Wt]
 |struct fs=>obtain⟨c,f,a,_⟩:=a;simp_all [Go.isAgg,Wt]
 |ptr e=>simp_all [Go.isAgg,Wt]
 |arr n e=>simp_all [Go.isAgg,Wt]
end
theorem nD(b o j):(⟨b,o,none⟩:Addr).add j=⟨b,o+j,none⟩:=by
 simp[Addr.add]
section
variable{P:Program}{T:Tab}{w:World}{G:GH}{c:Nat->Nu}{a:ai}{d:Nat}
theorem jQ{a:TE}(h:a.plain=true):a.size=a.ty.size:=by
 unfold TE.plain at h;unfold TE.size;split at h<;>simp_all
def Pv{t}{te}(s:TEok P T t te)(k:te.plain=true){b o r}{u}{e}{x}
  (q:CellsRel G c d u e) (n:∀(j) (v),e[j]?=some v->w.cell? ⟨b,o+j,none⟩=some v)
  (a:sub te.agg u r te.ty.size=some x):
  ∃v,(loadVar t ⟨b,o+r,none⟩).run P w= .ok v w/\AValRel G c d x v:=by
 have i:te.size=te.ty.size:=jQ k;unfold sub at a;simp only[loadVar,Sem.run_bind,s.isAgg,Result.andThen_ok];cases ha:te.agg with
 |true=>
  simp only[ha,gp]at a|-;split at a
  .rename_i aO;injection a with a;subst a;have g:((e.drop r).take te.ty.size).length=te.ty.size:=by simp[q.1];omega
   have f:=run_loadCells_list (P:=P) w ⟨b,o+r,none⟩ ((e.drop r).take te.ty.size) (λj v m=>by
    grind [nD,gU])
   rw[g]at f;refine⟨.agg ((e.drop r).take te.ty.size).toArray,?_,_,rfl,(q.drop r).take _⟩;simp[s.sizeOf,i,f]
  grind
 |false=>
  simp only[ha]at a|-;cases dB:u[r]? with
  |none=>simp_all
  |some p=>
   simp[dB]at a;subst a;have h:r<e.length:=by rw[q.1];grind
   have l:e[r]?=some e[r]:=Xq h;refine⟨e[r],?_,q.2 r p _ dB l⟩;simp_all
end
section
variable{d:World}{F:CS}{e:Slots}{f G:GH}{c:Nat->Nu}{b:St}{a:Act}{w:World}{P:Program}{T:Tab}
def Wxj{G}:∀(t) (d) (v),Enc G t d [v]->v.oneCell'=true
 | .int _,_,_,h=>by grind [Enc,Value.oneCell']
 | .bool,_,_,h=>by grind [Enc,Value.oneCell']
 | .slice _,_,_,h=>by
  obtain⟨v,c,e⟩:=h;simp at c;subst c;rcases e with⟨rfl,_⟩|⟨_,_,_,_,rfl,_⟩|⟨_,_,rfl,_⟩<;>rfl
 | .own _,_,_,h=>h.elim
 | .prod a b,d,v,h=>by
  have:=fi _ _ _ h
  grind [qh,Ty.size]
def gM{t}{d}{v}(h:Enc G t d [v]):AValRel G c b.nx (one t d) v:=
 ⟨h,Wxj t d v h⟩
def Ux:∀(v) (e),lP v=some e->CellRel G c b.nx e v/\v.oneCell'=true
 | .int k n,e,h=>by simp[lP]at h;subst h;exact⟨rfl,rfl⟩
 | .bool d,e,h=>by simp[lP]at h;subst h;exact⟨rfl,rfl⟩
 | .slice none 0 0,e,h=>by simp[lP]at h;subst h;exact⟨rfl,rfl⟩
 | .slice none 0 (n+1),e,h=>by simp[lP]at h
 | .slice none (n+1) _,e,h=>by simp[lP]at h
 | .slice (some _) _ _,e,h=>by simp[lP]at h
 | .pointer none,e,h=>by simp[lP]at h;subst h;exact⟨trivial,rfl⟩
 | .nilFunc,e,h=>by simp[lP]at h;subst h;exact⟨trivial,rfl⟩
 | .float _ _,_,h| .complex _ _ _,_,h| .pointer (some _),_,h| .map _,_,h| .chan _,_,h| .func _ _ _,_,h| .iface _ _,_,h| .nilIface,_,h| .agg _,_,h| .tuple _,_,h=>by simp[lP]at h
def Wsd:∀(l) (d),l.mapM lP=some d->CellsRel G c b.nx d l
 | [],d,h=>by grind [CellsRel.nil]
 |v::l,d,h=>by
  simp only[H5,Option.bind_eq_bind,Option.bind_eq_some_iff]at h;obtain⟨j,f,i,g,a⟩:=h;simp at a;subst a;obtain⟨k,e⟩:=Ux (G:=G) (c:=c) (b:=b) v j f;exact(CellsRel.one k e).append (Wsd l i g)
theorem W2(h:Rel d F e f G c b a w):∀(x) (o),ev b x=some o->AValRel G c b.nx o (a.eval x)
 | .tmp t,o,he=>by
  obtain⟨v,m,k⟩:=h.env t o he;simpa [Act.eval,m]using k
 | .const v,o,he=>by
  simp only[ev,WuY]at he;split at he
  .rename_i r;cases hm:r.toList.mapM lP with
   |none=>simp[hm]at he
   |some l=>
    simp[hm]at he;subst he;exact⟨r.toList,by simp[Act.eval],Wsd _ _ hm⟩
  .cases hm:lP v with
   |none=>simp[hm]at he
   |some p=>
    simp[hm]at he;subst he;obtain⟨q,s⟩:=Ux (G:=G) (c:=c) (b:=b) v p hm;exact⟨q,s⟩
 | .func y,o,he=>by
  simp[ev]at he;subst he;exact⟨⟨[],rfl,rfl,λj n u i=>by simp at i⟩,rfl⟩
 | .global g,o,he=>by simp[ev]at he
def Hf(av)(v)(n)(h:AValRel G c b.nx av v)(a:asI av=some n):∃k,v= .int k n:=by
 unfold asI at a;split at a
 .rename_i k m;injection a with a;subst a;obtain⟨d,_⟩:=h;simp[CellRel,Enc]at d;exact⟨k,d⟩
 .simp at a
def Rk(av)(v)(d)(h:AValRel G c b.nx av v)(a:asB av=some d):v= .bool d:=by
 unfold asB at a;split at a
 .injection a with a;subst a;obtain⟨e,_⟩:=h;simpa [CellRel,Enc]using e
 .simp at a
def Gives(P:Program)(G:GH)(c:Nat->Nu)(b:St)(w:World)(s:Sem Value)(r:AVal):Prop:=∃v,s.run P w= .ok v w/\AValRel G c b.nx r v
def Gives.one{s}{t}{d}{v}(a:s.run P w= .ok v w)(h:Enc G t d [v]):Gives P G c b w s (Sx.one t d):=⟨v,a,gM h⟩
def WsV{op}{k}{x y}{r}(t)(d:op≠ .shl)(a:op≠ .shr)(h:OI op k x y=some (true,r)):
  Gives P G c b w (Go.binOp op t (.int k x) (.int k y)) r:=by
 cases op<;>simp[OI,inz]at h<;>first
  |exact Wh rfl d
  |exact Wh rfl a
  |(subst h;exact⟨_,by simp only[Go.binOp,ne_eq,not_true_eq_false,jN,↓reduceIte,Op.intArith,Op.intBits,Op.intCmp]<;>rfl,gM rfl⟩)
  |(obtain⟨e,rfl⟩:=h;exact⟨_,by simp[Go.binOp,Op.intDiv,e,kc,cj]<;>rfl,gM rfl⟩)
def UX{op}{k yk}{x y}{r}(t)(h:(op= .shl/\(true,r)=(inn y,Sx.one (.int k) (OG k x y)))\/(op= .shr/\(true,r)=(inn y,Sx.one (.int k) (q7 k x y)))):
  Gives P G c b w (Go.binOp op t (.int k x) (.int yk y)) r:=by
 rcases h with⟨rfl,h⟩|⟨rfl,h⟩<;>simp[inn]at h<;>obtain⟨a,rfl⟩:=h
 .exact⟨_,by simp[Go.binOp,Op.shift,Int.not_lt.2 a,OG]<;>rfl,gM rfl⟩
 .exact⟨_,by simp[Go.binOp,Op.shift,Int.not_lt.2 a,q7]<;>rfl,gM rfl⟩
def OQ{op}{t}{x y}{u v}(c:∀a,u≠ .agg a)(b:u≠ .nilIface):(eqGuard op t x y u v).run P w= .ok () w:=by
 unfold eqGuard;cases op<;>simp<;>cases u<;>cases v<;>first|rfl|exact Wh rfl b|exact Wh rfl (c _)
def WqP(n:bv P T){op}{t}{x y}{u v}{r}(ox oy)(a:AValRel G c b.nx x u)(j:AValRel G c b.nx y v)
  (h:Sx.binOp T op t x y=some (true,r)):Gives P G c b w (do eqGuard op t ox oy u v;Go.binOp op t u v) r:=by
 unfold Sx.binOp at h;split at h
 .rename_i k m k' g;obtain⟨a,_⟩:=a;obtain⟨j,_⟩:=j;simp only[CellRel,Enc,List.cons.injEq,and_true]at a j;subst a j;have i:(eqGuard op t ox oy (.int k m) (.int k' g)).run P w= .ok () w:=OQ Δ Δ
  suffices hh:Gives P G c b w (Go.binOp op t (.int k m) (.int k' g)) r by
   obtain⟨z,e,f⟩:=hh;exact⟨z,by simp[i,e],f⟩
  split at h
  .injection h with h;exact UX t (.inl ⟨rfl,h.symm⟩)
  .injection h with h;exact UX t (.inr ⟨rfl,h.symm⟩)
  .split at h
   .rename_i hk;subst hk;exact WsV t (by assumption) (by assumption) h
   .simp at h
 .rename_i m g;obtain⟨a,_⟩:=a;obtain⟨j,_⟩:=j;simp only[CellRel,Enc,List.cons.injEq,and_true]at a j;subst a j;split at h
  .rename_i hl;have d:=(n _ _ hl).und;simp only[true_and]at d;have l:(Op.equalIn 10000 t (.bool m) (.bool g)).run P w= .ok (beq m g) w:=run_equalIn_bool' w 9999 t m g d;split at h<;>simp at h
   .subst h;exact⟨.bool (beq m g),by simp[OQ,Go.binOp,Op.equal,Op.maxDepth,l],gM rfl⟩
   .subst h;exact⟨.bool (!beq m g),by simp[OQ,Go.binOp,Op.equal,Op.maxDepth,l],gM rfl⟩
  .simp at h
 .simp at h
end
section
variable{d:World}{F:CS}{e:Slots}{f G:GH}{c:Nat->Nu}{b:St}{a:Act}{w:World}{P:Program}{T:Tab}
def HRel.g{b}{f}(h:HRel d F G c b f w){e o}{v}(a:G e o=some v):w.cell? ⟨e,o,none⟩=some v:=by
 obtain⟨g,h⟩:=h;exact h.g e o v a
def HRel.obj{b}{e}(h:HRel d F G c b e w){id}{ob}(a:look b id=some ob):∃S,gy G c e w id S ob:=by
 obtain⟨f,h⟩:=h;exact⟨f id,h.ob id ob a⟩
def DC{k}{n:Int}{v}(h:AValRel G c b.nx (.s (.one (.val (.int k) n))) v):v= .int k n:=by
 obtain⟨h,_⟩:=h
 grind [CellRel,Enc]
def Qk{n:Bool}{v}(h:AValRel G c b.nx (.s (.one (.val .bool n))) v):v= .bool n:=by
 obtain⟨h,_⟩:=h
 grind [CellRel,Enc]
def Wtz{op}{x}{u}{r}(a:AValRel G c b.nx x u)(h:Sx.unOp op x=some (true,r)):Gives P G c b w (Op.unary op u) r:=by
 unfold Sx.unOp at h;split at h
 .have:=Qk a;subst this;simp at h;subst h;exact⟨_,rfl,gM rfl⟩
 .have:=DC a;subst this;simp at h;subst h;exact⟨_,rfl,gM rfl⟩
 grind
def WAc{id}{e}{j}{d}{S}(h:gy G c d w id S (.arr e j)):∃a g,(c id).hdr= .slice a j.length g:=by
 obtain⟨f,_,i⟩:=h;unfold Nu.hdr;cases hb:(c id).blk with
 |none=>simp_all
 |some b=>simp_all
def WyH{id}{e}{k}{i p d}{S}(h:gy G c d w id S (.hole e k i p)):∃a g,(c id).hdr= .slice a k.length g:=by
 obtain⟨_,j,_,_,b,f,_⟩:=h;unfold Nu.hdr;simp_all
def Wrc(N:bv P T)(q:HRel d F G c b.objs b.nx w){t g}{x}{u}{r}(j:AValRel G c b.nx x u)(h:si T b t x=some (true,r)):
  Gives P G c b w (Builtin.len_ #[t] g #[u]) r:=by
 unfold si at h;split at h
 .rename_i te M l _ hl;simp at h;subst h;have J:=(N _ _ hl).und.2.1;obtain⟨⟨v,f,z⟩,_⟩:=j;simp at f;subst f;rcases z with⟨rfl,m⟩|⟨H,A,n,B,rfl,_⟩|⟨a,n,rfl,m⟩
  rotate_left 2
  .exact⟨_,by simp[Builtin.len_,Wt J]<;>rfl,gM (by rw[m];rfl)⟩
  .exact⟨_,by simp[Builtin.len_,Wt J]<;>rfl,gM (by rw[m];rfl)⟩
  .exact⟨_,by simp[Builtin.len_,Wt J]<;>rfl,gM rfl⟩
 .rename_i te M _ hl;simp at h;subst h;have J:=(N _ _ hl).und.2.1;obtain⟨f,_⟩:=j;simp only[CellRel]at f;subst f;exact⟨_,by simp[Builtin.len_,Wt J]<;>rfl,gM rfl⟩
 .rename_i te M id hl;have J:=(N _ _ hl).und.2.1;obtain⟨⟨_,f⟩,_⟩:=j;subst f;unfold obL at h;split at h
  .rename_i e' K ho;simp at h;subst h;obtain⟨S,k⟩:=q.obj ho;obtain⟨a,I,o⟩:=WAc k;rw[o];exact⟨.int .i64 (Wi K),by simp[Builtin.len_,Wt J]<;>rfl,gM rfl⟩
  .rename_i e' K i p ho;simp at h;subst h;obtain⟨S,k⟩:=q.obj ho;obtain⟨a,I,o⟩:=WyH k;rw[o];exact⟨.int .i64 (Wi K),by simp[Builtin.len_,Wt J]<;>rfl,gM rfl⟩
  grind
 .rename_i te M id e L hl;simp only[Option.some.injEq,Prod.mk.injEq,true_and]at h;subst h;have J:=(N _ _ hl).und.2.1;obtain⟨⟨_,D,E,y,f⟩,_⟩:=j;subst f;unfold Nu.vhdr;cases hb:(c id).blk with
  |none=>
   have C:=y hb;have s:L-e=0:=Ω
   rw[s];exact⟨_,by simp[Builtin.len_,Wt J]<;>rfl,gM rfl⟩
  |some H=>exact⟨.int .i64 ((L-e:Nat):Int),by simp[Builtin.len_,Wt J]<;>rfl,gM rfl⟩
 grind
def I6(e:bv P T){t}{f d}{te}(h:GQ T t f=some (d,te)):
  ∃(a:Array Field) (b:Field),P.underlying t=some (.struct a)/\a[f]?=some b/\b.offset=d/\TEok P T b.type te/\te.plain=true:=by
 unfold GQ at h;split at h
 .rename_i fs hl;obtain⟨_,a,j,k,_⟩:=(e _ _ hl).und;split at h
  .rename_i o ft hf;split at h
   .rename_i fm bw;split at h
    .rename_i i;injection h with h;injection h with c l;subst c l;rw[<-k]at hf;simp only[hV,Array.getElem?_toList]at hf;cases g:a[f]? with
     |none=>simp_all
     |some b=>
      simp[g]at hf;obtain⟨c,l⟩:=hf;subst c l;exact⟨a,b,j,g,rfl,e _ _ bw,i⟩
    grind
   grind
  grind
 grind
def O3{t}{f d}{te}{b o}{fields}{fd}(g:P.underlying t=some (.struct fields))(i:fields[f]?=some fd)(e:fd.offset=d)
  (a:TEok P T fd.type te) (h:te.plain=true):(Instr.fieldAt t (.pointer (some ⟨b,o,none⟩)) f).run P w= .ok (.pointer (some ⟨b,o+d,none⟩)) w:=by
 have c:te.size≠0:=by grind [jQ,qh]
 simp[Instr.fieldAt,Wt g,i,Instr.sureAddr,fieldPlace,a.sizeOf,c,nD,e]
def WiJ(n:bv P T)(z:HRel d F G c b.objs b.nx w){t}{f}{x}{u}{r}(q:AValRel G c b.nx x u)(h:CK T b t x f=some (true,r)):
  Gives P G c b w (Instr.fieldAt t u f) r:=by
 unfold CK at h;split at h
 .rename_i D te id o hf;obtain⟨a,s,k,l,g,B,j⟩:=I6 n hf;split at h
  .simp at h;subst h;obtain⟨⟨e,A,p,rfl⟩,_⟩:=q;exact⟨_,O3 k l g B j,⟨e,A,p,by rw[gU]⟩,rfl⟩
  grind
 .rename_i D te id i o hf;obtain⟨a,s,k,l,g,B,j⟩:=I6 n hf;split at h
  .simp at h;subst h;obtain⟨⟨e,m,A,p,rfl⟩,_⟩:=q;exact⟨_,O3 k l g B j,⟨e,m,A,p,by rw[gU,gU]⟩,rfl⟩
  grind
 .rename_i D te t' C o hf;obtain⟨a,s,k,l,g,B,j⟩:=I6 n hf;simp at h;subst h;obtain⟨⟨A,y,v,rfl,e,m⟩,_⟩:=q;exact⟨_,O3 k l g B j,⟨A,y,v,by rw[gU],e,m⟩,rfl⟩
 grind
def WnL(j:bv P T){t}{f}{x}{u}{r}(n:AValRel G c b.nx x u)(h:Rz T t x f=some (true,r)):
  Gives P G c b w (Instr.field t u f) r:=by
 unfold Rz at h;split at h
 .rename_i z te d hf;obtain⟨q,p,m,o,k,g,l⟩:=I6 j hf;obtain⟨e,rfl,v⟩:=n;cases a:sub te.agg d z te.ty.size with
  |none=>simp_all
  |some y=>
   simp[a]at h;subst h;unfold sub at a;simp only[Gives,Instr.field,Sem.run_bind,Wt m,Result.andThen_ok,o,asAgg,Sem.run_pure,part,g.isAgg];cases ha:te.agg with
   |true=>
    simp only[ha,gp]at a|-;split at a
    .rename_i aO;injection a with a;subst a;refine⟨.agg ((e.drop z).take te.ty.size).toArray,?_,_,rfl,(v.drop z).take _⟩;simp[g.sizeOf,jQ l,k]
    grind
   |false=>
    simp only[ha]at a|-;cases hc:d[z]? with
    |none=>simp_all
    |some s=>
     simp[hc]at a;subst a;have i:z<e.length:=by rw[v.1];grind
     refine⟨e[z],?_,v.2 z s _ hc (Xq i)⟩;simp_all
 grind
end
section
variable{d:World}{F:CS}{e:Slots}{f G:GH}{c:Nat->Nu}{b:St}{a:Act}{w:World}{P:Program}{T:Tab}
def XR{d}{R}{n}(h:∀x c,R x c->c.length=n)(l)(f)(i)(e:d)(a:da R l f)(b:i<l.length):
  R (l.getD i e) ((f.drop (i*n)).take n):=Qd h l f i _ a Ψ
def Hj{i}{n}(h:inb i n=true):0<=i/\i<n:=by simpa [inb]using h
def I4{t et}{te}{k}{n:Int}{b d a g:Nat}(i:P.underlying t=some (.slice et))(c:TEok P T et te)(f:te.plain=true)(h:0<=n)(e:n<a):
  (Instr.indexAt t (.slice (some ⟨b,d,none⟩) a g) (.int k n)).run P w= .ok (.pointer (some ⟨b,d+n.toNat*te.ty.size,none⟩)) w:=by
 simp[Instr.indexAt,asIntOf,Wt i,h,e,c.sizeOf,jQ f,nD]
def WvU(H:bv P T)(l:HRel d F G c b.objs b.nx w){t et}{te}{k}{n}{id}{u}{r}(o:P.underlying t=some (.slice et))(g:TEok P T et te)(m:te.plain=true)
  (A:AValRel G c b.nx (.s (.one (.own id))) u) (h:obI te n id (look b.objs id)=some (true,r)):Gives P G c b w (Instr.indexAt t u (.int k n)) r:=by
 obtain⟨⟨v,z⟩,_⟩:=A;subst z;unfold obI at h;split at h
 .rename_i e K aS;split at h
  .rename_i he;simp only[Option.some.injEq,Prod.mk.injEq]at h;obtain⟨J,rfl⟩:=h;obtain⟨I,x⟩:=Hj J;obtain⟨S,q,j,y⟩:=l.obj aS;unfold Nu.hdr;cases a:(c id).blk with
   |none=>grind
   |some s=>
    refine⟨.pointer (some ⟨s,(c id).off+n.toNat*te.ty.size,none⟩),I4 o g m I Ω,⟨v,Ω,s,a,?_⟩,rfl⟩;rw[j,he,md,gJ]
  grind
 .rename_i e K i p aS;split at h
  .rename_i he;simp only[Option.some.injEq,Prod.mk.injEq,Xl]at h;obtain⟨⟨J,f⟩,rfl⟩:=h;obtain⟨I,x⟩:=Hj J;have f:=D8 f;obtain⟨S,D,q,j,E,s,a,B,C,y⟩:=l.obj aS;unfold Nu.hdr;simp only[a];refine⟨.pointer (some ⟨s,(c id).off+n.toNat*te.ty.size,none⟩),I4 o g m I Ω,⟨D,s,B,?_⟩,rfl⟩;rw[C,he,md,gJ,f]
  grind
 grind
def Wtm(C:bv P T)(m:HRel d F G c b.objs b.nx w){t et}{te}{k}{n}{id e I}{u}{r}(q:P.underlying t=some (.slice et))(E:TEok P T et te)(p:te.plain=true)
  (x:AValRel G c b.nx (.s (.one (.vw id e I))) u) (h:Ga te n id e I (look b.objs id)=some (true,r)):Gives P G c b w (Instr.indexAt t u (.int k n)) r:=by
 obtain⟨⟨f,z,A,B,v⟩,_⟩:=x;subst v;unfold Ga at h;split at h
 .rename_i J H aS;split at h
  .rename_i he;simp only[Option.some.injEq,Prod.mk.injEq]at h;obtain⟨l,rfl⟩:=h;obtain⟨i,j⟩:=Hj l;obtain⟨S,y,g,o⟩:=m.obj aS;unfold Nu.vhdr;cases a:(c id).blk with
   |none=>grind
   |some s=>
    simp only[a]at o;have D:(c id).cap≠e:=Ω
    rw[Wa D];refine⟨.pointer (some ⟨s,(c id).off+e*(c id).esz+n.toNat*te.ty.size,none⟩),I4 q E p i j,⟨f,Ω,s,a,?_⟩,rfl⟩;rw[g,he,md,gJ,o5,gU]
  grind
 grind
def WtL(y:bv P T)(l:HRel d F G c b.objs b.nx w){t et}{te}{k}{n}{m id}{u}{r}(p:P.underlying t=some (.array m et))(a:TEok P T et te)(o:te.plain=true)
  (v:AValRel G c b.nx (.s (.one (.aptr id))) u) (h:F4 te n m id (look b.objs id)=some (true,r)):Gives P G c b w (Instr.indexAt t u (.int k n)) r:=by
 obtain⟨⟨C,s,B,q⟩,_⟩:=v;subst q;unfold F4 at h;split at h
 .rename_i e D aS;split at h
  .rename_i he;simp only[Option.some.injEq,Prod.mk.injEq,Xl,Wg]at h;obtain⟨⟨j,z⟩,rfl⟩:=h;obtain⟨g,i⟩:=Hj j;obtain⟨S,x,f,A⟩:=l.obj aS;refine⟨.pointer (some ⟨s,(c id).off+n.toNat*e.size,none⟩),?_,⟨C,Ω,s,B,by rw[f,gJ]⟩,rfl⟩;have:((0:Int)<=n/\n<(m:Int)):=⟨g,i⟩;simp only[Instr.indexAt,asIntOf,Sem.run_bind,Sem.run_pure,Result.andThen_ok,Wt p,Instr.sureAddr,Wb this,a.sizeOf,jQ o,nD,he]
  grind
 grind
def Wiz(O:bv P T)(p:HRel d F G c b.objs b.nx w){t}{x i}{u v}{r}(R:AValRel G c b.nx x u)(Q:AValRel G c b.nx i v)
  (h:CJ T b t x i=some (true,r)):Gives P G c b w (Instr.indexAt t u v) r:=by
 unfold CJ at h;split at h
 .rename_i g ag et n hl hn;obtain⟨k,rfl⟩:=Hf _ _ _ Q hn;have f:=(O _ _ hl).und.2.1;split at h
  .rename_i te aO;split at h
   .rename_i hp;split at h
    .rename_i e l;split at h
     .rename_i he;simp only[Option.some.injEq,Prod.mk.injEq]at h;obtain⟨H,rfl⟩:=h;obtain⟨B,C⟩:=Hj H;obtain⟨⟨z,s,J⟩,_⟩:=R;simp at s;subst s;rcases J with⟨rfl,y⟩|⟨M,q,o,A,rfl,K,L,D,E⟩|⟨a,o,rfl,y⟩
      rotate_left 2
      .grind
      .grind
      .have ab:n.toNat<Xa l:=Ω
       refine⟨_,I4 f (O _ _ aO) hp B C,⟨M,q+n.toNat*e.size,_,?_,XR (λx N I=>fi e x N I) l A n.toNat e.dflt D ab,?_⟩,rfl⟩
       .grind
       .intro j v hj;rw[p3]at hj;split at hj
        .rw[pS]at hj;rw[gU];exact E _ _ hj
        grind
     grind
    .simp at h
    .exact WvU O p f (O _ _ aO) hp R h
    .exact Wtm O p f (O _ _ aO) hp R h
    grind
   grind
  grind
 .rename_i g ag m et n hl hn;obtain⟨k,rfl⟩:=Hf _ _ _ Q hn;have f:=(O _ _ hl).und.2.1;split at h
  .rename_i te aO;split at h
   .rename_i hp;split at h
    .exact WtL O p f (O _ _ aO) hp R h
    grind
   grind
  grind
 grind
theorem PY{k}{n:Int}{y:Nat}{c}(a:0<=n)(b:n<=y):(Instr.sliceBound (.int k n) y c).run P w= .ok n.toNat w:=by
 simp[Instr.sliceBound,asIntOf,a,b]
inductive BRel:Option Int->Option Value->Prop where
 |none:BRel .none .none
 |some (k:IntKind) (n:Int):BRel (.some n) (.some (.int k n))
def wO(h:Rel d F e f G c b a w)(o)(r)(j:j0 b o=some r):BRel r (o.map a.eval):=by
 cases o with
 |none=>simp[j0]at j;subst j;exact .none
 |some x=>
  simp only[j0]at j;cases hv:ev b x with
  |none=>simp_all
  |some av=>
   simp only[hv,Option.bind_some]at j;cases g:asI av with
   |none=>simp_all
   |some n=>
    simp[g]at j;subst j;obtain⟨k,i⟩:=Hf _ _ _ (W2 h x av hv) g;simp only[vp,i];exact .some k n
def Gu{h}{n g}{e d}{vl vh}(c:BRel e vl)(b:BRel d vh)(i:n<=g)(a:(bH n e d).1=true):
  (Instr.sliceBounds h n g vl vh none).run P w= .ok ((bH n e d).2.1,(bH n e d).2.2,g) w/\(bH n e d).2.1<=(bH n e d).2.2/\(bH n e d).2.2<=n:=by
 cases c<;>cases b<;>simp only[bH,Xl,Wg]at a|-
 .simp[Instr.sliceBounds]
 .grind [Instr.sliceBounds,Sem.run_bind,Sem.run_pure,Result.andThen_ok,PY]
 .grind [Instr.sliceBounds,Sem.run_bind,Sem.run_pure,Result.andThen_ok,PY]
 .rename_i k l k' p;obtain⟨⟨⟨j,m⟩,f⟩,o⟩:=a;refine⟨?_,Ω,Ω⟩;simp only[Instr.sliceBounds,Sem.run_bind,Sem.run_pure,Result.andThen_ok]
  grind [PY,Result.andThen_ok]
def RF{b}(l:List b)(c a):CD l c a=(l.take (bH l.length c a).2.2).drop (bH l.length c a).2.1:=by
 cases c<;>cases a<;>simp[CD,bH]
def Wyk{t et}{te}{e N}{vl vh}{d}{R}{n}(K:∀x c,R x c->c.length=n)(s:P.underlying t=some (.slice et))(Q:TEok P T et te)(D:te.plain=true)(C:te.ty.size=n)
  (M:List d) {v} (E:sm G R M v) (r:BRel e vl) (o:BRel N vh) (m:(bH M.length e N).1=true):
  ∃g,(Instr.sliceAt t v vl vh none).run P w= .ok g w/\sm G R (CD M e N) g:=by
 rcases E with⟨rfl,h⟩|⟨b,L,S,z,rfl,l,y,H,B⟩|⟨a,S,rfl,h⟩
 rotate_left 2
 .subst h;obtain⟨O,l,y⟩:=Gu (P:=P) (w:=w) (h:=true) (g:=S) r o (jI _) m;have i:(bH 0 e N).2.2=0:=Ω
  have k:(bH 0 e N).2.1=0:=Ω
  rw[i,k]at O;refine⟨.slice (some a) 0 S,?_,.inr (.inr ⟨a,S,rfl,?_⟩)⟩
  .simp only[Instr.sliceAt,Instr.slice,Sem.run_bind,Wt s,Result.andThen_ok,O,Q.sizeOf,Sem.run_pure,vp];simp[Addr.add]
  .rw[RF];simp
 .subst h;obtain⟨O,l,y⟩:=Gu (P:=P) (w:=w) (h:=true) (g:=0) r o (Xj _) m;refine⟨.slice none 0 0,?_,.inl ⟨rfl,?_⟩⟩
  .have i:(bH 0 e N).2.2=0:=Ω
   have k:(bH 0 e N).2.1=0:=Ω
   rw[i,k]at O;simp[Instr.sliceAt,Instr.slice,Wt s,O,Q.sizeOf]
  .rw[RF];simp
 .obtain⟨O,I,J⟩:=Gu (P:=P) (w:=w) (h:=true) (g:=S) r o l m;have F:=RF M e N;generalize (bH M.length e N).2.1=p at*;generalize (bH M.length e N).2.2=q at*;have A:te.size=n:=by rw[jQ D,C]
  have u:(CD M e N).length=q-p:=Ψ
  refine⟨.slice (some (if S=p then⟨b,L,none⟩else⟨b,L+p*n,none⟩)) (q-p) (S-p),?_,.inr (.inl ?_)⟩
  .simp only[Instr.sliceAt,Instr.slice,Sem.run_bind,Wt s,Result.andThen_ok,O,Q.sizeOf,Sem.run_pure,A,vp,nD];split<;>rfl
  .by_cases hc:S=p
   .have h0:CD M e N= []:=eY Ω;refine⟨b,L,S-p,[],?_,Ω,Ω,?_,λj v f=>by simp at f⟩
    .rw[Wb hc];rw[u]
    .rw[h0];rfl
   .refine⟨b,L+p*n,S-p,(z.take (q*n)).drop (p*n),?_,Ω,Ω,?_,?_⟩
    .rw[Wa hc,u]
    .grind [GG,GI]
    .intro j v f;rw[pS,p3]at f;split at f
     .rw[gU];exact B _ _ f
     grind
def Wnb(a:bv P T){t}{x}{u}{vl vh}{e d}{r}(s:AValRel G c b.nx x u)
  (n:∀l,j0 b e=some l->BRel l vl) (m:∀l,j0 b d=some l->BRel l vh)
  (h:K5 T b t x e d=some (true,r)):Gives P G c b w (Instr.sliceAt t u vl vh none) r:=by
 unfold K5 at h;split at h
 .rename_i g ag et C B l h' Ah h1 h2;have q:=(a _ _ Ah).und.2.1;split at h
  .rename_i te aO;split at h
   .rename_i Bs;obtain⟨k,o⟩:=Bs;simp only[Option.some.injEq,Prod.mk.injEq]at h;obtain⟨i,rfl⟩:=h;obtain⟨⟨z,v,p⟩,_⟩:=s;simp at v;subst v;obtain⟨A,f,D⟩:=Wyk (P:=P) (T:=T) (w:=w) (λx y j=>fi C x y j) q (a _ _ aO) o (by rw[k]) B p (n _ h1) (m _ h2) i;exact⟨A,f,gM ⟨A,rfl,D⟩⟩
   grind
  grind
 grind
end
section
variable{d:World}{F:CS}{e:Slots}{f G:GH}{c:Nat->Nu}{b:St}{a:Act}{w:World}{P:Program}{T:Tab}
def Wou(a:bv P T)(i:HRel d F G c b.objs b.nx w){src l}{x}{u}{r}(f:AValRel G c b.nx x u)
  (h:DL T b src l x=some (true,r)):Gives P G c b w (convert src l u) r:=by
 unfold DL TJ at h;split at h
 .rename_i k0 k g n h1 h2;have:=DC f;subst this;have e:=(a _ _ h1).und.2;have j:=(a _ _ h2).und.2;simp at h;subst h;exact⟨.int k (k.wrap n),by simp_all [convert,Wt,Conv.intToInt],gM rfl⟩
 grind
def WAm{x}{o}(a:o.op= .nilCheck x){ρ}{p}(h:ρ x= .pointer (some p)):(execOp ρ o).run P w= .ok (.value (.pointer (some p))) w:=by
 simp[execOp,a,h]
def Wwa{x r}{u}(a:AValRel G c b.nx x u)(h:DZ b x=some (true,r)):r=x/\∃p,u= .pointer (some p):=by
 unfold DZ at h;split at h
 .simp at h;subst h;obtain⟨⟨d,o,e,rfl,_⟩,_⟩:=a;simp_all
 .split at h
  .simp at h;subst h;obtain⟨⟨_,d,_,rfl⟩,_⟩:=a;simp_all
  grind
 .split at h
  .simp at h;subst h;obtain⟨⟨_,_,d,_,rfl⟩,_⟩:=a;simp_all
  grind
 .split at h
  .simp at h;subst h;obtain⟨⟨_,d,_,rfl⟩,_⟩:=a;simp_all
  grind
 grind
def V8(y:Rel d F e f G c b a w):∀(l) (t),uY b l=some t->
  t.length=l.length/\∀(j v:Nat) (u),t[j]?=some v->(l.map a.eval)[j]?=some u->v<b.nx/\u.oneCell'=true/\∃s,(c v).blk=some s/\u= .pointer (some ⟨s,(c v).off+0,none⟩)
 | [],t,h=>by simp[uY]at h;simp_all
 |o::l,t,h=>by
  simp only[uY]at h;split at h
  .rename_i v r h1 h2;injection h with h;subst h;obtain⟨k,q⟩:=V8 y l r h2;refine⟨by simp[k],λj i u x g=>?_⟩;cases j with
   |zero=>
    simp at x g;subst x g;obtain⟨⟨m,n⟩,p⟩:=W2 y o _ h1;simp_all
   |succ j=>grind
  grind
def UU(m:bv P T)(q:HRel d F G c b.objs b.nx w){t}{x}{u}{r}(y:AValRel G c b.nx x u)(h:xF T b t x=some r):
  Gives P G c b w (Instr.loadAt t u) r:=by
 unfold xF at h;split at h
 .rename_i te hl;split at h
  .rename_i hp;split at h
   .rename_i id Q;split at h
    .rename_i B aS;obtain⟨⟨_,g,n,rfl⟩,_⟩:=y;obtain⟨S,I,L,a,ae,z,C,_⟩:=q.obj aS;rw[n]at a;injection a with a;subst a;obtain⟨v,K,D⟩:=Pv (m _ _ hl) hp C (o:=(c id).off) z h;exact⟨v,by grind [Instr.loadAt,Instr.sureAddr],D⟩
    grind
   .rename_i id i Q;split at h
    .rename_i e O aS;obtain⟨⟨_,A,g,n,rfl⟩,_⟩:=y;obtain⟨S,s⟩:=q.obj aS;have J:=s.2.1;obtain⟨M,p,k,l⟩:=Wvy s n (by rw[s.1];exact A);obtain⟨v,E,f⟩:=Pv (m _ _ hl) hp (KZ (a:=c) (b:=b.nx) e _ _ _ k) (w:=w) (b:=g) (o:=(c id).off+i*e.size) l h;exact⟨v,by grind [Instr.loadAt,Instr.sureAddr,gU],f⟩
    grind
   .rename_i t' N Q;obtain⟨⟨g,o,B,rfl,k,l⟩,_⟩:=y;obtain⟨v,E,f⟩:=Pv (m _ _ hl) hp (pm (G:=G) (a:=c) (b:=b.nx) t' N _ k) (w:=w) (b:=g) (o:=o) (λj v H=>q.g (l j v H)) h;exact⟨v,by grind [Instr.loadAt,Instr.sureAddr],f⟩
   grind
  grind
 grind
end
section
variable{d:World}{F:CS}{nt:Slots}{G0 G:GH}{c:Nat->Nu}{b:St}{a:Act}{w:World}{P:Program}{T:Tab}
def rR{o}{s:Sem Value}{r}(d:execOp a.eval o=(do pure (.value (<-s))))(h:Gives P G c b w s r):
  ∃v,(execOp a.eval o).run P w= .ok (.value v) w/\AValRel G c b.nx r v:=by
 obtain⟨v,e,f⟩:=h;simp_all
def wW{a b:Type}{x}{f:a->Option (Bool×b)}{r}(h:x.bind f=some (true,r)):∃y,x=some y/\f y=some (true,r):=by
 cases x with
 |none=>simp at h
 |some y=>simp_all
def WsQ(A:bv P T)(V:Rel d F nt G0 G c b a w){o}{r}(h:dI T b o.op=some (true,r)):
  ∃v,(execOp a.eval o).run P w= .ok (.value v) w/\AValRel G c b.nx r v:=by
 obtain⟨J,L,E,U,I,guard⟩:=o;simp only at h;unfold dI at h;split at h
 .rename_i x;cases hx:ev b x with
  |none=>simp_all
  |some v=>simp[hx]at h;subst h;exact⟨_,rfl,W2 V x _ hx⟩
 .rename_i x;cases hx:ev b x with
  |none=>simp_all
  |some v=>simp[hx]at h;subst h;exact⟨_,rfl,W2 V x _ hx⟩
 .rename_i W x y;split at h
  .rename_i p e;cases hc:ev b W with
   |none=>simp_all
   |some cv=>
    simp[hc]at e;have C:=Rk _ _ _ (W2 V W _ hc) e;split at h
    .rename_i m n j h3;simp at h;subst h;have D:=Qk (W2 V x _ j);have N:=Qk (W2 V y _ h3);refine⟨.bool (bif p then m else n),?_,gM rfl⟩;simp only[execOp,C,D,N,asBool];cases p<;>rfl
    .cases p with
     |true=>
      cases hx:ev b x with
      |none=>simp_all
      |some v=>simp[hx]at h;subst h;exact⟨a.eval x,by simp_all [execOp,asBool],W2 V x _ hx⟩
     |false=>
      cases hx:ev b y with
      |none=>simp_all
      |some v=>simp[hx]at h;subst h;exact⟨a.eval y,by simp_all [execOp,asBool],W2 V y _ hx⟩
  grind
 .rename_i t x;obtain⟨y,g,h⟩:=wW h;cases B:xF T b t y with
  |none=>simp_all
  |some z=>simp[B]at h;subst h;exact rR rfl (UU A V.h (W2 V x _ g) B)
 .rename_i x;obtain⟨y,g,h⟩:=wW h;obtain⟨rfl,p,O⟩:=Wwa (W2 V x _ g) h;exact⟨_,WAm rfl O,by grind [W2]⟩
 .rename_i L t x y _;split at h
  .rename_i u v e j;exact rR rfl (WqP A x y (W2 V x _ e) (W2 V y _ j) h)
  grind
 .rename_i L t x;obtain⟨y,g,h⟩:=wW h;exact rR rfl (Wtz (W2 V x _ g) h)
 .rename_i src J x;obtain⟨y,g,h⟩:=wW h;exact rR rfl (Wou A V.h (W2 V x _ g) h)
 .rename_i t x lo Z;obtain⟨y,g,h⟩:=wW h;exact rR rfl (Wnb A (W2 V x _ g) (λl B=>wO V lo l B) (λl B=>wO V Z l B) h)
 .rename_i s x f;obtain⟨y,g,h⟩:=wW h;exact rR rfl (WiJ A V.h (W2 V x _ g) h)
 .rename_i s x f;obtain⟨y,g,h⟩:=wW h;exact rR rfl (WnL A (W2 V x _ g) h)
 .rename_i t x i;split at h
  .rename_i u v e j;exact rR rfl (Wiz A V.h (W2 V x _ e) (W2 V i _ j) h)
  grind
 .rename_i t ix;split at h
  .rename_i Y e;cases hx:Y[ix]? with
   |none=>simp_all
   |some y=>
    simp[hx]at h;subst h;obtain⟨M,Q,B,R⟩:=W2 V t _ e;have K:ix<M.length:=Θ
    exact rR rfl ⟨M[ix],by simp[Q,Instr.extract,K],R ix y _ hx (Xq K)⟩
  grind
 .rename_i f first captured
  split at h
  .rename_i hf;cases hc:uY b captured.toList with
   |none=>simp_all
   |some ids=>
    simp[hc]at h;subst h;obtain⟨e,j⟩:=V8 V _ _ hc;have S:first= #[]:=Ψ
    subst S;refine rR rfl ⟨.func (.func f) #[] (captured.map a.eval),by simp[Instr.makeFunc],⟨captured.toList.map a.eval,?_,?_,j⟩,rfl⟩
    .apply Wq
     grind
    grind
  grind
 .rename_i W;obtain⟨H,q,X⟩:=W;obtain⟨q⟩:=q;obtain⟨X⟩:=X;simp only at h;split at h
  .rename_i x t;obtain⟨y,g,h⟩:=wW h;obtain⟨v,e,j⟩:=Wrc (g:=E) A V.h (W2 V x _ g) h;refine⟨v,?_,j⟩;simp only[execOp,resolve,invoke,builtin,Sem.run_bind,Sem.run_pure,Result.andThen_ok,Ee,bo,d6,e]
  .rename_i x y _ _;split at h
   .rename_i k m k' n e j;split at h
    .rename_i hk;subst hk;simp at h;subst h;have C:=DC (W2 V x _ e);have D:=DC (W2 V y _ j);refine⟨.int k (TV m n),?_,gM rfl⟩;simp only[execOp,resolve,invoke,builtin,Sem.run_bind,Sem.run_pure,Result.andThen_ok,Ee,bo,d6,C,D,Builtin.min_];rfl
    grind
   grind
  .rename_i x y _ _;split at h
   .rename_i k m k' n e j;split at h
    .rename_i hk;subst hk;simp at h;subst h;have C:=DC (W2 V x _ e);have D:=DC (W2 V y _ j);refine⟨.int k (CB m n),?_,gM rfl⟩;simp only[execOp,resolve,invoke,builtin,Sem.run_bind,Sem.run_pure,Result.andThen_ok,Ee,bo,d6,C,D,Builtin.max_];rfl
    grind
   grind
  grind
 grind
end
section
variable{y:World}{F:CS}{a:Slots}{b G Z:GH}{s x:Nat->Nu}{u D:Nat->CS}{r B:ai}{t A:Nat}{w z:World}{P:Program}{T:Tab}
def Live.of{id}{a}(h:look r id=some a)(b:a≠ .dead):Live r id:=⟨a,h,b⟩
theorem WZ{a:Type}(k)(v)(l:List (Nat×a))(i):look ((k,v)::l) i=if k=i then some v else look l i:=by
 simp only[look];by_cases h:k=i
 .subst h;simp
 .have:fG k i=false:=by
   grind [fG,absurd,D8]
  rw[this,Wa h]
def Pd{a:Type}:∀(l m:List (Nat×a)) (i),look (l++m) i=match look l i with
  |some x=>some x
  |none=>look m i
 | [],m,i=>rfl
 |(k,v)::l,m,i=>by
  rw[List.cons_append,WZ,WZ];split
  .rfl
  .exact Pd l m i
def HR.blk_lt_g(h:HR y F G s u r t w){b o}{v}(a:G b o=some v):b<w.heap.size:=block_lt_of_cell (h.g b o v a)
def WLe.refl(S)(w):WLe S w w:=⟨Xj _,λ_ a _ h=>⟨a,h,rfl⟩,λ_ _ _ _=>rfl,λ_ _ _=>rfl,rfl,rfl,rfl⟩
def WLe.mono{S c}(h:WLe S w z)(e:CS.le S c):WLe c w z:=
 ⟨h.size,h.row,λb o a f=>h.cell b o a (λd=>f (e b o d)),λb a f=>h.whole b a (λo d=>f o (e b o d)),h.os,h.output,h.tape⟩
def WLe.same{S c}(h:WLe S w z)(i:CS.disj S c)(g:∀b o,c b o->b<w.heap.size):Same c w z:=
 ⟨λb n ⟨j,T,e,k⟩=>by obtain⟨m,f,l⟩:=h.row b j T e;exact⟨m,T,f,Ω⟩,λb o a=>h.cell b o (g b o a) (λd=>i b o d a)⟩
def WLe.rows{S}(h:WLe S w z):Same (λ_ _=>False) w z:=
 ⟨λb n ⟨f,T,c,g⟩=>by obtain⟨a,d,i⟩:=h.row b f T c;exact⟨a,T,d,Ω⟩,λ_ _ e=>e.elim⟩
def WLe.trans{S m}{w1 w2 w3}(h:WLe S w1 w2)(a:WLe m w2 w3)(k:∀b o,m b o->w1.heap.size<=b\/S b o):WLe S w1 w3 where
 size:=mA h.size a.size
 row b l T hb:=by
  obtain⟨c,e,g⟩:=h.row b l T hb;obtain⟨f,i,j⟩:=a.row b c T e;simp_all
 cell b o hb hn:=by
  rw[a.cell b o (pP hb h.size) (λd=>Θ)];exact h.cell b o hb hn
 whole b hb hn:=by
  rw[a.whole b (pP hb h.size) (λo d=>Θ)];exact h.whole b hb hn
 os:=a.os.trans h.os
 output:=a.output.trans h.output
 tape:=a.tape.trans h.tape
def WLe.alloc(S)(a:World)(o)(c:a.heap=w.heap)(f:a.os=w.os)(e:a.output=w.output)(d:a.tape=w.tape):WLe S w (a.alloc o) where
 size:=by simp[c]
 row b g T hb:=by
  have h:b<w.heap.size:=(Array.getElem?_eq_some_iff.1 hb).1;exact⟨g,by grind [heap_alloc_old],rfl⟩
 cell b o' hb _:=World.cell?_of_block (by show(a.alloc o).heap[b]?=w.heap[b]?;rw[heap_alloc_old a o Ψ,c])
 whole b hb _:=by rw[heap_alloc_old a o Ψ,c]
 os:=f
 output:=e
 tape:=d
def WLe.setRow{S}{b}{f g}{T}(h:w.heap[b]?=some (Obj.cells f T (0,0)))(d:g.size=f.size)(c:∀o,¬S b o->g[o]?=f[o]?):WLe S w (w.setRow b g) where
 size:=Δ
 row k a T' hk:=by
  by_cases e:k=b
  .grind [setRow_heap]
  .exact⟨a,by grind [setRow_other],rfl⟩
 cell k o hk hn:=by
  by_cases e:k=b
  .subst e;rw[cell_of_row _ k o g T (0,0) (setRow_heap w k f g T (0,0) h),cell_of_row w k o f T (0,0) h]
   grind
  grind [World.cell?_of_block,setRow_other]
 whole k hk hn:=by
  by_cases e:k=b
  .subst e;have:g=f:=Array.ext_getElem? λo=>c o (hn o);rw[setRow_heap w k f g T (0,0) h,h,this]
  grind [setRow_other]
 os:=rfl
 output:=rfl
 tape:=rfl
def Ol(u:Nat->CS)(r:ai):CS:=λb o=>∃a,Live r a/\u a b o
def HR.step(h:HR y F G s u r t w)(k:WLe (Ol u r) w z)
  (q:∀a ob,look B a=some ob->ob≠ .dead->gy G x A z a (D a) ob)
  (l:∀a,Live B a->a<A)
  (j:∀a b o,Live B a->D a b o->Ol u r b o\/w.heap.size<=b)
  (n:∀a b o,Live B a->D a b o->b<z.heap.size)
  (p:∀a d b o,Live B a->Live B d->D a b o->D d b o->a=d):
  HR y F G x D B A z where
 g b o v hg:=by
  rw[k.cell b o (h.blk_lt_g hg) (λ⟨a,c,hp⟩=>by rw[h.gf a b o c hp]at hg;cases hg)];exact h.g b o v hg
 ob a ob ho:=by
  by_cases m:ob= .dead
  .subst m;trivial
  simp_all
 gf a b o c hp:=by
  rcases j a b o c hp with⟨i,f,e⟩|ia
  .exact h.gf i b o f e
  .cases hg:G b o with
   |none=>rfl
   |some v=>have:=h.blk_lt_g hg;omega
 inj:=p
 own a b o c hp:=by
  rcases j a b o c hp with⟨i,f,e⟩|ia
  .exact h.own i b o f e
  .exact .inl (mA h.le.size ia)
 lt:=l
 bl:=n
 le:=h.le.trans k (λb o ⟨a,c,hp⟩=>h.own a b o c hp)
def F8(u:Nat->CS)(i:Nat)(S:CS):Nat->CS:=λj=>if j=i then S else u j
theorem Hb(u)(i)(S):F8 u i S i=S:=by simp[F8]
def zT(u){i j}(S)(h:j≠i):F8 u i S j=u j:=by simp[F8,h]
theorem Gx:∀(l) (id) (a),look (kill r l) id=some a->a≠ .dead->look r id=some a/\id∉l
 | [],id,a,h,_=>⟨h,Δ⟩
 |i::l,id,a,h,hd=>by
  simp only[kill]at h;rw[WZ]at h;split at h
  .simp_all
  .rename_i ar;obtain⟨b,c⟩:=Gx l id a h hd
   grind
def C4{l}{id}(h:Live (kill r l) id):Live r id/\id∉l:=by
 obtain⟨b,c,a⟩:=h;obtain⟨d,e⟩:=Gx l id b c a;exact⟨⟨b,d,a⟩,e⟩
def IV(u:Nat->CS)(r:ai)(t:Nat)(m:List Nat):CS:=λb o=>∃i,(i=t\/i∈m)/\Live r i/\u i b o
def HR.put(h:HR y F G s u r t w){Q}{m}{ob}{S}(H:q6 t s x)(X:t<=A)(L:Q<A)
  (N:WLe (IV u r Q m) w z) (O:∀b o,S b o->IV u r Q m b o\/(w.heap.size<=b/\b<z.heap.size))
  (K:ob≠ .dead->gy G x A z Q S ob):HR y F G x (F8 u Q S) ((Q,ob)::kill r m) A z:=by
 have W:∀id e,look ((Q,ob)::kill r m) id=some e->e≠ .dead->(id=Q/\e=ob)\/(id≠Q/\id∉m/\look r id=some e):=λid e q l=>by
  grind [WZ,Gx]
 have p:∀id,Live ((Q,ob)::kill r m) id->(id=Q)\/(id≠Q/\id∉m/\Live r id):=λid ⟨e,q,l⟩=>by
  rcases W id e q l with⟨a,j⟩|⟨a,j,d⟩
  .omega
  .exact .inr ⟨a,j,e,d,l⟩
 refine h.step (N.mono λb o ⟨i,_,a,j⟩=>⟨i,a,j⟩) (λid e q l=>?_) (λid f=>?_) (λid b o f c=>?_) (λid b o f c=>?_) (λid g b o f I c U=>?_)
 .rcases W id e q l with⟨a,j⟩|⟨a,j,d⟩
  .grind [Hb]
  .rw[zT u S a];have f:Live r id:=⟨e,d,l⟩;refine Gw (λ_ _ _ R=>R) (N.same (λb o ⟨i,E,J,B⟩ c=>?_) (λb o c=>h.bl id b o f c)) (λ_ _ R=>R) H X (h.lt id f) e (h.ob id e d);have:=h.inj i id b o J f B c;simp_all
 .rcases p id f with a|⟨_,_,d⟩
  .omega
  .exact pP (h.lt id d) X
 .rcases p id f with a|⟨a,_,d⟩
  .subst a;rw[Hb]at c;rcases O b o c with⟨i,_,k,n⟩|k
   .exact .inl ⟨i,k,n⟩
   omega
  .rw[zT u S a]at c;exact .inl ⟨id,d,c⟩
 .rcases p id f with a|⟨a,_,d⟩
  .subst a;rw[Hb]at c;rcases O b o c with⟨i,_,k,n⟩|k
   .exact pP (h.bl i b o k n) N.size
   omega
  .rw[zT u S a]at c;exact pP (h.bl id b o d c) N.size
 .have key:∀g,g≠Q->g∉m->Live r g->u g b o->S b o->False:=λg a j d k n=>by
   rcases O b o n with⟨i,E,V,D⟩|V
   .have:=h.inj i g b o V d D k;simp_all
   .have:=h.bl g b o d k;omega
  rcases p id f with a|⟨a,j,d⟩<;>rcases p g I with v|⟨v,M,C⟩
  .rw[a,v]
  .simp_all [Hb,zT]
  .simp_all [Hb,zT]
  .rw[zT u S a]at c;rw[zT u S v]at U;exact h.inj id g b o d C c U
def HR.drew(h:HR y F G s u r t w):HR y F G s u r t w.drew:=by
 have i:WLe (Ol u r) w w.drew:=⟨Xj _,λ_ j _ h=>⟨j,h,rfl⟩,λ_ _ _ _=>rfl,λ_ _ _=>rfl,rfl,rfl,rfl⟩;exact h.step i (λa f g _=>Gw (w:=w) (a:=w.drew) (S:=u a) (λ_ _ _ c=>c) ⟨λ_ _ c=>c,λ_ _ _=>rfl⟩ (λ_ _ c=>c) (λ_ _=>rfl) (Xj _) (h.lt a ⟨f,g,by assumption⟩) f (h.ob a f g))
  h.lt (λa b o d e=>.inl ⟨a,d,e⟩) (λa b o d e=>h.bl a b o d e) h.inj
def HRel.drew(h:HRel y F G s r t w):HRel y F G s r t w.drew:=by
 obtain⟨u,h⟩:=h;exact⟨u,h.drew⟩
end
section
variable{d:World}{F:CS}{f:Slots}{h G e:GH}{c x:Nat->Nu}{b:St}{a:Act}{w g:World}{P:Program}{T:Tab}
def Rel.put(r:Rel d F f h G c b a w){i:Option Tmp}(n:∀o,i=some o->f.Ok o){x}{v}(k:AValRel G c b.nx x v):Rel d F f h G c (b.put i x) (a.put i v) w:=by
 cases i with
 |none=>exact r
 |some o=>
  have g:o<a.tmps.size:=by rw[r.ntm];exact(n o rfl).1
  refine⟨r.defers,by simpa [Act.put]using r.ntm,λp q=>?_,λs y m=>?_,r.h,r.gx⟩
  .simp only[Act.put];rw[Xfk (λe=>(n o rfl).2 p q e.symm)];exact r.par p q
  simp only[St.put]at m;rw[WZ]at m;split at m
  .rename_i e;subst e;injection m with m;subst m;exact⟨v,by simp[Act.put,g],k⟩
  .rename_i ar;obtain⟨u,l,j⟩:=r.env s y m;exact⟨u,by grind [Act.put,Xfk],j⟩
def Rel.on(r:Rel d F f h G c b a w){i}{s}(o:GLe G e)(p:q6 b.nx c x)(k:b.nx<=s)
  (m:HRel d F e x i s g) (l:GExt d.heap.size F h e):Rel d F f h e x {env:=b.env,objs:=i,nx:=s} a g:=
 ⟨r.defers,r.ntm,r.par,λt y n=>by
  obtain⟨u,j,q⟩:=r.env t y n
  grind [AValRel.mono],m,l⟩
def upd(c:Nat->Nu)(i:Nat)(n:Nu):Nat->Nu:=λj=>if j=i then n else c j
def Hr(c)(i)(n):q6 i c (upd c i n):=λj a=>by simp[upd];omega
theorem jf(c)(i)(n):upd c i n i=n:=by simp[upd]
def Rel.lay(o:Rel d F f h G c b a w){r:Option Tmp}(j:∀l,r=some l->f.Ok l){i}{p}(e:q6 b.nx c x)(n:b.nx<=p)
  (q:HRel d F G x i p g) {k} {v} (m:AValRel G x p k v):Rel d F f h G x (({env:=b.env,objs:=i,nx:=p}:St).put r k) (a.put r v) g:=
 (o.on (λ_ _ _ q=>q) e n q o.gx).put j m
def Rel.fresh(t:Rel d F f h G c b a w){i:Option Tmp}(s:∀n,i=some n->f.Ok n)(m)(ob)(r)(S:(Nat->CS)->CS)(x)(v)
  (j:∀p,HR d F G c p b.objs b.nx w->WLe (IV p b.objs b.nx m) w g) (q:∀p,HR d F G c p b.objs b.nx w->∀k o,S p k o->IV p b.objs b.nx m k o\/(w.heap.size<=k/\k<g.heap.size))
  (e:∀p,HR d F G c p b.objs b.nx w->gy G (upd c b.nx r) (b.nx+1) g b.nx (S p) ob)
  (u:AValRel G (upd c b.nx r) (b.nx+1) x v):
  Rel d F f h G (upd c b.nx r) (({env:=b.env,objs:=(b.nx,ob)::kill b.objs m,nx:=b.nx+1}:St).put i x) (a.put i v) g:=by
 obtain⟨p,l⟩:=t.h;exact t.lay s (Hr c b.nx r) (EG _) ⟨_,l.put (Hr c b.nx r) (EG _) (nq _) (j p l) (q p l) (λ_=>e p l)⟩ u
def Rel.new(s:Rel d F f h G c b a w){i:Option Tmp}(e:∀m,i=some m->f.Ok m)(ob)(q)(x)(v)
  (j:WLe (λ_ _=>False) w g)
  (l:gy G (upd c b.nx q) (b.nx+1) g b.nx (λk _=>w.heap.size<=k/\k<g.heap.size) ob)
  (t:AValRel G (upd c b.nx q) (b.nx+1) x v):
  Rel d F f h G (upd c b.nx q) (b.new i ob x) (a.put i v) g:=
 s.fresh e [] ob q (λ_ k _=>w.heap.size<=k/\k<g.heap.size) x v (λn _=>j.mono λ_ _ p=>p.elim) (λn _ k o r=>.inr r) (λn _=>l) t
end
theorem Wv4{v:Value}(h:v.oneCell'=true):v.cells= #[v]:=by
 cases v<;>first|rfl|simp[Value.oneCell']at h
section
variable{h:World}{F:CS}{q:Slots}{s G:GH}{j:Nat->Nu}{b:ai}{d:Nat}{Q:St}{a:Act}{w c:World}{P:Program}{T:Tab}
def OH:∀(t),t.data=true->Enc G t t.dflt (ew t)
 | .int _,_=>rfl
 | .bool,_=>rfl
 | .slice e,_=>⟨_,rfl,.inl ⟨rfl,rfl⟩⟩
 | .own _,h=>by simp[Ty.data]at h
 | .prod a b,h=>by
  simp only[Ty.data,Xl]at h;exact⟨_,_,rfl,OH a h.1,OH b h.2⟩
theorem IS:∀(t),CellsRel G j d (qx t) (ew t)
 | .int _=>CellsRel.one rfl rfl
 | .bool=>CellsRel.one rfl rfl
 | .slice e=>CellsRel.one rfl rfl
 | .own _=>CellsRel.one trivial rfl
 | .prod a b=>(IS a).append (IS b)
theorem rI:∀(t),(ew t).length=t.size
 | .int _| .bool| .slice _| .own _=>rfl
 | .prod a b=>by simp[ew,rI a,rI b,Ty.size]
theorem Lt{a}(l:List a):∀n,(rep l n).length=n*l.length
 |0=>by simp[rep]
 |n+1=>by rw[rep,bX,Lt l n,lz,AM]
theorem DH{e}(h:e.data=true):∀n,da (Enc G e) (Xp n e.dflt) (rep (ew e) n)
 |0=>rfl
 |n+1=>⟨_,_,rfl,OH e h,DH h n⟩
def Dr{t}{te}(a:TEok P T t te):∃z,(zeroValue t).run P w= .ok z w/\z.cells.toList=te.cells:=by
 obtain⟨i,z,c,_,d,b,_⟩:=a.info;simp_all [zeroValue,UO]
theorem zo{a:TE}(h:a.plain=true):a.cells=ew a.ty:=by
 unfold TE.plain at h;unfold TE.cells;split at h<;>simp_all
theorem Qy(w:World)(o):(w.alloc o).heap[w.heap.size]?=some o:=heap_alloc_new w o
def zty:∀(t),∃f,WL G w t t.dflt (ew t.ro) f/\∀p∈f,p.fp= λ_ _=>False
 | .int _=>⟨[],⟨rfl,rfl⟩,Δ⟩
 | .bool=>⟨[],⟨rfl,rfl⟩,Δ⟩
 | .slice e=>⟨[],⟨rfl,_,rfl,.inl ⟨rfl,rfl⟩⟩,Δ⟩
 | .own e=>⟨[⟨⟨none,0,0,0,e.size⟩,λ_ _=>False⟩],⟨_,rfl,rfl,rfl,rfl,rfl⟩,Δ⟩
 | .prod a b=>by
  obtain⟨c,g,i⟩:=zty a;obtain⟨d,h,j⟩:=zty b;refine⟨c++d,⟨_,_,c,d,rfl,rfl,g,h⟩,λp k=>?_⟩
  grind
def WzM(e):∀n,∃c,dU (WL G w e) (Xp n e.dflt) (rep (ew e.ro) n) c/\∀p∈c,p.fp= λ_ _=>False
 |0=>⟨[],⟨rfl,rfl⟩,Δ⟩
 |n+1=>by
  obtain⟨a,d,g⟩:=zty (G:=G) (w:=w) e;obtain⟨b,f,h⟩:=WzM e n;refine⟨a++b,⟨_,_,a,b,rfl,rfl,d,f⟩,λp i=>?_⟩
  grind
def Ys:∀(a:List Pc),(∀p∈a,p.fp= λ_ _=>False)->Sep (a.map Pc.fp)
 | [],_=>List.Pairwise.nil
 |p::a,h=>Xz.2 ⟨λs _ b o d _=>Ψ,Ys a λq c=>h q (Xe _ c)⟩
def Wv9(p:Rel h F q s G j Q a w){f:Option Tmp}(m:∀d,f=some d->q.Ok d){e}{c}{t}(l:CellsRel G j Q.nx e c.toList):
  ∃r,Rel h F q s G r (Q.new f (.box e) (.s (.one (.ptr Q.nx 0)))) (a.put f (.pointer (some ⟨w.heap.size,0,none⟩))) (w.alloc (.cells c t)):=by
 refine⟨upd j Q.nx ⟨some w.heap.size,0,0,0,0⟩,p.new m (.box e) _ _ _ (WLe.alloc _ w _ rfl rfl rfl rfl) ?_ ?_⟩
 .have hl:c.size=e.length:=by have:=l.1;omega
  refine⟨w.heap.size,c.toList,by rw[jf],⟨c,t,Qy w _,by grind [jf]⟩,?_,l.mono (λ_ _ _ n=>n) (Hr _ _ _) (EG _),λb o ⟨g,_⟩=>Ψ⟩;rw[jf];exact Wwt (Qy w _) (λk v i=>Ψ)
 .exact⟨⟨nq _,w.heap.size,by rw[jf],by rw[jf]⟩,rfl⟩
def FromL(a:Nat->CS)(b:ai)(m:List Nat):CS:=λc o=>∃i∈m,Live b i/\a i c o
def K4(qa6:Rel h F q s G j Q a w){J:Option Tmp}(M:∀d,J=some d->q.Ok d)(m){e}{V}{K}{W}{t}{X}(S:V.length<=K)(U:K<=maxLen)
  (qa2:W.size=K*e.size) (L:∀Y,HR h F G j Y Q.objs Q.nx w->∃n,dU (WL G w e) V X n/\Sep (n.map Pc.fp)/\∀p∈n,CS.le p.fp (FromL Y Q.objs m)) (O:X<+:W.toList)
  (f:World) (I:f.heap=w.heap) (H:f.os=w.os) (D:f.output=w.output) (C:f.tape=w.tape):
  (∃Z,Rel h F q s G Z (({env:=Q.env,objs:=(Q.nx,.arr e V)::kill Q.objs m,nx:=Q.nx+1}:St).put J (.s (.one (.own Q.nx)))) (a.put J (.slice (some ⟨w.heap.size,0,none⟩) V.length K)) (f.alloc (.cells W t)))/\
  (∃Z,Rel h F q s G Z (({env:=Q.env,objs:=(Q.nx,.arr e V)::kill Q.objs m,nx:=Q.nx+1}:St).put J (.s (.one (.aptr Q.nx)))) (a.put J (.pointer (some ⟨w.heap.size,0,none⟩))) (f.alloc (.cells W t))):=by
 have E:(f.alloc (.cells W t)).heap[w.heap.size]?=some (Obj.cells W t (0,0)):=by grind [Qy]
 have r:∀(x:AVal) (v:Value),AValRel G (upd j Q.nx ⟨some w.heap.size,0,V.length,K,e.size⟩) (Q.nx+1) x v->
   ∃Z,Rel h F q s G Z (({env:=Q.env,objs:=(Q.nx,.arr e V)::kill Q.objs m,nx:=Q.nx+1}:St).put J x) (a.put J v) (f.alloc (.cells W t)):=λx v R=>by
  refine⟨upd j Q.nx ⟨some w.heap.size,0,V.length,K,e.size⟩,qa6.fresh M m (.arr e V) _ (λY b o=>FromL Y Q.objs m b o\/b=w.heap.size) x v (λY _=>WLe.alloc _ f _ I H D C) (λY A b o g=>?_) (λY A=>?_) R⟩
  .rcases g with⟨i,N,y,z⟩|g
   .exact .inl ⟨i,.inr N,y,z⟩
   simp_all
  .obtain⟨n,y,z,B⟩:=L Y A;have T:∀p∈n,∀b o,p.fp b o->b<w.heap.size:=λp l b o k=>by
    obtain⟨i,_,qa9,qb0⟩:=B p l b o k;exact A.bl i b o qa9 qb0
   show az (f.alloc (.cells W t)) (WL G _ e) e.size (upd j Q.nx ⟨some w.heap.size,0,V.length,K,e.size⟩ Q.nx) V _;rw[jf];refine⟨rfl,rfl,S,U,⟨W,t,E,Ψ⟩,X,n,?_,?_,Xz.2 ⟨λqa8 g b o ⟨qa3,_⟩ u=>?_,z⟩,λqa8 g b o u=>?_⟩
   .refine ur (Q:=λp=>∀b o,p.fp b o->b<w.heap.size) (λx c p l k=>?_) _ _ _ T y;exact pe (λ_ _ _ k=>k) e x c p (λqa7 P=>(WLe.alloc (λ_ _=>False) f _ I H D C).same (λ_ _ k _=>k) (l qa7 P)) k
   .obtain⟨qa5,qa1⟩:=O;exact Wwt E (λqa0 v qa4=>Θ)
   .obtain⟨p,l,rfl⟩:=Xy.1 g
    grind
   .rcases Xr.1 g with rfl|g
    .exact .inr u.1
    .obtain⟨p,l,rfl⟩:=Xy.1 g;exact .inl (B p l b o u)
 refine⟨r _ _ ⟨⟨nq _,?_⟩,rfl⟩,r _ _ ⟨⟨nq _,w.heap.size,by rw[jf],by rw[jf]⟩,rfl⟩⟩;rw[jf];rfl
def Ry(v:Rel h F q s G j Q a w){C:Option Tmp}(u:∀d,C=some d->q.Ok d){e}(B:e.data=true){c}{i}{f}{t}{g}(k:c.length<=i)(m:i<=maxLen)
  (r:f.size=i*e.size) (A:da (Enc G e) c g) (z:g<+:f.toList) (b:World) (p:b.heap=w.heap) (o:b.os=w.os) (n:b.output=w.output) (l:b.tape=w.tape):
  (∃y,Rel h F q s G y (Q.new C (.arr e c) (.s (.one (.own Q.nx)))) (a.put C (.slice (some ⟨w.heap.size,0,none⟩) c.length i)) (b.alloc (.cells f t)))/\
  (∃y,Rel h F q s G y (Q.new C (.arr e c) (.s (.one (.aptr Q.nx)))) (a.put C (.pointer (some ⟨w.heap.size,0,none⟩))) (b.alloc (.cells f t))):=
 K4 v u [] k m r (λx _=>⟨[],(w5 B c g []).2 ⟨A,rfl⟩,List.Pairwise.nil,Δ⟩) z b p o n l
def C6{x}{v}{c}(e:AValRel G j d x v)(a:oF x=some c):CellsRel G j d c v.cells.toList/\∀u∈v.cells.toList,u.oneCell'=true:=by
 cases x with
 |tup n=>simp[oF]at a
 |s y=>
  cases y with
  |one l=>
   simp[oF]at a;subst a;obtain⟨b,h⟩:=e
   grind [Wv4,CellsRel.one]
  |agg ds=>
   simp[oF]at a;subst a;obtain⟨i,rfl,b⟩:=e;refine⟨by grind [Value.cells],λu m=>?_⟩;simp[Value.cells]at m;obtain⟨k,g⟩:=List.getElem?_of_mem m;have f:k<ds.length:=by rw[<-b.1];grind
   exact(b.2 k _ u (Xq f) g).2
def CW(t)(a):(newRow t a).run P w= .ok ⟨w.heap.size,0,none⟩ (w.alloc (.cells a t)):=rfl
def JI{b ds}{a}(h:a+ds.length<=b.length):(py b a ds).length=b.length:=by
 simp[py];omega
def JH{g ds}{f e}{c}(a:CellsRel G j d g f)(b:CellsRel G j d ds e):
  CellsRel G j d (py g c ds) (f.take c++e++f.drop (c+e.length)):=by
 rw[b.1];exact((a.take c).append b).append (a.drop _)
def PW(e:List Value):∀(d k) (f:Array Value),d+k+e.length<=f.size->
  ((e.zipIdx k).foldl (λf (c,j)=>f.setIfInBounds (d+j) c) f).toList=f.toList.take (d+k)++e++f.toList.drop (d+k+e.length):=by
 induction e with
 |nil=>simp_all
 |cons u e ih=>
  intro d k f h;simp only[List.zipIdx_cons,List.foldl_cons,Xv]at h|-;rw[ih d (k+1) _ Φ];have a:d+k<f.toList.length:=Φ
  simp only[Array.toList_setIfInBounds];generalize f.toList=l at*;have b:(l.set (d+k) u).take (d+(k+1))=l.take (d+k)++ [u]:=by
   rw[<-gU,List.take_succ_eq_append_getElem Ψ,List.take_set_of_le (Xj _)];simp
  grind [List.drop_set_of_lt]
end
section
variable{q:World}{F:CS}{Q:Slots}{R G:GH}{d:Nat->Nu}{b:ai}{e:Nat}{c f:St}{a:Act}{w g:World}{P:Program}{T:Tab}
def Done(P:Program)(q:World)(F:CS)(Q:Slots)(R:GH)(o:Oper)(a:Act)(w:World)(f:St):Prop:=
 ∃n v g c b,(execOp a.eval o).run P w= .ok n g/\(n= .value v\/(n= .skip/\v=undef))/\Rel q F Q R c b f (a.put o.dst v) g
def JX(e:Rel q F Q R G d c a w):∀(l) (b),pq c l=some b->
  b.length=l.length/\∀(j:Nat) (p) (n),b[j]?=some p->l[j]?=some n->p.1=n.1/\AValRel G d c.nx p.2 (a.eval n.2)
 | [],b,h=>by simp[pq]at h;simp_all
 |(i,x)::l,b,h=>by
  simp only[pq]at h;split at h
  .rename_i y ys h1 h2;injection h with h;subst h;obtain⟨f,g⟩:=JX e l ys h2;refine⟨by simp[f],λj p n k m=>?_⟩;cases j with
   |zero=>simp at k m;subst k m;exact⟨rfl,W2 e x _ h1⟩
   |succ j=>grind
  grind
def VT(u:bv P T){fs}{place}
  (K:∀(i J) (a:TypeId) (te),fs[i]?=some (J,a)->look T a=some te->place i=some (J,te.size)) (r:∀(i J:Nat) (a:TypeId) (te),fs[i]?=some (J,a)->look T a=some te->te.plain=true):
  ∀(l) (ps) (f h) (L),CellsRel G d e f L.toList->ps.length=l.length->
   (∀(j:Nat) (p) (q),l[j]?=some p->ps[j]?=some q->p.1=q.1/\AValRel G d e p.2 q.2)->xY T fs l f=some h->
   ∃b,Instr.fill place L ps=some b/\CellsRel G d e h b.toList
 | [],[],f,h,L,H,_,_,M=>by simp[xY]at M;subst M;exact⟨L,rfl,H⟩
 |(i,x)::l,[],_,_,_,_,I,_,_=>by simp at I
 | [],_::_,_,_,_,_,I,_,_=>by simp at I
 |(i,x)::l,(i',v)::ps,f,h,L,H,I,n,M=>by
  obtain⟨m,o⟩:=n 0 _ _ rfl rfl;simp only at m o;subst m;simp only[xY]at M;split at M
  .rename_i J a hf;split at M
   .rename_i te ds cT kV;split at M
    .rename_i cO;simp only[Xl,Wg]at cO;obtain⟨A,B⟩:=cO;obtain⟨k,_⟩:=C6 o kV;have z:v.cells.size=ds.length:=by have:=k.1;omega
     have E:L.size=f.length:=by have:=H.1;omega
     have y:=r _ _ _ _ hf cT;have g:=PW v.cells.toList J 0 L Φ;simp only[gJ,kj]at g;have w:CellsRel G d e (py f J ds) (v.cells.toList.zipIdx.foldl (λf (c,j)=>f.setIfInBounds (J+j) c) L).toList:=by
      rw[g];have:=JH (c:=J) H k;omega
     obtain⟨b,s,t⟩:=VT u K r l ps _ h _ w Ψ (λj p q C D=>n (j+1) p q Ψ Ψ) M;refine⟨b,?_,t⟩;simp only[Instr.fill,K _ _ _ _ hf cT];rw[Wa (by grind [jQ])];rw[<-s];congr 1;rw[<-Sv];simp
    grind
   grind
  grind
def UB{b c:Type}(f:b->Sem c)(g):∀(l:List b),(∀x∈l,(f x).run P w= .ok (g x) w)->(l.mapM f).run P w= .ok (l.map g) w
 | [],_=>Δ
 |x::l,h=>by
  simp only[H5,Sem.run_bind,h x (Xg ..),Result.andThen_ok,UB f g l (λy a=>h y (Xe _ a)),Sem.run_pure,bo]
def WpI{b c:Type}(f:b->Sem c)(g)(l:Array b)(h:∀x∈l,(f x).run P w= .ok (g x) w):(l.mapM f).run P w= .ok (l.map g) w:=by
 rw[Array.mapM_eq_mapM_toList];simp only[Sem.run_map,UB f g l.toList (λx a=>h x Ψ),Result.andThen_ok];congr 1
 grind
def Ws2(m:bv P T)(v:Rel q F Q R G d c a w){o:Oper}(I:∀Y,o.dst=some Y->Q.Ok Y){t}{parts}(K:o.op= .build t parts)
  {S} {fs} {ps} {j} (J:look T t=some ⟨S,true,.struct fs⟩) (A:pq c parts.toList=some ps) (h:xY T fs ps (qx S)=some j)
  (r:∀f∈fs,∃s,look T f.2=some s/\s.plain=true):
  Done P q F Q R o a w (c.put o.dst (.s (.agg j))):=by
 have n:=m _ _ J;obtain⟨_,b,L,X,_⟩:=n.und;obtain⟨z,M,C⟩:=Dr (w:=w) n;obtain⟨D,qa3⟩:=JX v _ _ A;have B:∀f∈b,∃s,look T f.type=some s/\s.plain=true:=λf h=>r (f.offset,f.type) Θ
 let k:Field->Nat:=λf=>match look T f.type with|some s=>s.size|none=>0
 have y:(b.mapM λf=>(do pure (f.offset,<-sizeOf f.type):Sem (Nat×Nat))).run P w= .ok (b.map λf=>(f.offset,k f)) w:=by
  refine WpI _ (λf=>(f.offset,k f)) b (λf h=>?_);obtain⟨s,Z,_⟩:=B f h;simp[k,(m _ _ Z).sizeOf,Z]
 have N:∀(i e:Nat) (g:TypeId) (s:TE),fs[i]?=some (e,g)->look T g=some s->(b.map λf=>(f.offset,k f))[i]?=some (e,s.size):=λi e g s u Z=>by
  grind
 have O:CellsRel G d c.nx (qx S) z.cells.toList:=by
  rw[C];exact IS S
 obtain⟨l,E,H⟩:=VT m N (λi e g s u Z=>by
   obtain⟨qa2,qa4,U⟩:=r _ (List.mem_of_getElem? u);simp_all) ps (parts.toList.map λp=>(p.1,a.eval p.2)) _ j z.cells O (by simp[D]) (λqa0 p qa1 V W=>by
   grind) h
 refine⟨.value (.agg l),.agg l,w,G,d,?_,.inl rfl,v.put I ⟨l.toList,Δ,H⟩⟩;simp only[execOp,K,Instr.build,Sem.run_bind,M,Result.andThen_ok,Wt L,y];have:(parts.map λx=>match x with|(i,x)=>(i,a.eval x)).toList=parts.toList.map λp=>(p.1,a.eval p.2):=Δ
 rw[this,E];rfl
def Wte(b:bv P T)(n:Rel q F Q R G d c a w){o:Oper}(l:∀m,o.dst=some m->Q.Ok m){t}(i:o.op= .alloc t){te}(e:look T t=some te)(j:te.plain=true):
  Done P q F Q R o a w (c.new o.dst (.box (qx te.ty)) (.s (.one (.ptr c.nx 0)))):=by
 obtain⟨z,k,g⟩:=Dr (w:=w) (b _ _ e);obtain⟨f,h⟩:=Wv9 (t:=t) (c:=z.cells) n l (e:=qx te.ty) (by grind [zo,IS]);refine⟨_,_,_,G,f,?_,.inl rfl,h⟩;simp_all [execOp,Instr.alloc,Sem.run_bind,Result.andThen_ok,newVar,CW,Sem.run_pure]
def WmZ(g:bv P T)(l:Rel q F Q R G d c a w){o:Oper}(i:∀s,o.dst=some s->Q.Ok s){t}(p:o.op= .alloc t){e}{n}{et}(j:look T t=some ⟨e,true,.arr n et⟩)(b:e.data=true)(m:WH n=true):
  Done P q F Q R o a w (c.new o.dst (.arr e (Xp n e.dflt)) (.s (.one (.aptr c.nx)))):=by
 obtain⟨z,v,u⟩:=Dr (w:=w) (g _ _ j);have k:n<=maxLen:=by grind [WH,maxLen]
 have r:z.cells.size=n*e.size:=by
  grind [kj,TE.cells,Lt,rI]
 obtain⟨_,f,h⟩:=Ry (t:=t) (f:=z.cells) l i (e:=e) b (c:=Xp n e.dflt) (i:=n) (g:=rep (ew e) n) Δ k r (DH b n) (by rw[u];exact Sz _) w rfl rfl rfl rfl;refine⟨_,_,_,G,f,?_,.inl rfl,h⟩;simp_all [execOp,Instr.alloc,Sem.run_bind,Result.andThen_ok,newVar,CW,Sem.run_pure]
def WyC(b:Rel q F Q R G d c a w){o:Oper}(l:∀k,o.dst=some k->Q.Ok k){t}{x}(g:o.op= .box t x){v}{m}(i:ev c x=some v)(e:oF v=some m):
  Done P q F Q R o a w (c.new o.dst (.box m) (.s (.one (.ptr c.nx 0)))):=by
 obtain⟨j,_⟩:=C6 (W2 b x _ i) e;obtain⟨f,h⟩:=Wv9 (t:=t) b l j;refine⟨_,_,_,G,f,?_,.inl rfl,h⟩;simp only[execOp,g,Instr.box,Sem.run_bind,Result.andThen_ok,newVar,CW,Sem.run_pure]
def Wuf(f:bv P T)(b:Rel q F Q R G d c a w){o:Oper}(g:∀j,o.dst=some j->Q.Ok j){r}(h:dI T c o.op=some (true,r)):Done P q F Q R o a w (c.put o.dst r):=by
 obtain⟨v,i,e⟩:=WsQ f b h;exact⟨_,v,w,G,d,i,.inl rfl,b.put g e⟩
end
def O6{t a:Ty}{d}{d'}(h:Ht t a d=some d'):∃e:t=a,e▸d=d':=by
 grind [Ht]
def pg{e a:Ty}{d:List e.den}{d':List a.den}(h:nc e a d=some d'):∃b:e=a,b▸d=d':=by
 grind [nc]
def Wv5{A a:Type}(b:A=a)(h:List A=List a)(l)(i):cast h (l.take i)=(cast h l).take i:=by
 grind
def Ww2{A a:Type}(b:A=a)(h:List A=List a)(l)(i):cast h (l.drop i)=(cast h l).drop i:=by
 grind
def Wtq(e)(l)(i):gG e (l.take i)=(gG e l).take i:=Wv5 (pA e).symm _ l i
def Wti(e)(l)(i):gG e (l.drop i)=(gG e l).drop i:=Ww2 (pA e).symm _ l i
section
variable{w0:World}{F:CS}{G Z:GH}{B:Nat->Nu}{a:Nat->CS}{A:ai}{S:Nat}{w:World}
def Lent(Z:GH)(w:World)(a:Nat->CS)(A:ai)(l:List Nat):Prop:=∀b∈l,Live A b->Froz Z w (a b)
def Lent.mono{l m}(h:Lent Z w a A m)(c:∀i∈l,i∈m):Lent Z w a A l:=λd b=>h d (c d b)
def CellsRel.single{c}{a}(h:CellsRel G B S [c] a):∃v,a= [v]/\CellRel G B S c v/\v.oneCell'=true:=by
 obtain⟨d,b⟩:=h
 match a,d with
 | [v],_=>exact⟨v,rfl,b 0 c v rfl rfl⟩
def PM{t}{c}{d}{v}(f:GLe G Z)(h:CellRel G B S c v)(a:xZ t c=some d):Enc Z t d [v]:=by
 unfold xZ at a;split at a
 .obtain⟨e,b⟩:=O6 a;subst e;simp only at b;subst b;exact pj f _ _ _ h
 grind
theorem FromL.mono{m b}(h:∀i∈m,i∈b):CS.le (FromL a A m) (FromL a A b):=λe o ⟨i,c,d⟩=>⟨i,h i c,d⟩
def FromL.one{i}{m}(d:i∈m)(c:Live A i):CS.le (a i) (FromL a A m):=λb o h=>⟨i,d,c,h⟩
def FromL.disj(h:HR w0 F G B a A S w){m b}(f:∀i∈m,i∉b):CS.disj (FromL a A m) (FromL a A b):=λn o ⟨i,g,l,c⟩ ⟨j,k,d,e⟩=>by
 have:=h.inj i j n o l d c e;simp_all
def CS.disj.mono{A B A' B'}(h:CS.disj A B)(a:CS.le A' A)(c:CS.le B' B):CS.disj A' B':=λb o d e=>h b o (a b o d) (c b o e)
def CS.disj.symm{A B}(h:CS.disj A B):CS.disj B A:=λb o a c=>h b o c a
def Rl{l m}{A B}(a:Sep l)(b:Sep m)(c:∀s∈l,CS.le s A)(d:∀s∈m,CS.le s B)(e:CS.disj A B):Sep (l++m):=
 dZ.2 ⟨a,b,λs f t g=>e.mono (c s f) (d t g)⟩
def XW{l1 l2 l3}(g:Sep (l1++l3))(e:Sep l2)(c:∀s∈l2,∀t∈l1++l3,CS.disj s t):Sep (l1++(l2++l3)):=by
 obtain⟨d,f,h⟩:=dZ.1 g;refine dZ.2 ⟨d,dZ.2 ⟨e,f,λs b t a=>c s b t (Xk _ a)⟩,λs b t a=>?_⟩;rcases Xo.1 a with a|a
 .exact(c t a s (Xn _ b)).symm
 simp_all
def J1{r q i n b}(a:i<b){S}(g:CS.le (rng r q (i*n)) S)(h:CS.le (rng r (q+i*n) n) S)(j:CS.le (rng r (q+(i+1)*n) ((b-(i+1))*n)) S):CS.le (rng r q (b*n)) S:=λp o ⟨e,f,m⟩=>by
 have k:(i+1)*n=i*n+n:=lz i n;have l:(b-(i+1))*n+(i+1)*n=b*n:=by rw[<-o5];grind
 by_cases c:o<q+i*n
 .exact g p o ⟨e,f,c⟩
 .by_cases d:o<q+i*n+n
  .exact h p o ⟨e,Ω,d⟩
  .exact j p o ⟨e,Ω,Ω⟩
def WxB{b a n c m}(h:a+n<=c):CS.disj (rng b a n) (rng b c m):=λd o ⟨_,e,f⟩ ⟨_,g,i⟩=>Ω
def WyG{e}{c np}{n}{i}{S S1 S2}(qa1:qE w (WL G w e) e.size c np n i S){d}{vs}{ns}(I:WL G w e d vs ns)
  {b} (hb:np.blk=some b) (J:Mem w b np.off vs) (u:CS.le (rng b np.off e.size) S1) (g:Sep (ns.map Pc.fp)) (k:∀p∈ns,CS.le p.fp S2) (O:CS.disj S S1) (y:CS.disj S S2) (P:CS.disj S1 S2)
  {h} (v:CS.le S h) (l2:CS.le S1 h) (l3:CS.le S2 h):az w (WL G w e) e.size c (n.set i d) h:=by
 obtain⟨h1,W,X,C,Y,r,Z,h7,h8,h9,M,N,A,B,E,R,T,g4,U,z⟩:=qa1;rw[hb]at r;injection r with r;subst r;have D:=ma (λx qa0 q hx=>WV e x qa0 q hx) _ _ _ E;rw[gv,jB Ω]at D;have L:=WV _ _ _ _ I;have e1:(i+1)*e.size=i*e.size+e.size:=lz i e.size;refine⟨Ψ,W,?_⟩;simp only[Y];have F:=z _ (Xg ..);have H:=z _ (Xe _ (Xg ..));have l:∀s∈(A++B).map Pc.fp,CS.le s S:=λs g=>z s (Xe _ (Xe _ g));obtain⟨q1,q2⟩:=Xz.1 U;obtain⟨q3,K⟩:=Xz.1 q2;rw[Z]at J u;refine⟨Ψ,h8,h9,M++(vs++N),A++(ns++B),YI X E I R,?_,Xz.2 ⟨λs a=>?_,?_⟩,λs a=>?_⟩
 .refine T.app (n:=i*e.size) ?_ D;refine J.app (n:=e.size) ?_ L
  grind
 .
  simp only[Xw,Xo]at a;have m:∀s,(CS.disj s (rng b c.off (i*e.size)))->CS.disj s (rng b (c.off+i*e.size) e.size)->CS.disj s (rng b (c.off+(i+1)*e.size) ((c.cap-(i+1))*e.size))->CS.disj (rng b c.off (c.cap*e.size)) s:=λs k1 k2 k3 C o Q V=>
   (J1 (Ω:i<c.cap) (S:=λb o=>¬s b o) (λb o f g=>k1 b o g f) (λb o f g=>k2 b o g f) (λb o f g=>k3 b o g f) C o Q) V
  have xa:∀s∈(A++B).map Pc.fp,CS.disj (rng b c.off (c.cap*e.size)) s:=λs g=>m s (q1 s (Xe _ g)).symm (O.mono (l s g) u) (q3 s g).symm;rcases a with a|a|a
  .simp_all
  .obtain⟨p,j,rfl⟩:=Xy.1 a;exact m _ (y.mono F (k p j)).symm (P.mono u (k p j)).symm (y.mono H (k p j)).symm
  simp_all
 .rw[Xw,Xw];rw[Xw]at K l;refine XW K g (λs a t ht=>?_);obtain⟨p,j,rfl⟩:=Xy.1 a;exact(y.mono (l t ht) (k p j)).symm
 .rcases Xr.1 a with rfl|a
  .exact J1 (Ω:i<c.cap) (λb o f=>v b o (F b o f)) (λb o f=>l2 b o (u b o f)) (λb o f=>v b o (H b o f))
  .simp only[Xw,Xo]at a;rcases a with a|a|a
   .exactλb o f=>v b o (l s Ψ b o f)
   .obtain⟨p,j,rfl⟩:=Xy.1 a
    exactλb o f=>l3 b o (k p j b o f)
   .exactλb o f=>v b o (l s Ψ b o f)
def Nu.part(n:Nu)(b a:Nat):Nu:=⟨n.blk,if n.cap=b then n.off else n.off+b*n.esz,a-b,n.cap-b,n.esz⟩
def ZB{n:Nu}{b a}:(n.part b a).hdr=n.vhdr b a:=by
 unfold Nu.hdr Nu.vhdr Nu.part;cases n.blk<;>rfl
def ZM{e}{W}{j}{S}{V v}(h:az w (WL G w e) e.size W j S)(h1:V<=v)(h2:v<=W.len):az w (WL G w e) e.size (W.part V v) ((j.take v).drop V) S:=by
 obtain⟨Z,l,m⟩:=h;refine⟨by simp[Nu.part];omega,l,?_⟩;show match W.blk with|none=>_|some b=>_
 cases hb:W.blk with
 |none=>simp_all
 |some b=>
  simp only[hb]at m;obtain⟨g4,g5,B,y,O,C,n,D,U⟩:=m;obtain⟨u,X,N,p2,H,I,J,k4⟩:=GK j y O v C;obtain⟨Y,z,q1,P,K,L,M,t⟩:=GK (j.take v) u N V J;have r:=ma (λx c q F=>WV e x c q F) _ _ _ M;rw[gv,gv,jB Ω]at r;have qa3:(W.cap-V)*e.size+V*e.size=W.cap*e.size:=by rw[<-o5];grind
  have qa2:((j.take v).drop V).length=v-V:=Φ
  by_cases p:W.cap=V
  .have h0:(j.take v).drop V= []:=eY Ω;have A:W.cap-V=0:=Ω
   simp only[Nu.part,Wb p,A,H4,gJ];rw[h0]at t|-;refine⟨jI _,jI _,?_,[],[],⟨rfl,rfl⟩,λqa0 qa1 E=>by simp at E,Xz.2 ⟨Δ,List.Pairwise.nil⟩,λs a=>?_⟩
   .obtain⟨R,T,d,f⟩:=B;exact⟨R,T,d,Ω⟩
   .simp at a;subst a
    exactλb o ⟨_,d,f⟩=>Wh f Ω
  .simp only[Nu.part,Wa p,l];have k:CS.le (rng b (W.off+V*e.size) ((W.cap-V)*e.size)) (rng b W.off (W.cap*e.size)):=λg o ⟨Q,d,f⟩=>⟨Q,Ω,Ω⟩;refine⟨Ω,Ω,?_,z,P,t,?_,?_,λs a=>?_⟩
   .grind
   .rw[H,K,o0]at n;exact(n.right r).left
   .obtain⟨d,f⟩:=Xz.1 D;rw[I,L,Xw,Xw]at d f;refine Xz.2 ⟨λs a=>(d s (Xn _ (Xk _ a))).mono k (λ_ _ i=>i),?_⟩
    grind
   .rcases Xr.1 a with rfl|a
    .exactλg o i=>U _ (Xg ..) g o (k g o i)
    simp_all
def Ww9{e}{b}{d}{S}{g a}(h:az w (WL G w e) e.size b d S)(c:g<=a)(f:a<=b.len):az w (WL G w e) e.size (b.part g a) (List.drop g (List.take a d)) S:=ZM h c f
def WtD(B:GLe G Z){e}{g np}{n}{i}{S S1}(h:qE w (WL G w e) e.size g np n i S){d}{Y}(A:Enc Z e.ro d Y)
  {b} (R:np.blk=some b) (C:Mem w b np.off Y) (D:CS.le (rng b np.off e.size) S1) (m:Froz Z w S) (I:Froz Z w S1):sm Z (Enc Z e.ro) ((gG e n).set i d) g.hdr:=by
 obtain⟨N,h2,h3,qa0,O,l,P,h7,Q,h9,c1,c2,U,V,u,y,J,K,g5,o⟩:=h;rw[R]at l;injection l with l;subst l;have H:=ma (λx c q f=>WV e x c q f) _ _ _ u;have T:=ma (λx c q f=>WV e x c q f) _ _ _ y;rw[gv,jB Ω]at H;rw[HZ]at T;have E:=fi _ _ _ A;rw[md]at E;have qa1:(i+1)*e.size=i*e.size+e.size:=lz i e.size;rw[P]at C D;have L:=o _ (Xg ..);have M:=o _ (Xe _ (Xg ..));have z:∀p∈U++V,Froz Z w p.fp:=λp k=>m.mono (o _ (Xe _ (Xe _ (ju k))));have mM:(n.length-(i+1))*e.size<=(g.cap-(i+1))*e.size:=lu _ Ω;have s:=Lm (λx c p k f=>zR B e x c p k f) _ _ _ (λq r=>z q (Xn _ r)) u;have t:=Lm (λx c p k f=>zR B e x c p k f) _ _ _ (λq r=>z q (Xk _ r)) y;rw[Wtq]at s;rw[Wti]at t;have F:(gG e n).length=n.length:=J3 e n;have qa2:(gG e n).set i d=(gG e n).take i++(d::(gG e n).drop (i+1)):=by
  rw[Xfd,Wb Ω]
 unfold Nu.hdr;simp only[O];refine .inr (.inl ⟨b,g.off,g.cap,c1++(Y++c2),by rw[List.length_set,F,N],Θ,Q,?_,λj v a=>?_⟩)
 .rw[qa2];exact I5 _ _ _ _ s ⟨Y,c2,rfl,A,t⟩
 .have s1:sf Z b g.off c1:=J.stored (n:=i*e.size) Ω (m.mono L);have W:sf Z b (g.off+i*e.size) Y:=C.stored (n:=e.size) Ω (I.mono D);have X:sf Z b (g.off+(i+1)*e.size) c2:=K.stored (n:=(g.cap-(i+1))*e.size) Ω (m.mono M);rw[ko]at a;split at a
  .exact s1 j v a
  .rename_i ia;rw[ko]at a;split at a
   .have:=W _ v a
    grind
   .have:=X _ v a
    grind
def Ws7{O}{R}{n}(i:∀x c,R x c->c.length=n){b:Nu}{M:List O}(h:sm G R M b.hdr)(z:M.length=b.len)(u:b.esz=n){P a}(I:P<=a)(J:a<=b.len)(t:b.blk=none->a=0)(w:b.blk≠none->b.len<=b.cap/\b.cap<=maxLen):
  sm G R ((M.take a).drop P) (b.vhdr P a):=by
 unfold Nu.hdr at h;unfold Nu.vhdr;cases hb:b.blk with
 |none=>
  have:=t hb;refine .inl ⟨rfl,eY Φ⟩
 |some N=>
  obtain⟨K,H⟩:=w Θ;simp only[hb]at h;have k:((M.take a).drop P).length=a-P:=Φ
  by_cases s:a-P=0
  .refine .inr (.inr ⟨_,b.cap-P,by rw[s],eY Ω⟩)
  .rcases h with⟨e,_⟩|⟨A,y,d,l,e,E,F,q,r⟩|⟨L,d,e,B⟩
   .cases e
   .injection e with f C m;injection f with f;injection f with o p D;subst o p m;rw[Wa Ω];refine .inr (.inl ⟨N,b.off+P*b.esz,b.cap-P,(l.take (a*n)).drop (P*n),by rw[k],Ω,Ω,GG i _ _ P (GI i _ _ a q),λj v g=>?_⟩);rw[pS,p3]at g;split at g
    .rw[gU,u];exact r _ _ g
    grind
   simp_all
def Leaf(B:Nat->Nu)(t:Ty)(a:List Cell)(c:List Pc):Prop:=∀(d k r:Nat),m7 t d=some k->a[k]?=some (.own r)->∃b,c[d]?=some b/\b.nu=B r
def JL:∀(t) (c k),m7 t c=some k->c<t.owns/\k<t.size
 | .own _,c,k,h=>by
  cases c with
  |zero=>simp[m7]at h;subst h;exact⟨Nat.one_pos,Nat.one_pos⟩
  |succ n=>simp[m7]at h
 | .prod a b,c,k,h=>by
  simp only[m7]at h;split at h
  .obtain⟨d,e⟩:=JL a c k h;exact⟨by show _<a.owns+b.owns;omega,by show _<a.size+b.size;omega⟩
  .obtain⟨j,f,rfl⟩:=im.1 h;obtain⟨d,e⟩:=JL b _ j f;exact⟨by show _<a.owns+b.owns;omega,by show _<a.size+b.size;omega⟩
 | .int _,_,_,h=>by simp[m7]at h
 | .bool,_,_,h=>by simp[m7]at h
 | .slice _,_,_,h=>by simp[m7]at h
def Leaf.none{B}{t}{a}{ns}(h:t.owns=0):Leaf B t a ns:=λb k r d c=>by
 have:=(JL t b k d).1;omega
def TB{B}{e}{c}{ns}(a:∀r,c≠ .own r):Leaf B (.own e) [c] ns:=λf k r b d=>by
 grind
def lS(h:HR w0 F G B a A S w)(D:GLe G Z):∀(qa3) (t) (r) (d) (m l),CellsRel G B S t r->Lent Z w a A l->m.Nodup->
  d9 qa3 t A=some (d,m,l)->∃R,WL Z w qa3 d r R/\Sep (R.map Pc.fp)/\(∀p∈R,CS.le p.fp (FromL a A m))/\(∀i∈m,Live A i)/\(∀i∈l,Live A i)/\Leaf B qa3 t R
 | .prod qa4 b,t,r,d,m,l,C,L,T,f=>by
  simp only[d9]at f;split at f
  .rename_i x m1 l1 qa0 m2 l2 P Q;simp only[Option.some.injEq,Prod.mk.injEq]at f;obtain⟨rfl,rfl,rfl⟩:=f;obtain⟨n1,n2,n3⟩:=List.nodup_append.1 T;obtain⟨q1,U,s1,h4,h5,h5',f1⟩:=lS h D qa4 _ (r.take qa4.size) x m1 l1 (C.take _) (L.mono Ψ) n1 P;obtain⟨q2,h6,s2,h7,h8,qN,f2⟩:=lS h D b _ (r.drop qa4.size) qa0 m2 l2 (C.drop _) (L.mono Ψ) n2 Q;refine⟨q1++q2,⟨_,_,q1,q2,(Xdp qa4.size r).symm,rfl,U,h6⟩,?_,?_,?_,?_,?_⟩
   .rw[Xw];refine Rl s1 s2 (A:=FromL a A m1) (B:=FromL a A m2) (λs hs=>?_) (λs hs=>?_) (FromL.disj h (λi E X=>n3 i E i X rfl))
    .grind
    grind
   .intro p O b o K;rcases Xo.1 O with O|O
    .exact FromL.mono (λi E=>Xn _ E) b o (h4 p O b o K)
    .exact FromL.mono (λi E=>Xk _ E) b o (h7 p O b o K)
   .grind
   .grind
   .intro lf k qa2 k1 k2;have hq:=pi _ _ _ _ U;simp only[m7]at k1;split at k1
    .rename_i ab;obtain⟨_,hk⟩:=JL qa4 lf k k1;obtain⟨pc,k3,k4⟩:=f1 lf k qa2 k1 Ψ
     grind
    .obtain⟨j,X,rfl⟩:=im.1 k1;obtain⟨pc,k3,k4⟩:=f2 _ j qa2 X Ψ
     grind
  grind
 | .own e,t,r,d,m,l,C,L,T,f=>by
  simp only[d9]at f;split at f
  .rename_i id;obtain⟨v,rfl,⟨_,q⟩,_⟩:=C.single;subst q;have pT:∀{qa1:CS},Leaf B (.own e) [.own id] [⟨B id,qa1⟩]:=λ{qa1} lf k qa2 k1 k2=>by
    cases lf with
    |zero=>
     simp[m7]at k1;simp_all
    |succ n=>simp[m7]at k1
   obtain⟨⟨ys,m'⟩,g,f⟩:=im.1 f;simp only[Prod.mk.injEq]at f;obtain⟨rfl,rfl,rfl⟩:=f;unfold Tu at g;split at g
   .rename_i e' y u;obtain⟨qa5,I,g⟩:=im.1 g;have g:=Prod.mk.inj g;obtain⟨rfl,rfl⟩:=g;obtain⟨J,z⟩:=pg I;subst J;simp only at z;subst z;have N:Live A id:=⟨_,u,Δ⟩;have H:az w (WL G w e') e'.size (B id) y (a id):=h.ob _ _ u;refine⟨[⟨B id,a id⟩],⟨_,rfl,rfl,Db D (Same.refl _ w) (λ_ _ K=>K) H⟩,ye _ _,?_,?_,Δ,pT⟩
    .simp_all [FromL.one]
    simp_all
   .rename_i e' y i p u;split at g
    .rename_i qa5 dx I Y;split at g
     .rename_i d' m'' pR;simp only[Option.some.injEq,Prod.mk.injEq]at g;obtain⟨rfl,rfl⟩:=g;obtain⟨J,z⟩:=pg I;subst J;simp only at z;subst z;obtain⟨n1,n2⟩:=dH.1 T;obtain⟨n3,n4⟩:=dH.1 n2;have N:Live A id:=⟨_,u,Δ⟩;have km:Live A p:=⟨_,Y,Δ⟩;obtain⟨pQ,M⟩:p<S/\qE w (WL G w e') e'.size (B id) (B p) y i (a id):=h.ob _ _ u;obtain⟨b,us,hb,ae,aA,V,W⟩:gy G B S w p (a p) (.box dx):=h.ob _ _ Y;obtain⟨R,t1,t2,t3,t4,_,_⟩:=lS h D e' dx us d' m'' [] V (λi E=>by simp at E) n4 pR;have eD:=WV _ _ _ _ t1;have tW:=XE D (Same.refl _ w) (λ_ _ K=>K) M;rw[<-V.1,eD]at W;have ar:id≠p:=λe=>n1 Ψ;refine⟨[⟨B id,FromL a A (id::p::m'')⟩],⟨_,rfl,rfl,WyG tW t1 hb aA W t2 t3 ?_ ?_ ?_ ?_ ?_ ?_⟩,ye _ _,?_,?_,Δ,pT⟩
      .exactλb o P Q=>ar (h.inj id p b o N km P Q)
      .exactλb o P ⟨j,X,Q,U⟩=>by
        have:=h.inj id j b o N Q P U;simp_all
      .exactλb o P ⟨j,X,Q,U⟩=>by
        have:=h.inj p j b o km Q P U;simp_all
      .simp_all [FromL.one]
      .simp_all [FromL.one]
      .grind [FromL.mono,Xe]
      .intro p O;simp at O;subst O;exactλ_ _ K=>K
      simp_all
     grind
    grind
   grind
  .rename_i id lo E;obtain⟨v,rfl,⟨_,g1,g2,g3,q⟩,_⟩:=C.single;subst q;split at f
   .rename_i e' y u;obtain⟨qa5,I,f⟩:=im.1 f;have f:=And.intro (Prod.mk.inj f).1 (Prod.mk.inj (Prod.mk.inj f).2);obtain⟨rfl,rfl,rfl⟩:=f;obtain⟨J,z⟩:=pg I;subst J;simp only at z;subst z;have N:Live A id:=⟨_,u,Δ⟩;have H:az w (WL G w e') e'.size (B id) y (a id):=h.ob _ _ u;refine⟨[⟨(B id).part lo E,a id⟩],⟨_,rfl,by rw[ZB],Ww9 (Db D (Same.refl _ w) (λ_ _ K=>K) H) g1 g2⟩,ye _ _,?_,?_,Δ,TB Ψ⟩
    .simp_all [FromL.one]
    simp_all
   grind
  .simp only[Option.some.injEq,Prod.mk.injEq]at f;obtain⟨rfl,rfl,rfl⟩:=f;obtain⟨v,rfl,q,_⟩:=C.single;simp only[CellRel]at q;subst q;exact⟨[⟨⟨none,0,0,0,e.size⟩,λ_ _=>False⟩],⟨_,rfl,rfl,rfl,rfl,rfl⟩,ye _ _,λp O b o K=>Ψ,Δ,Δ,TB Ψ⟩
  grind
 | .slice e,t,r,d,m,l,C,L,T,f=>by
  simp only[d9]at f;split at f
  .rename_i id;obtain⟨v,rfl,⟨_,q⟩,_⟩:=C.single;subst q;obtain⟨⟨ys,l'⟩,g,f⟩:=im.1 f;simp only[Prod.mk.injEq]at f;obtain⟨rfl,rfl,rfl⟩:=f;unfold WzI at g;split at g
   .rename_i e' y u;obtain⟨qa5,I,g⟩:=im.1 g;have g:=Prod.mk.inj g;obtain⟨rfl,rfl⟩:=g;obtain⟨J,z⟩:=pg I;subst J;simp only at z;subst z;have N:Live A id:=⟨_,u,Δ⟩;have H:az w (WL G w e') e'.size (B id) y (a id):=h.ob _ _ u;refine⟨[],⟨rfl,_,rfl,PA D (L id Δ N) H⟩,List.Pairwise.nil,Δ,Δ,?_,Leaf.none rfl⟩;simp_all
   .rename_i e' y i p u;split at g
    .rename_i qa5 dx I Y;split at g
     .rename_i d' l'' pR;simp only[Option.some.injEq,Prod.mk.injEq]at g;obtain⟨rfl,rfl⟩:=g;obtain⟨J,z⟩:=pg I;subst J;simp only at z;subst z;have N:Live A id:=⟨_,u,Δ⟩;have km:Live A p:=⟨_,Y,Δ⟩;obtain⟨pQ,M⟩:p<S/\qE w (WL G w e') e'.size (B id) (B p) y i (a id):=h.ob _ _ u;obtain⟨b,us,hb,ae,aA,V,W⟩:gy G B S w p (a p) (.box dx):=h.ob _ _ Y;obtain⟨R,t1,t2,t3,t4,t5,_⟩:=lS h D e'.ro dx us d' [] l'' V (L.mono (λi E=>Xe _ (Xe _ E))) Ec pR;obtain⟨t6,_⟩:=(rG e'.ro d' us R (Rs e')).1 t1;have eD:=fi _ _ _ t6;rw[md]at eD;rw[<-V.1,eD]at W;refine⟨[],⟨rfl,_,rfl,WtD D M t6 hb aA W (L id Δ N) (L p Δ km)⟩,List.Pairwise.nil,Δ,Δ,?_,Leaf.none rfl⟩;simp_all
     grind
    grind
   grind
  .rename_i id lo E;obtain⟨v,rfl,⟨_,g1,g2,g3,q⟩,_⟩:=C.single;subst q;split at f
   .rename_i e' y u;obtain⟨qa5,I,f⟩:=im.1 f;have f:=And.intro (Prod.mk.inj f).1 (Prod.mk.inj (Prod.mk.inj f).2);obtain⟨rfl,rfl,rfl⟩:=f;obtain⟨J,z⟩:=pg I;subst J;simp only at z;subst z;have N:Live A id:=⟨_,u,Δ⟩;have H:az w (WL G w e') e'.size (B id) y (a id):=h.ob _ _ u;have jp:=PA D (L id Δ N) H;refine⟨[],⟨rfl,_,rfl,?_⟩,List.Pairwise.nil,Δ,Δ,?_,Leaf.none rfl⟩
    .refine Ws7 (n:=e'.size) (λx c C=>by grind [md,fi]) jp (by rw[J3];exact H.1) H.2.1 g1 g2 g3 (λhb=>?_);cases xb:(B id).blk with
     |none=>simp_all
     |some b=>
      have:=H.2.2;simp only[xb]at this;exact⟨by rw[<-H.1];omega,this.2.1⟩
    simp_all
   grind
  .simp only[Option.some.injEq,Prod.mk.injEq]at f;obtain⟨rfl,rfl,rfl⟩:=f;obtain⟨v,rfl,q,_⟩:=C.single;simp only[CellRel]at q;subst q;exact⟨[],⟨rfl,_,rfl,.inl ⟨rfl,rfl⟩⟩,List.Pairwise.nil,Δ,Δ,Δ,Leaf.none rfl⟩
  .rename_i c _ _ _;cases jC:xZ (.slice e) c with
   |none=>simp_all
   |some x=>
    simp only[jC,vp,Option.some.injEq,Prod.mk.injEq]at f;obtain⟨rfl,rfl,rfl⟩:=f;obtain⟨v,rfl,q,_⟩:=C.single;exact⟨[],⟨rfl,PM D q jC⟩,List.Pairwise.nil,Δ,Δ,Δ,Leaf.none rfl⟩
  grind
 | .int k,t,r,d,m,l,C,L,T,f=>by
  simp only[d9]at f;split at f
  .rename_i c;cases jC:xZ (.int k) c with
   |none=>simp_all
   |some x=>
    simp only[jC,vp,Option.some.injEq,Prod.mk.injEq]at f;obtain⟨rfl,rfl,rfl⟩:=f;obtain⟨v,rfl,q,_⟩:=C.single;exact⟨[],⟨rfl,PM D q jC⟩,List.Pairwise.nil,Δ,Δ,Δ,Leaf.none rfl⟩
  grind
 | .bool,t,r,d,m,l,C,L,T,f=>by
  simp only[d9]at f;split at f
  .rename_i c;cases jC:xZ .bool c with
   |none=>simp_all
   |some x=>
    simp only[jC,vp,Option.some.injEq,Prod.mk.injEq]at f;obtain⟨rfl,rfl,rfl⟩:=f;obtain⟨v,rfl,q,_⟩:=C.single;exact⟨[],⟨rfl,PM D q jC⟩,List.Pairwise.nil,Δ,Δ,Δ,Leaf.none rfl⟩
  grind
def Yt(h:HRel w0 F G B A S w){t}{m}{l}{d}(b:CellsRel G B S m l)(g:t.data=true)(c:d9 t m A=some (d,[],[])):Enc G t d l:=by
 obtain⟨a,h⟩:=h;obtain⟨j,f,_⟩:=lS (Z:=G) h (λ_ _ _ e=>e) t m l d [] [] b (λi k=>by simp at k) Ec c
 grind [rG]
end
section
variable{h:World}{F:CS}{k:Slots}{q G i:GH}{g f:Nat->Nu}{e:Nat->CS}{b o:ai}{c m:Nat}{d j:St}{a:Act}{w l:World}{P:Program}{T:Tab}{n:Ctx}
def Pi(i):∀(l),gc i l=true↔i∈l
 | []=>by simp[gc]
 |j::l=>by
  simp only[gc,Bool.or_eq_true,Pi i l,Xr];simp_all
open Classical in
noncomputable def pD(G:GH)(w:World)(S:CS):GH:=λb o=>if S b o then w.cell? ⟨b,o,none⟩else G b o
theorem WvV{S}{b o}(h:S b o):pD G w S b o=w.cell? ⟨b,o,none⟩:=by unfold pD;rw[Wb h]
theorem wS{S}{b o}(h:¬S b o):pD G w S b o=G b o:=by unfold pD;rw[Wa h]
def PO(S):Froz (pD G w S) w S:=λb o v a c=>by grind [WvV]
def HR.addG_le(m:HR h F G g e b c w)(l):GLe G (pD G w (FromL e b l)):=λf o v a=>by
 by_cases k:FromL e b l f o
 .obtain⟨i,_,j,d⟩:=k;rw[m.gf i f o j d]at a;cases a
 grind [wS]
def HR.addG_w(i:HR h F G g e b c w)(l):∀d o v,pD G w (FromL e b l) d o=some v->w.cell? ⟨d,o,none⟩=some v:=λd o v a=>by
 by_cases f:FromL e b l d o
 .grind [WvV]
 .rw[wS f]at a;exact i.g d o v a
def HRel.freezeL(H:HRel h F G g b c w)(J:GExt h.heap.size F q G)(l):∃B,GLe G B/\HRel h F B g (Sx.kill b l) c w/\GExt h.heap.size F q B/\
  ∀p∈l,∀(D) (C),look b p=some (.arr D C)->sm B (Enc B D.ro) (gG D C) (g p).hdr:=by
 obtain⟨e,H⟩:=H;have f:=H.addG_le l;refine⟨pD G w (FromL e b l),f,⟨e,?_⟩,⟨λA o v d=>f A o v (J.le A o v d),λA o v d=>?_⟩,λp x D C s=>?_⟩
 .exact{
   g:=H.addG_w l
   ob:=λj ob a=>by
    by_cases n:ob= .dead
    .subst n;trivial
    .obtain⟨a,r⟩:=Gx l j ob a n;exact Gw f (Same.refl _ w) (λ_ _ y=>y) (λ_ _=>rfl) (Xj _) (H.lt j ⟨ob,a,n⟩) ob (H.ob j ob a)
   gf:=λj A o a t=>by
    obtain⟨a,r⟩:=C4 a;rw[wS (λ⟨i,E,k,m⟩=>r (by rw[H.inj j i A o a k t m];exact E))];exact H.gf j A o a t
   inj:=λj z A o a u=>H.inj j z A o (C4 a).1 (C4 u).1
   own:=λj A o a=>H.own j A o (C4 a).1
   lt:=λj a=>H.lt j (C4 a).1
   bl:=λj A o a=>H.bl j A o (C4 a).1
   le:=H.le}
 .by_cases I:FromL e b l A o
  .obtain⟨i,_,k,m⟩:=I;exact .inr (H.own i A o k m)
  .rw[wS I]at d;exact J.new A o v d
 .exact PA f ((PO _).mono (FromL.one x ⟨_,s,Δ⟩)) (H.ob _ _ s)
structure Frz(h:World)(F:CS)(k:Slots)(q G:GH)(g:Nat->Nu)(d:St)(l:List Nat)(a:Act)(w:World)(G1:GH):Prop where
 le:GLe G G1
 rel:Rel h F k q G1 g {env:=d.env,objs:=kill d.objs l,nx:=d.nx} a w
 sl:∀id∈l,∀(e:Ty) (b:List e.den),look d.objs id=some (.arr e b)->sm G1 (Enc G1 e.ro) (gG e b) (g id).hdr
def Rel.frz(i:Rel h F k q G g d a w)(l):∃G1,Frz h F k q G g d l a w G1:=by
 obtain⟨G1,b,c,f,e⟩:=i.h.freezeL i.gx l;exact⟨G1,b,i.on b (λ_ _=>rfl) (Xj _) c f,e⟩
def Frz.cell{l}{G1}(o:Frz h F k q G g d l a w G1):∀(c) (v),CellRel G g d.nx c v->CellRel G1 g d.nx (Lj d.objs l c) v:=by
 have b:=λc v (n:CellRel G g d.nx c v)=>CellRel.mono (Z:=G1) (x:=g) (A:=d.nx) o.le (λ_ _=>rfl) (Xj _) c v n;intro c v n;cases c with
 |own id=>
  simp only[Lj];cases he:gc id l with
  |false=>simp_all
  |true=>
   simp only[We];have j:=(Pi id l).1 he;split
   .rename_i e p ho;obtain⟨_,u⟩:=n;rw[u];exact⟨_,rfl,o.sl id j e p ho⟩
   .trivial
 |vw id i r=>exact b _ v n
 |val t m=>exact b _ v n
 |nils=>exact b _ v n
 |aptr id=>exact b _ v n
 |ptr id y=>exact b _ v n
 |eptr id s y=>exact b _ v n
 |rptr t m y=>exact b _ v n
 |clos f caps=>exact b _ v n
 |junk=>trivial
def Frz.val{l}{G1}(r:Frz h F k q G g d l a w G1):∀(x) (v),AValRel G g d.nx x v->AValRel G1 g d.nx (xU d.objs l x) v
 | .s (.one p),v,hx=>⟨r.cell p v hx.1,hx.2⟩
 | .s (.agg e),v,⟨m,s,i,b⟩=>by
  refine⟨m,s,by simp[i],λj p u t o=>?_⟩;rw[hV]at t;obtain⟨n,f,rfl⟩:=im.1 t;exact⟨r.cell n u (b j n u f o).1,(b j n u f o).2⟩
 | .tup c,v,hx=>AValRel.mono r.le (λ_ _=>rfl) (Xj _) (.tup c) v hx
end
def JA:∀l:List Nat,iE l=true↔l.Nodup
 | []=>by simp[iE]
 |i::l=>by
  have h:=Pi i l;simp only[iE,Xl,Bool.not_eq_true',dH,JA l]
  grind
def Ww6{a}(l)(d:a):∀(n i),i<n*l.length->(rep l n)[i]?=some (l.getD (i%l.length) d)
 |0,i,h=>by simp at h
 |n+1,i,h=>by
  rw[rep];by_cases b:i<l.length
  .grind [Xcp,Nat.mod_eq_of_lt,Xc]
  .have ia:l.length<=i:=Ω
   rw[HL ia,Ww6 l d n (i-l.length) Θ];rw[Nat.mod_eq_sub_mod ia]
def GT(z:Array Value)(n):((nr (n*z.size)).map λi=>z[i%z.size]!).toList=rep z.toList n:=by
 apply List.ext_getElem?;intro i;by_cases a:i<n*z.size
 .rw[Ww6 z.toList default n i Ω]
  grind
 grind [List.getElem?_eq_none,Lt]
section
variable{w0:World}{F:CS}{nt:Slots}{G0 G:GH}{Q:Nat->Nu}{b:ai}{c:Nat}{k an:St}{a:Act}{w d:World}{P:Program}{T:Tab}
def Vl(n:HRel w0 F G Q b c w){e}(m:e.data=true):
  ∀(l) (ps) (L J) (d),da (Enc G e) L d.toList->ps.length=l.length->
   (∀(j:Nat) (p) (q),l[j]?=some p->ps[j]?=some q->p.1=q.1/\AValRel G Q c p.2 q.2)->DW e b l L=some J->
   ∃f,Instr.fill (λi=>some (i*e.size,e.size)) d ps=some f/\da (Enc G e) J f.toList/\J.length=L.length
 | [],[],L,J,d,a,_,_,h=>by simp[DW]at h;subst h;exact⟨d,rfl,a,rfl⟩
 |(i,x)::l,[],_,_,_,_,g,_,_=>by simp at g
 | [],_::_,_,_,_,_,g,_,_=>by simp at g
 |(i,x)::l,(i',v)::ps,L,J,d,a,g,r,h=>by
  obtain⟨o,s⟩:=r 0 _ _ rfl rfl;simp only at o s;subst o;simp only[DW]at h;split at h
  .rename_i ds kV;split at h
   .rename_i M hf;split at h
    .rename_i ab;obtain⟨y,_⟩:=C6 s kV;have t:=Yt n y m hf;have u:v.cells.toList.length=e.size:=fi _ _ _ t;have I:d.toList.length=L.length*e.size:=zO (λx K a=>fi e x K a) _ _ a;have C:i*e.size+e.size<=L.length*e.size:=by rw[<-lz];exact lu _ ab
     have k:=PW v.cells.toList (i*e.size) 0 d Ψ;simp only[gJ]at k;have B:=QP (λx K a=>fi e x K a) L d.toList i M v.cells.toList a ab t;obtain⟨f,z,A,D⟩:=Vl n m l ps (L.set i M) J _ (by rw[k,u];exact B) Ψ (λj p q E H=>r (j+1) p q Ψ Ψ) h;refine⟨f,?_,A,Θ⟩;simp only[Instr.fill];rw[Wa Ψ];rw[<-z];congr 1;rw[<-Sv];simp
    grind
   grind
  grind
def WkB(g:bv P T)(B:Rel w0 F nt G0 G Q k a w){o:Oper}(M:∀d,o.dst=some d->nt.Ok d){t}{n}{parts}(qa0:o.op= .buildSlice t n parts)
  {ty} {et} {te} {ps} {e} (O:look T t=some ⟨ty,false,.slice et⟩) (m:look T et=some te)
  (K:ps.length=parts.toList.length) (qa1:∀(j:Nat) (p) (q),ps[j]?=some p->parts.toList[j]?=some q->p.1=q.1/\AValRel G Q k.nx p.2 (a.eval q.2))
  (N:DW te.ty k.objs ps (Xp n te.ty.dflt)=some e) (E:n*te.ty.size<=16777216) (r:te.ty.data=true) (s:te.plain=true):
  Done P w0 F nt G0 o a w (k.new o.dst (.arr te.ty e) (.s (.one (.own k.nx)))):=by
 have R:=(g _ _ O).und.2.1;obtain⟨z,hz,f⟩:=Dr (w:=w) (g _ _ m);rw[zo s]at f;have S:z.cells.size=te.ty.size:=by rw[<-kj,f,rI]
 have J:=GT z.cells n;rw[S,f]at J;obtain⟨b,v,y,X⟩:=Vl B.h r ps (parts.toList.map λp=>(p.1,a.eval p.2)) _ e ((nr (n*te.ty.size)).map λi=>z.cells[i%te.ty.size]!) (by grind [DH]) (by simp[K]) (λj p q s Z=>by
   grind) N
 have C:e.length=n:=Θ
 have D:=qh te.ty;have Y:n<=16777216:=mA (Nat.le_mul_of_pos_right n D) E;have V:b.size=n*te.ty.size:=by
  rw[<-kj,zO (λx c L=>fi te.ty x c L) _ _ y,C]
 obtain⟨⟨W,A⟩,_⟩:=Ry (t:=et) (f:=b) B M (e:=te.ty) r (c:=e) (i:=n) (g:=b.toList) Ω (by unfold maxLen;omega) V y (Sz _) w rfl rfl rfl rfl;rw[C]at A;refine⟨_,_,_,G,W,?_,.inl rfl,A⟩;have U:(parts.map λx=>match x with|(i,x)=>(i,a.eval x)).toList=parts.toList.map λp=>(p.1,a.eval p.2):=Δ
 simp only[execOp,qa0,Instr.buildSlice,Sem.run_bind,Wt R,Result.andThen_ok,(g _ _ m).sizeOf,jQ s,Wa (show¬n*te.ty.size>2^24 by omega),Sem.run_pure];by_cases u:n*te.ty.size=0
 .have qP:n=0:=by rcases Nat.mul_eq_zero.1 u with h|h<;>omega
  have H:((nr (n*te.ty.size)).map λi=>z.cells[i%te.ty.size]!)= #[]:=Θ
  rw[H]at v;have I:∀l:Array Value,((nr (n*te.ty.size)).map λi=>l[i%l.size]!)= #[]:=λl=>Θ
  simp only[Wb u,Sem.run_pure,Result.andThen_ok,I,U,v,CW];rfl
 simp_all [Wa,Sem.run_bind,Result.andThen_ok,Sem.run_pure,CW]
def Wlm(j:bv P T)(C:Rel w0 F nt G0 G Q k a w){o:Oper}(A:∀W,o.dst=some W->nt.Ok W){t}{n c}(O:o.op= .makeSlice t n c)
  {e} {et} {te} {Y d} {s k'} (B:look T t=some ⟨e,false,.slice et⟩) (v:look T et=some te) (N:a.eval n= .int s Y) (K:a.eval c= .int k' d)
  (E:0<=Y) (H:Y<=d) (y:WH d.toNat=true) (f:te.ty.data=true) (m:te.plain=true):
  Done P w0 F nt G0 o a w (k.new o.dst (.arr te.ty (Xp Y.toNat te.ty.dflt)) (.s (.one (.own k.nx)))):=by
 have V:=(j _ _ B).und.2.1;obtain⟨i,z,L,r,R,b,S⟩:=(j _ _ v).info;rw[zo m]at b;rw[jQ m]at r;have u:z.cells.size=te.ty.size:=by rw[<-kj,b,rI]
 have D:d.toNat<=1073741824:=by simpa [WH]using y
 have x:=GT z.cells d.toNat;rw[u,b]at x;have U:rep (ew te.ty) Y.toNat<+:rep (ew te.ty) d.toNat:=by
  have:∀(l:List Value) (p q:Nat),rep l p<+:rep l (p+q):=λl p q=>by
   induction p with
   |zero=>exact Xig
   |succ p ih=>grind [Nat.succ_add,rep,Xfu]
  have h:=this (ew te.ty) Y.toNat (d.toNat-Y.toNat)
  rwa [show Y.toNat+(d.toNat-Y.toNat)=d.toNat by omega]at h
 have J:(i.bytes:Int)*d<=281474976710656:=by
  have I:(i.bytes:Int)*d<=4096*d:=Xfm Ω Ω;omega
 have M:madeCells z.cells (d.toNat*i.size)=(nr (d.toNat*te.ty.size)).map λi=>z.cells[i%te.ty.size]!:=by
  rw[r,<-u];rfl
 obtain⟨⟨X,g⟩,_⟩:=Ry (t:=et) (f:=(nr (d.toNat*te.ty.size)).map λi=>z.cells[i%te.ty.size]!) C A (e:=te.ty) f (c:=Xp Y.toNat te.ty.dflt) (i:=d.toNat) (g:=rep (ew te.ty) Y.toNat) Φ (by unfold maxLen;omega)
  Δ (DH f _) Ψ w rfl rfl rfl rfl
 rw[yh]at g;refine⟨_,_,_,G,X,?_,.inl rfl,g⟩
 grind [execOp,Sem.run_bind,run_make,Result.andThen_ok,Sem.run_pure]
def WkC(r:bv P T)(I:Rel w0 F nt G0 G Q k a w){o:Oper}(E:∀d,o.dst=some d->nt.Ok d){t}{n c}(W:o.op= .makeSlice t n c)
  {ty} {et} {te} {e} {N L} {s k'} (H:look T t=some ⟨ty,false,.slice et⟩) (A:look T et=some te) (V:a.eval n= .int s N) (qa0:a.eval c= .int k' L)
  (qa2:0<=N) (M:N<=L) (D:WH L.toNat=true) (u:e.ro=te.ty) (g:te.plain=true):
  Done P w0 F nt G0 o a w (k.new o.dst (.arr e (Xp N.toNat e.dflt)) (.s (.one (.own k.nx)))):=by
 have X:=(r _ _ H).und.2.1;obtain⟨i,z,S,v,Y,f,Z⟩:=(r _ _ A).info;rw[zo g]at f;rw[jQ g]at v;have J:te.ty.size=e.size:=by rw[<-u,md]
 have x:z.cells.size=te.ty.size:=by rw[<-kj,f,rI]
 have qa1:L.toNat<=1073741824:=by simpa [WH]using D
 have B:=GT z.cells L.toNat;rw[x,f]at B;have xc:rep (ew te.ty) N.toNat<+:rep (ew te.ty) L.toNat:=by
  have:∀(l:List Value) (p q:Nat),rep l p<+:rep l (p+q):=λl p q=>by
   induction p with
   |zero=>exact Xig
   |succ p ih=>grind [Nat.succ_add,rep,Xfu]
  have h:=this (ew te.ty) N.toNat (L.toNat-N.toNat)
  rwa [show N.toNat+(L.toNat-N.toNat)=L.toNat by omega]at h
 have O:(i.bytes:Int)*L<=281474976710656:=by
  have qa3:(i.bytes:Int)*L<=4096*L:=Xfm Ω Ω;omega
 have U:madeCells z.cells (L.toNat*i.size)=(nr (L.toNat*te.ty.size)).map λi=>z.cells[i%te.ty.size]!:=by
  rw[v,<-x];rfl
 obtain⟨⟨K,m⟩,_⟩:=K4 (t:=et) (W:=(nr (L.toNat*te.ty.size)).map λi=>z.cells[i%te.ty.size]!) I E [] (e:=e) (V:=Xp N.toNat e.dflt) (K:=L.toNat) (X:=rep (ew te.ty) N.toNat) Φ (by unfold maxLen;omega)
  (by simp[J]) (λφ _=>by
   obtain⟨y,j,C⟩:=WzM (G:=G) (w:=w) e N.toNat;rw[u]at j;exact⟨y,j,Ys y C,λp g b o R=>Ψ⟩) Ψ w rfl rfl rfl rfl
 rw[yh]at m;refine⟨_,_,_,G,K,?_,.inl rfl,m⟩
 grind [execOp,Sem.run_bind,run_make,Result.andThen_ok,Sem.run_pure]
def Woo(h:bv P T)(A:Rel w0 F nt G0 G Q k a w){o:Oper}(L:∀d,o.dst=some d->nt.Ok d){t}{parts}{x}(U:o.op= .buildSlice t 1 parts)(D:parts.toList= [(0,x)])
  {ty} {et} {te} {e} {xv} {ds} {d} {m} (R:look T t=some ⟨ty,false,.slice et⟩) (r:look T et=some te) (X:AValRel G Q k.nx xv (a.eval x)) (kV:oF xv=some ds)
  (N:d9 e ds k.objs=some (d,m,[])) (S:m.Nodup) (M:e.ro=te.ty) (y:te.plain=true) (dy:te.ty.size<=16777216):
  Done P w0 F nt G0 o a w (({env:=k.env,objs:=(k.nx,.arr e [d])::kill k.objs m,nx:=k.nx+1}:St).put o.dst (.s (.one (.own k.nx)))):=by
 have W:=(h _ _ R).und.2.1;obtain⟨z,Y,f⟩:=Dr (w:=w) (h _ _ r);rw[zo y]at f;have kX:te.ty.size=e.size:=by rw[<-M,md]
 have B:z.cells.size=te.ty.size:=by rw[<-kj,f,rI]
 have v:=GT z.cells 1;rw[B,f]at v;simp only[rep,rb,Nat.one_mul]at v;obtain⟨I,h2⟩:=C6 X kV;have u:∀l,HR w0 F G Q l k.objs k.nx w->∃b,dU (WL G w e) [d] (a.eval x).cells.toList b/\Sep (b.map Pc.fp)/\∀p∈b,CS.le p.fp (FromL l k.objs m):=λl n=>by
  obtain⟨ns,g,E,H,_⟩:=lS (Z:=G) n (λ_ _ _ O=>O) e ds _ d m [] I (λi s=>by simp at s) S N;exact⟨ns,Wsm.2 g,E,H⟩
 have C:(a.eval x).cells.size=e.size:=by
  obtain⟨l,n⟩:=A.h;obtain⟨b,g,_⟩:=u l n;have:=WV _ _ _ _ (Wsm.1 g);simpa using this
 have Bw:((nr te.ty.size).map λi=>z.cells[i%te.ty.size]!).size=te.ty.size:=Δ
 have Z:=PW (a.eval x).cells.toList 0 0 ((nr te.ty.size).map λi=>z.cells[i%te.ty.size]!) Φ;have jH:((nr te.ty.size).map λi=>z.cells[i%te.ty.size]!).toList.length=e.size:=by simp[kX]
 have q:((a.eval x).cells.toList.zipIdx.foldl (λcs (c,j)=>cs.setIfInBounds (0+j) c) ((nr te.ty.size).map λi=>z.cells[i%te.ty.size]!)).toList=(a.eval x).cells.toList:=by
  rw[Z];simp only[Nat.zero_add,List.take_zero,List.nil_append];rw[List.drop_eq_nil_of_le (by rw[jH];simp;omega),rb]
 generalize K:(a.eval x).cells.toList.zipIdx.foldl (λcs (c,j)=>cs.setIfInBounds (0+j) c) ((nr te.ty.size).map λi=>z.cells[i%te.ty.size]!)=V at q;have qa0:V.size=1*e.size:=by rw[<-kj,q];simp[C]
 obtain⟨⟨ν',J⟩,_⟩:=K4 (t:=et) (W:=V) A L m (e:=e) (V:=[d]) (K:=1) (X:=(a.eval x).cells.toList) Δ (by unfold maxLen;omega) qa0 u (by rw[q];exact Sz _) w rfl rfl rfl rfl;refine⟨_,_,_,G,ν',?_,.inl rfl,J⟩;have tX:Instr.fill (λi=>some (i*te.ty.size,te.ty.size)) ((nr te.ty.size).map λi=>z.cells[i%te.ty.size]!) [(0,a.eval x)]=some V:=by
  simp only[Instr.fill,H4];rw[Wa Φ,<-K];congr 1;rw[<-Sv];simp
 have kn:(parts.map λx=>match x with|(i,x)=>(i,a.eval x)).toList= [(0,a.eval x)]:=by simp[D]
 have dg:=qh te.ty;simp only[execOp,U,Instr.buildSlice,Sem.run_bind,Wt W,Result.andThen_ok,(h _ _ r).sizeOf,jQ y,Nat.one_mul,Wa (show¬te.ty.size>2^24 by omega),Wa (show¬te.ty.size=0 by omega),Sem.run_pure,Y,B,kn,tX,CW];rfl
def OX{t}{te}(a:TEok P T t te){b c}{v}{cur}{TT}(f:w.heap[b]?=some (.cells cur TT (0,0)))(d:te.size=v.cells.size)(g:c+v.cells.size<=cur.size)(e:∀u∈v.cells.toList,u.oneCell'=true):
  (storeVar t ⟨b,c,none⟩ v).run P w= .ok () (w.setRow b (cur.toList.take c++v.cells.toList++cur.toList.drop (c+v.cells.size)).toArray):=by
 have h:=run_storeCells_at P b c TT v.cells.toList 0 cur w f (by simpa using g) e;simp only[gJ,kj]at h;simp[storeVar,a.sizeOf,d,h]
def Gl{b k}{d}{T}{e}(h:w.heap[b]?=some (Obj.cells d T (0,0)))(g:k+e.length<=d.size):
  WLe (rng b k e.length) w (w.setRow b (d.toList.take k++e++d.toList.drop (k+e.length)).toArray)/\Mem (w.setRow b (d.toList.take k++e++d.toList.drop (k+e.length)).toArray) b k e:=by
 have c:(d.toList.take k).length=k:=Φ
 constructor
 .refine WLe.setRow h Φ (λo f=>?_);have i:¬(k<=o/\o<k+e.length):=λ⟨l,m⟩=>f ⟨rfl,l,m⟩;simp only[Xfg,o0];rw[ko,c];split
  .rename_i a;rw[p3,Wb a];simp
  .rw[ko];split
   .omega
   .rw[pS,show k+e.length+(o-k-e.length)=o by omega];simp
 .intro j v hj;rw[cell_of_row _ b _ _ T (0,0) (setRow_heap w b d _ T (0,0) h)];have a:j<e.length:=(iW.1 hj).1;simp only[Xfg,o0];rw[HL Ω,c,Xcp Ω,show k+j-k=j by omega];exact hj
def JN{b o k}{p e}(r:Mem w b o p)(l:WLe (rng b (o+k) e.length) w d)(h:Mem d b (o+k) e)(m:k+e.length<=p.length):Mem d b o (p.take k++e++p.drop (k+e.length)):=λj v a=>by
 have n:∀f,p[j]?=some f->¬(k<=j/\j<k+e.length)->d.cell? ⟨b,o+j,none⟩=some f:=λf i g=>by
  have c:=r j f i;rw[l.cell b (o+j) (block_lt_of_cell c) (λ⟨_,h2,h3⟩=>g ⟨Ω,Ω⟩)];exact c
 have q:(p.take k).length=k:=Φ
 rw[o0,ko,q]at a;split at a
 .rename_i ab;rw[p3,Wb ab]at a;exact n v a Ω
 .rw[ko]at a;split at a
  .have:=h (j-k) v a;rw[show o+j=o+k+(j-k) by omega];exact this
  .rw[pS,show k+e.length+(j-k-e.length)=j by omega]at a;exact n v a Ω
def HR.turn{t}(h:HR w0 F G Q t b c w){id}{s dQ}{m}(l:look b id=some s)(j:s≠ .dead){S}(p:WLe S w d)(n:CS.le S (t id))
  (e:gy G Q c d id (λq o=>t id q o\/FromL t b m q o) dQ):HRel w0 F G Q ((id,dQ)::kill b m) c d:=by
 have r:Live b id:=⟨s,l,j⟩;exact⟨_,h.put (x:=Q) (λ_ _=>rfl) (Xj _) (h.lt id r) (p.mono λq o a=>⟨id,.inl rfl,r,n q o a⟩) (λq o a=>by
  rcases a with a|⟨i,k,f,g⟩
  .exact .inl ⟨id,.inl rfl,r,a⟩
  .exact .inl ⟨i,.inr k,f,g⟩) (λ_=>e)⟩
def WtP(hT:bv P T)(D:Rel w0 F nt G0 G Q k a w){o}{t}{x y}(ho:o.op= .store t x y)(lM:o.dst=none){p qa2}(E:AValRel G Q k.nx p (a.eval x))(hy:AValRel G Q k.nx qa2 (a.eval y))
  (h:ql T k t p qa2=some an):Done P w0 F nt G0 o a w an:=by
 unfold ql at h;split at h
 .rename_i te id Z ds hl kV;obtain⟨N,oP⟩:=C6 hy kV;split at h
  .rename_i n H;split at h
   .rename_i cO;simp only[Xl,Wg]at cO;obtain⟨⟨g,U⟩,df⟩:=cO;injection h with h;subst h;obtain⟨⟨_,b,K,jq⟩,_⟩:=E;obtain⟨v,A⟩:=D.h;obtain⟨I,vs,dc,⟨l,TT,C,ae⟩,aA,dB,gX⟩:=A.ob _ _ H;rw[K]at dc;injection dc with dc;subst dc;have O:(a.eval y).cells.size=ds.length:=by have:=N.1;simpa using this
    have J:=OX (w:=w) (hT _ _ hl) (b:=b) (c:=(Q id).off+Z) (v:=a.eval y) C (by rw[jQ U,O];exact g) Ω oP;obtain⟨r,B⟩:=Gl (k:=(Q id).off+Z) (e:=(a.eval y).cells.toList) C Φ;simp only[kj]at r B;generalize w.setRow b (l.toList.take ((Q id).off+Z)++(a.eval y).cells.toList++l.toList.drop ((Q id).off+Z+(a.eval y).cells.size)).toArray=W at J r B;have S:HRel w0 F G Q ((id,.box (py n Z ds))::k.objs) k.nx W:=by
     refine A.turn (m:=[]) H Δ r (λI o ⟨e,h1,h2⟩=>gX I o ⟨e,Ω,Ω⟩) ?_;refine⟨b,_,K,by rw[JI df];exact r.rows.row _ _ ⟨l,TT,C,ae⟩,JN aA (e:=(a.eval y).cells.toList) (by rw[kj];exact r) B (by rw[dB.1];simp;omega),JH dB N,λb o f=>.inl (gX b o (by rw[JI df]at f;exact f))⟩
    refine⟨.skip,undef,W,G,Q,?_,.inr ⟨rfl,rfl⟩,?_⟩
    .simp only[execOp,ho,jq,Instr.storeAt,Instr.sureAddr,Sem.run_bind,Sem.run_pure,Result.andThen_ok,J]
    .rw[lM];exact D.on (λ_ _ _ f=>f) (λ_ _=>rfl) (Xj _) S D.gx
   .simp at h
  .simp at h
 .rename_i te id i Z ds hl kV;obtain⟨N,oP⟩:=C6 hy kV;split at h
  .rename_i e Y H;split at h
   .rename_i cO;simp only[Xl,Wg]at cO;obtain⟨⟨⟨g,U⟩,df⟩,bB⟩:=cO;split at h
    .rename_i d hf;injection h with h;subst h;obtain⟨⟨_,xd,b,K,jq⟩,_⟩:=E;obtain⟨v,A⟩:=D.h;have aF:az w (WL G w e) e.size (Q id) Y (v id):=A.ob _ _ H;obtain⟨lL,V,h5,mP,n,X,h8,h9⟩:=J5 bB aF K;obtain⟨l,TT,C,ae⟩:=mP;have R:=aF.2.1;have L:i<Y.length:=Ω
     have O:(a.eval y).cells.toList.length=ds.length:=N.1;have bw:(a.eval y).cells.size=ds.length:=by simpa using O
     have bQ:n.length=Y.length*e.size:=zO (λx c hc=>fi e x c hc) _ _ X;have Ai:i*e.size+e.size<=Y.length*e.size:=by rw[<-lz];exact lu _ L
     have Bx:Y.length*e.size<=(Q id).cap*e.size:=lu _ V;have tZ:=XR (λx c hc=>fi e x c hc) Y n i e.dflt X L;have xe:=JH (c:=Z) (pm (G:=G) (a:=Q) (b:=k.nx) e _ _ tZ) N;have iQ:=Yt D.h xe bB hf;have iS:=QP (λx c hc=>fi e x c hc) Y n i d _ X L iQ;have J:=OX (w:=w) (hT _ _ hl) (b:=b) (c:=(Q id).off+(i*e.size+Z)) (v:=a.eval y) C (by rw[jQ U];omega) Ω oP;obtain⟨r,B⟩:=Gl (k:=(Q id).off+(i*e.size+Z)) (e:=(a.eval y).cells.toList) C Ω;simp only[kj]at r B;generalize w.setRow b (l.toList.take ((Q id).off+(i*e.size+Z))++(a.eval y).cells.toList++l.toList.drop ((Q id).off+(i*e.size+Z)+(a.eval y).cells.size)).toArray=W at J r B;have qR:n.take (i*e.size+Z)++(a.eval y).cells.toList++n.drop (i*e.size+Z+(a.eval y).cells.toList.length)=
       n.take (i*e.size)++(((n.drop (i*e.size)).take e.size).take Z++(a.eval y).cells.toList++((n.drop (i*e.size)).take e.size).drop (Z+(a.eval y).cells.toList.length))++n.drop (i*e.size+e.size):=by
      rw[O];have e1:n.take (i*e.size+Z)=n.take (i*e.size)++((n.drop (i*e.size)).take e.size).take Z:=by
       rw[List.take_take,jB Ω,<-List.take_add]
      have e2:n.drop (i*e.size+Z+ds.length)=((n.drop (i*e.size)).take e.size).drop (Z+ds.length)++n.drop (i*e.size+e.size):=by
       rw[List.drop_take,H2];have:n.drop (i*e.size+e.size)=(n.drop (i*e.size+(Z+ds.length))).drop (e.size-(Z+ds.length)):=by rw[H2];congr 1;omega
       rw[this,Xdp];congr 1;omega
      rw[e1,e2];simp
     have S:HRel w0 F G Q ((id,.arr e (Y.set i d))::k.objs) k.nx W:=by
      refine A.turn (m:=[]) H Δ r (λI o ⟨e',h1,h2⟩=>h9 I o ⟨e',Ω,Ω⟩) ?_;refine XL bB K (by simpa using lL) R (by simpa using V) h5 (r.rows.row _ _ ⟨l,TT,C,ae⟩) iS ?_ (λb o f=>.inl (h9 b o f));rw[<-qR];exact JN h8 (e:=(a.eval y).cells.toList) (by rw[kj];exact r) B Ω
     refine⟨.skip,undef,W,G,Q,?_,.inr ⟨rfl,rfl⟩,?_⟩
     .simp only[execOp,ho,jq,R,Instr.storeAt,Instr.sureAddr,Sem.run_bind,Sem.run_pure,Result.andThen_ok,J]
     .rw[lM];exact D.on (λ_ _ _ f=>f) (λ_ _=>rfl) (Xj _) S D.gx
    .simp at h
   .split at h
    .rename_i cO;simp only[Xl,Wg]at cO;obtain⟨⟨⟨g,U⟩,xf⟩,By⟩:=cO;subst xf;split at h
     .rename_i d m hf;split at h
      .rename_i bu;injection h with h;subst h;have bu:(id::m).Nodup:=(JA _).1 bu;obtain⟨wy,Bz⟩:=dH.1 bu;obtain⟨⟨_,xd,b,K,jq⟩,_⟩:=E;obtain⟨v,A⟩:=D.h;have aF:az w (WL G w e) e.size (Q id) Y (v id):=A.ob _ _ H;have aQ:Live k.objs id:=⟨_,H,Δ⟩;obtain⟨lL,R,h3⟩:=aF;simp only[K]at h3;obtain⟨V,h5,mP,n,ps,X,h8,h9,cn⟩:=h3;obtain⟨l,TT,C,ae⟩:=mP;have L:i<Y.length:=Ω
       have O:(a.eval y).cells.toList.length=ds.length:=N.1;have bw:(a.eval y).cells.size=ds.length:=by simpa using O
       have Ai:i*e.size+e.size<=Y.length*e.size:=by rw[<-lz];exact lu _ L
       have Bx:Y.length*e.size<=(Q id).cap*e.size:=lu _ V;obtain⟨c1,c,c2,p1,pc,p2,g1,g2,g3,g4,g5⟩:=Rm X e.dflt L;have l1:=ma (λx c q E=>WV e x c q E) _ _ _ g3;rw[gv,jB Ω]at l1;have lc:=WV _ _ _ _ g4;obtain⟨ns,t1,t2,t3,t4,_⟩:=lS (Z:=G) A (λ_ _ _ f=>f) e ds _ d m [] N (λi hi=>by simp at hi) Bz hf;have J:=OX (w:=w) (hT _ _ hl) (b:=b) (c:=(Q id).off+(i*e.size+0)) (v:=a.eval y) C (by rw[jQ U];omega) Ω oP;obtain⟨r,B⟩:=Gl (k:=(Q id).off+(i*e.size+0)) (e:=(a.eval y).cells.toList) C Ω;simp only[kj]at r B;generalize w.setRow b (l.toList.take ((Q id).off+(i*e.size+0))++(a.eval y).cells.toList++l.toList.drop ((Q id).off+(i*e.size+0)+(a.eval y).cells.size)).toArray=W at J r B;have kq:CS.le (rng b ((Q id).off+(i*e.size+0)) (a.eval y).cells.size) (rng b (Q id).off ((Q id).cap*e.size)):=λI o ⟨e',k1,k2⟩=>⟨e',Ω,Ω⟩;have jJ:=cn _ (Xg ..);have jE:∀p∈p1++(pc++p2),∀b o,p.fp b o->b<w.heap.size:=λp z b o f=>A.bl id b o aQ (cn p.fp (Xe _ (ju (by rw[g2];exact z))) b o f);obtain⟨q1,q2⟩:=Xz.1 h9;have kY:∀p∈p1++(pc++p2),Same p.fp w W:=λp z=>r.same ((q1 p.fp (ju (by rw[g2];exact z))).mono kq (λ_ _ f=>f)) (jE p z);have mQ:∀p∈ns,Same p.fp w W:=λp z=>r.same (λb o k1 k2=>by
        obtain⟨j,hj,k3,k4⟩:=t3 p z b o k2;have:=A.inj id j b o aQ k3 (jJ b o (kq b o k1)) k4;subst this;exact wy hj) (λb o f=>by
        obtain⟨j,hj,k3,k4⟩:=t3 p z b o f;exact A.bl j b o k3 k4)
       have qa0:dU (WL G W e) (Y.set i d) (c1++((a.eval y).cells.toList++c2)) (p1++(ns++p2)):=by
        refine YI L ?_ (pe (λ_ _ _ f=>f) e _ _ _ mQ t1) ?_
        .exact ur (Q:=λq=>Same q.fp w W) (λx c q u E=>pe (λ_ _ _ f=>f) e x c q u E) _ _ _ (λq u=>kY q (Xn _ u)) g3
        .exact ur (Q:=λq=>Same q.fp w W) (λx c q u E=>pe (λ_ _ _ f=>f) e x c q u E) _ _ _ (λq u=>kY q (Xk _ (Xk _ u))) g5
       have qa1:Mem W b (Q id).off (c1++((a.eval y).cells.toList++c2)):=by
        have:=JN h8 (k:=i*e.size+0) (e:=(a.eval y).cells.toList) (by rw[kj];exact r) B (by rw[g1];simp;omega);rw[g1,gJ,List.take_append_of_le_length Ω,List.take_of_length_le Ω]at this;have mR:(c1++(c++c2)).drop (i*e.size+(a.eval y).cells.toList.length)=c2:=by
         rw[<-o0,show i*e.size+(a.eval y).cells.toList.length=(c1++c).length by rw[bX];omega,SA]
        rw[mR,o0]at this;exact this
       have S:HRel w0 F G Q ((id,.arr e (Y.set i d))::kill k.objs m) k.nx W:=by
        refine A.turn H Δ r (λI o f=>jJ I o (kq I o f)) ?_;refine⟨by simpa using lL,R,?_⟩;simp only[K];rw[g2,Xw,Xw]at q2 q1;have qA:=dZ.1 q2;have qB:=dZ.1 qA.2.1;have qS:∀p∈ns,∀s,CS.le s (v id)->CS.disj p.fp s:=λp z s g b o k1 k2=>by
         obtain⟨j,hj,k3,k4⟩:=t3 p z b o k1;have:=A.inj id j b o aQ k3 (g b o k2) k4;subst this;exact wy hj
        have dt:∀p∈p1++(pc++p2),CS.le p.fp (v id):=λp z=>cn p.fp (Xe _ (ju (by rw[g2];exact z)));refine⟨by simpa using V,h5,r.rows.row _ _ ⟨l,TT,C,ae⟩,_,p1++(ns++p2),qa0,qa1,Xz.2 ⟨λs g=>?_,?_⟩,λs g=>?_⟩
        .simp only[Xw,Xo]at g;rcases g with g|g|g
         .exact q1 s (Xn _ g)
         .obtain⟨p,z,rfl⟩:=Xy.1 g;exact(qS p z _ jJ).symm
         .exact q1 s (Xk _ (Xk _ g))
        .rw[Xw,Xw];refine XW (dZ.2 ⟨qA.1,qB.2.1,λs g t M=>qA.2.2 s g t (Xk _ M)⟩) t2 (λs g t M=>?_);obtain⟨p,z,rfl⟩:=Xy.1 g;rcases Xo.1 M with M|M
         .obtain⟨q,u,rfl⟩:=Xy.1 M;exact qS p z _ (dt q (Xn _ u))
         .obtain⟨q,u,rfl⟩:=Xy.1 M;exact qS p z _ (dt q (Xk _ (Xk _ u)))
        .intro b o f;rcases Xr.1 g with rfl|g
         .exact .inl (jJ b o f)
         .simp only[Xw,Xo]at g;rcases g with g|g|g
          .obtain⟨q,u,rfl⟩:=Xy.1 g;exact .inl (dt q (Xn _ u) b o f)
          .obtain⟨q,u,rfl⟩:=Xy.1 g;exact .inr (t3 q u b o f)
          .obtain⟨q,u,rfl⟩:=Xy.1 g;exact .inl (dt q (Xk _ (Xk _ u)) b o f)
       refine⟨.skip,undef,W,G,Q,?_,.inr ⟨rfl,rfl⟩,?_⟩
       .simp only[execOp,ho,jq,R,Instr.storeAt,Instr.sureAddr,Sem.run_bind,Sem.run_pure,Result.andThen_ok,J]
       .rw[lM];exact D.on (λ_ _ _ f=>f) (λ_ _=>rfl) (Xj _) S D.gx
      .simp at h
     .simp at h
    .simp at h
  .simp at h
 .simp at h
end
end Go.Sx
