/- The abstract machine, part 3: a reflective interpreter of the program's code over data, with its soundness over the model. -/
import Derived.Test.YtnddhmkccolneaaGreatEng2
open List renaming mem_cons→Xq,mem_cons_of_mem→Xg,mem_cons_self→Xl,length_append→Xv,getD_eq_getElem?_getD→l0,getElem?_append→fh,getElem?_cons_zero→OV,getElem?_eq_none→hQ,all_eq_true→bH,append_of_mem→Ih,mem_append→Xo,range→cK,mem_filter→eA,mem_range→Ie,filter_cons→eH,mem_map→Xx,eq_nil_of_length_eq_zero→ee,eq_nil_iff_forall_not_mem→Xfl,nodup_nil→qC,mem_of_getElem?→gz,nodup_cons→cx,nil_append→dn,cons_append→dM,length_filter_le→A0,length_range→O0,mem_append_left→Xm,mem_append_right→Xi,mem_flatMap→O1,map_cons→bn,map_map→EC,map_id→Xhr,map_congr_left→Xfm,append_nil→iN,nodup_append→dm,filter_append→qk,prefix_append→Xhi,map_append→Xy,map_nil→eL,mem_erase_of_ne→Xhc,length_erase_of_mem→Xgn,length_pos_of_mem→Xgt,length_cons→Xs,getElem?_cons_succ→ZX,getElem?_eq_some_iff→dJ,getElem?_append_right→wE,getElem?_tail→qm,mapM_cons→EX,pairwise_singleton→sJ,mem_singleton→cq,take_of_length_le→wR,getElem?_eq_getElem→Xr,drop_zero→oe,tail_cons→EV,getElem?_map→d5,all_cons→d6,length→Xa,sum_cons→EB
open Nat renaming sub_self→qz,blt_eq→Pf,le_refl→Xj,zero_add→cb,zero_le→kP,sub_zero→wZ,beq→aZ,le_trans→eO,add_zero→c9,add_sub_cancel_left→sL,ble→Ij,le_of_ble_eq_true→O3,add_mul→kR,zero_mul→EW
open Option renaming getD_some→ED,bind_some→Xd,bind_assoc→Xgd,bind_eq_some_iff→jP,map_eq_some_iff→Xz
open Bool renaming and_eq_true→Xh,not_eq_true'→c5,false_eq_true→dL,or_eq_true→qj
open Array renaming getD_eq_getD_getElem?→Ey,getElem?_setIfInBounds→Xfq,getElem?_eq_getElem→Ic,getElem?_eq_some_iff→wz,replicate→A7,getElem?_append_left→Xfz,mapM_eq_mapM_toList→ZW
namespace Go.Sx
set_option linter.unusedVariables false
set_option linter.unusedSimpArgs false
theorem V1{x y:Nat}{l:List Nat}:y∈H9 x l↔y=x\/y∈l:=by
 unfold H9;cases h:dz x l with
 |true=>
  have:=(j7 x l).1 h;simp only[Wa];exact⟨.inr,λh=>h.elim (λe=>e▸this) id⟩
 |false=>simp
theorem Tu{y:Nat}:∀(m l:List Nat),y∈D4 m l↔y∈m\/y∈l
 | [],l=>by simp[D4]
 |x::m,l=>by
  rw[D4,Tu m,V1,Xq];constructor
  .rintro(h|h|h)
   .exact .inl (.inr h)
   .exact .inl (.inl h)
   .exact .inr h
  .rintro((h|h)|h)
   .exact .inr (.inl h)
   .exact .inl h
   .exact .inr (.inr h)
theorem Mv{a:List (List Nat)}{y:Nat}:∀(c l:List Nat),y∈p0 a c l↔(∃j∈c,y=j\/y∈a.getD j [])\/y∈l
 | [],l=>by simp[p0]
 |j::c,l=>by
  rw[p0,Mv c,Tu,V1];constructor
  .rintro(⟨k,b,h⟩|h|h|h)
   .exact .inl ⟨k,Xg _ b,h⟩
   .exact .inl ⟨j,Xl ..,.inr h⟩
   .exact .inl ⟨j,Xl ..,.inl h⟩
   .exact .inr h
  .rintro(⟨k,b,h⟩|h)
   .rcases Xq.1 b with rfl|b
    .exact .inr (h.elim (λh=>.inr (.inl h)) .inl)
    .exact .inl ⟨k,b,h⟩
   .exact .inr (.inr (.inr h))
def D9(ops:Array Oper)(S:Nat->Prop):Prop:=∀i o,ops[i]?=some o->S i->∀d∈gy o,S d
theorem TO{ops:Array Oper}{S:Nat->Prop}(f:D9 ops S):∀(l:List Oper) (a:List (List Nat)),(∀(k:Nat) (o:Oper),l[k]?=some o->ops[a.length+k]?=some o)->
  (∀i,S i->∀j∈a.getD i [],S j)->∀i,S i->∀j∈(dW l a).getD i [],S j
 | [],a,_,h=>h
 |o::l,a,m,h=>by
  refine TO f l _ (λk p c=>?_) (λi g j b=>?_)
  .have:=m (k+1) p (by simpa using c);rw[Xv];have e:a.length+(k+1)=a.length+ [p0 a (gy o) []].length+k:=by simp;omega
   rw[←e];exact this
  .rw[l0,fh]at b;split at b
   .exact h i g j (by rw[l0];exact b)
   .rename_i ab;by_cases n:i=a.length
    .subst n;simp only[qz,OV,ED]at b;rcases(Mv _ _).1 b with⟨k,c,d⟩|b
     .have hSk:=f _ o (m 0 o (by simp)) g k c;rcases d with rfl|d
      .exact hSk
      .exact h k hSk j d
     .cases b
    .have:[p0 a (gy o) []][i-a.length]?=none:=hQ (by simp;omega);rw[this]at b;cases b
theorem Wrw{ops:Array Oper}{S:Nat->Prop}(a:D9 ops S){i j:Nat}(h:d1 (dW ops.toList []) j i=true)(hi:S i):S j:=
 TO a ops.toList [] (λk o c=>by simpa using c) (λi _ j b=>by simp at b) i hi j ((j7 _ _).1 h)
theorem To{ops:Array Oper}:∀(l:List Oper) (n:Nat),HX l n=true->∀(k:Nat) (o:Oper),l[k]?=some o->∀d∈gy o,d<n+k
 | [],_,_,k,o,hk=>by simp at hk
 |o'::l,n,h,k,o,hk=>by
  simp only[HX,Xh,bH]at h;cases k with
  |zero=>
   simp at hk;subst hk;intro e a;have:=h.1 e a;rw[Pf]at this;omega
  |succ k=>
   have:=To (ops:=ops) l (n+1) h.2 k o (by simpa using hk);intro e a;have:=this e a;omega
structure Order(ops:Array Oper)(l:List Nat):Prop where
 nodup:l.Nodup
 all:∀i,i<ops.size↔i∈l
 dep:∀p i s,l=p++i::s->∀o,ops[i]?=some o->∀d∈gy o,d∈p
theorem Order.closed{ops:Array Oper}{l:List Nat}(h:Order ops l){p s:List Nat}(e:l=p++s):D9 ops (· ∈p):=λi o g f d c=>by
 obtain⟨a,b,rfl⟩:=Ih f;have:=h.dep a i (b++s) (by rw[e];simp) o g d c;simp[this]
theorem Order.bef{ops:Array Oper}{l:List Nat}(h:Order ops l){p s:List Nat}{i j:Nat}(e:l=p++s)(a:d1 (dW ops.toList []) j i=true)(hi:i∈p):j∈p:=
 Wrw (h.closed e) a hi
theorem Order.bef'{ops:Array Oper}{l:List Nat}(h:Order ops l){p s:List Nat}{i j:Nat}(e:l=p++i::s)(b:d1 (dW ops.toList []) j i=true)(a:j≠i):j∈p:=by
 have:=h.bef (p:=p++ [i]) (s:=s) (by rw[e];simp) b (by simp);rcases Xo.1 this with h|h
 .exact h
 .simp at h;exact Wy h a
def unl(ops:Array Oper)(a:Array Bool):List Nat:=(cK ops.size).filter λi=>!a.getD i true
theorem vE{ops:Array Oper}{a:Array Bool}{i:Nat}:i∈unl ops a↔i<ops.size/\a.getD i true=false:=by
 unfold unl;rw[eA,Ie];simp
theorem Sb{α:Type}{p q:α->Bool}:∀(l:List α),(∀x∈l,q x=true->p x=true)->(∃x∈l,p x=true/\q x=false)->(l.filter q).length<(l.filter p).length
 | [],_,⟨x,a,_⟩=>by cases a
 |x::l,h,⟨y,b,c,d⟩=>by
  have e:∀(l:List α),(∀x∈l,q x=true->p x=true)->(l.filter q).length<=(l.filter p).length:=by
   intro l
   induction l with
   |nil=>intro _;simp
   |cons x l ih=>
    intro h;have:=ih λx a=>h x (Xg _ a);have a:=h x (Xl ..);rw[eH,eH];cases hqx:q x with
    |true=>rw[a hqx];simpa using this
    |false=>cases p x<;>simp<;>omega
  rw[eH,eH];rcases Xq.1 b with rfl|b
  .rw[c,d];have:=e l λx a=>h x (Xg _ a);simp;omega
  .have:=Sb l (λx a=>h x (Xg _ a)) ⟨y,b,c,d⟩;have a:=h x (Xl ..);cases hqx:q x with
   |true=>rw[a hqx];simpa using this
   |false=>cases p x<;>simp<;>omega
theorem Nf{a:Array Bool}{i j:Nat}:(a.setIfInBounds i true).getD j true=(if i=j then true else a.getD j true):=by
 simp only[Ey,Xfq];split
 .split<;>rfl
 .rfl
theorem WsR{a:Array Bool}{i j:Nat}(hi:i<a.size):(a.setIfInBounds i true).getD j false=(if i=j then true else a.getD j false):=by
 simp only[Ey,Xfq];split
 .simp[hi]
 .rfl
theorem Wxa{a:Array Bool}{i:Nat}(hi:i<a.size):a.getD i true=a.getD i false:=by
 simp[hi]
theorem VM{o:Oper}{e:Edge}(b:e∈o.after)(a:Region.binds .any e=true):e.on∈gy o:=
 Xx.2 ⟨e,eA.2 ⟨by simpa using b,a⟩,rfl⟩
theorem VN{ops:Array Oper}(v:∀(k:Nat) (o:Oper),ops[k]?=some o->∀d∈gy o,d<k):∀(fuel t:Nat) (listed:Array Bool),listed.size=ops.size->(unl ops listed).length<=fuel->
  (Region.linearise.go .any ops fuel t listed []).Nodup/\
  (∀i,i∈Region.linearise.go .any ops fuel t listed []↔i∈unl ops listed)/\
  (∀p i s,Region.linearise.go .any ops fuel t listed []=p++i::s->∀o,ops[i]?=some o->∀e∈o.after,Region.binds .any e=true->listed.getD e.on false=true\/e.on∈p)
 |0,t,listed,G,ad=>by
  have:unl ops listed= []:=ee (by omega);simp only[Region.linearise.go,List.reverse_nil,this];exact⟨by simp,by simp,λp i s h=>by simp at h⟩
 |fuel+1,t,listed,G,ad=>by
  have S:Region.linearise.go .any ops (fuel+1) t listed []=match(Region.ready .any ops listed)[t%(Region.ready .any ops listed).length]? with
   |some i=>Region.linearise.go .any ops fuel (t/(Region.ready .any ops listed).length) (listed.setIfInBounds i true) [i]
   |none=>[]:=rfl
  rw[S];cases hi:(Region.ready .any ops listed)[t%(Region.ready .any ops listed).length]? with
  |none=>
   have B:Region.ready .any ops listed= []:=by
    cases hr:Region.ready .any ops listed with
    |nil=>rfl
    |cons x xs=>
     rw[hr]at hi;have A:t%(x::xs).length<(x::xs).length:=Nat.mod_lt _ (by simp);simp at hi;simp at A;omega
   have P:unl ops listed= []:=by
    have w:∀n i,i<=n->i∉unl ops listed:=by
     intro n
     induction n with
     |zero=>
      intro i M f;obtain⟨a,r⟩:=vE.1 f;have:i∈Region.ready .any ops listed:=by
       rw[mem_ready];refine⟨r,ops[i],Ic a,λe b c=>?_⟩;have:=v i _ (Ic a) e.on (VM b c);omega
      rw[B]at this;cases this
     |succ n ih=>
      intro i M f;obtain⟨a,r⟩:=vE.1 f;have:i∈Region.ready .any ops listed:=by
       rw[mem_ready];refine⟨r,ops[i],Ic a,λe b c=>?_⟩;have A:=v i _ (Ic a) e.on (VM b c);have J:=ih e.on (by omega);have u:e.on<ops.size:=by omega
       cases E:listed.getD e.on true with
       |false=>exact Wy (vE.2 ⟨u,E⟩) J
       |true=>rw[←Wxa (by omega)];exact E
      rw[B]at this;cases this
    exact Xfl.2 λi=>w i i (Xj _)
   rw[P];exact⟨qC,λ_=>Iff.rfl,λp i s h=>by simp at h⟩
  |some i=>
   have K:=gz hi;obtain⟨a,o,F,u⟩:=mem_ready.1 K;have I:i<ops.size:=(wz.1 F).1;have L:i∈unl ops listed:=vE.2 ⟨I,a⟩;simp only[];rw[linearise_go_acc,List.reverse_singleton,List.singleton_append];have Q:(unl ops (listed.setIfInBounds i true)).length<=fuel:=by
    have:(unl ops (listed.setIfInBounds i true)).length<(unl ops listed).length:=by
     refine Sb _ (λx _ m=>?_) ⟨i,Ie.2 I,by simpa using a,by rw[Nf];simp⟩;rw[Nf]at m;split at m
     .simp at m
     .exact m
    omega
   obtain⟨N,D,O⟩:=VN v fuel (t/(Region.ready .any ops listed).length) (listed.setIfInBounds i true) (by simp[G]) Q;have z:∀j,j∈unl ops (listed.setIfInBounds i true)↔j∈unl ops listed/\j≠i:=λj=>by
    rw[vE,vE,Nf];constructor
    .rintro⟨y,l⟩;split at l
     .cases l
     .rename_i q;exact⟨⟨y,l⟩,λe=>q e.symm⟩
    .rintro⟨⟨y,l⟩,q⟩;exact⟨y,by rw[We (λe=>q e.symm)];exact l⟩
   refine⟨cx.2 ⟨λf=>?_,N⟩,λj=>?_,λp j s e R g C H c=>?_⟩
   .exact((z i).1 ((D i).1 f)).2 rfl
   .rw[Xq,D,z];constructor
    .rintro(rfl|h)
     .exact L
     .exact h.1
    .intro h;by_cases b:j=i
     .exact .inl b
     .exact .inr ⟨h,b⟩
   .cases p with
    |nil=>
     simp only[dn,List.cons.injEq]at e;obtain⟨rfl,_⟩:=e;rw[F]at g;injection g with g;subst g;exact .inl (u C H c)
    |cons x p=>
     simp only[dM,List.cons.injEq]at e;obtain⟨rfl,e⟩:=e;rcases O p j s e R g C H c with h|h
     .rw[WsR (by omega)]at h;split at h
      .rename_i b;exact .inr (by rw[b];simp)
      .exact .inl h
     .exact .inr (Xg _ h)
theorem Wi3{ops:Array Oper}{t:Nat}(l:∀(k:Nat) (o:Oper),ops[k]?=some o->∀d∈gy o,d<k):Order ops (Region.linearise .any ops t):=by
 have n:∀i,i∈unl ops (A7 ops.size false)↔i<ops.size:=λi=>by
  rw[vE];constructor
  .exactλh=>h.1
  .exactλh=>⟨h,by simp[h]⟩
 obtain⟨f,g,j⟩:=VN l ops.size t (A7 ops.size false) (by simp) (by
  have:=A0 (λi=>!(A7 ops.size false).getD i true) (cK ops.size);rw[O0]at this;exact this)
 refine⟨f,λi=>by unfold Region.linearise;rw[g,n],λp i s e o m d b=>?_⟩;unfold gy at b;obtain⟨c,a,rfl⟩:=Xx.1 b;obtain⟨a,q⟩:=eA.1 a;rcases j p i s e o m c (by simpa using a) q with h|h
 .exfalso;rw[Ey,Array.getElem?_replicate]at h;split at h<;>simp at h
 .exact h
theorem Wj9{ops:Array Oper}{t:Nat}(a:∀(k:Nat) (o:Oper),ops[k]?=some o->∀d∈gy o,d<k):Order ops (Region.schedule true ops t):=by
 unfold Region.schedule;rw[Wf (by simp)];exact Wi3 a
def Og(n:Nat)(a:List Nat)(o:Oper):Bool:=match o.dst with
 |some d=>Nat.blt d n&& !dz d a
 |none=>true
def jf(n:Nat)(d:List Nat):Code->Bool
 | .region _ ops _=>ops.toList.all (Og n d)
 | .seq a b=>jf n d a&&jf n d b
 | .cond _ x y=>jf n d x&&jf n d y
 | .block _ c=>jf n d c
 | .loop c=>jf n d c
 |_=>true
theorem Wo4{nt:Slots}{n}{kept}(f:nt.n=n)(c:∀p∈nt.kept,p.1∈kept){o}(h:Og n kept o=true):∀d,o.dst=some d->nt.Ok d:=λd b=>by
 unfold Og at h;rw[b]at h;simp only[Xh,c5]at h;refine⟨by have a:=h.1;rw[Pf]at a;rw[f];exact a,λp g e=>?_⟩;have:=c p g;rw[e]at this;rw[(j7 d kept).2 this]at h;exact Wy h.2 (by simp)
def Ex.to:Ex->Exit
 | .normal=>.normal
 | .exit id=>.exit id
 | .ret=>.ret
section
variable{w0:World}{F:CS}{nt:Slots}{G0:GH}{P:Program}{T:Tab}{Γ:Ctx}{A:List (Nat×An)}{R:Type}{r:R}
def lV(w0:World)(F:CS)(nt:Slots)(G0:GH)(k:St->Option R)(r:R)(K:Act->World->Prop):Prop:=
 ∀st a w G ν,Rel w0 F nt G0 G ν st a w->k st=some r->K a w
theorem Wo8{G}{ν:Nat->Nu}{st}{a}{w}(e:Rel w0 F nt G0 G ν st a w){ops:Array Oper}{j}{t:Tmp}(f:(ops[j]?).bind (·.dst)=some t){b}(c:(Wt st.env t).bind asB=some b):
  a.tmps[t]?=some (.bool b)/\yielded ops a.tmps j=some b:=by
 cases hl:Wt st.env t with
 |none=>simp[hl]at c
 |some x=>
  simp only[hl,Xd]at c;obtain⟨v,d,g⟩:=e.env t x hl;have:=NU x v b g c;subst this;refine⟨d,?_⟩;unfold yielded;rw[f];simp[d]
theorem YM(m:au P T)(q:eC P Γ){ops}{o:Oper}(i:∀d,o.dst=some d->nt.Ok d){k}{K}{Q}(e:lV w0 F nt G0 k r K)
  {st} {a} {w} {G} {ν} (g:Rel w0 F nt G0 G ν st a w) (h:rxg T Γ A ops o st k=some r):
  if Region.wanted o (yielded ops a.tmps)then o.wp P a w K Q else K (a.put o.dst undef) w:=by
 unfold rxg at h;have s:∀ai,Rel w0 F nt G0 G ν ai a w->Rel w0 F nt G0 G ν (ai.put o.dst (.tup [])) (a.put o.dst undef) w:=λai c=>
  c.put i ⟨[],rfl,rfl,λj x v D=>by simp at D⟩
 have z:∀b:Bool,AValRel G ν st.nx (one .bool b) (.bool b):=λb=>WQ (t:=.bool) (d:=b) (v:=.bool b) rfl;split at h
 .rename_i hg;simp only[Region.wanted,hg,W1];exact On m q g i h (λai u w' G' y c f=>e _ _ _ _ _ c f)
 .rename_i j want hg;split at h
  .rename_i t ht;split at h
   .rename_i hl;obtain⟨v,n,E⟩:=g.env t _ hl;have H:v=undef:=by
     obtain⟨I,B,C,_⟩:=E;rw[B,ee C];rfl
    subst H;have p:yielded ops a.tmps j=none:=by
     unfold yielded;rw[ht];simp only[Xd,n];rfl
    simp only[Region.wanted,hg,p];rw[We (by simp)];exact e _ _ _ _ _ (s _ g) h
   .rename_i x _ hl;split at h
    .rename_i b hb;obtain⟨n,p⟩:=Wo8 g ht (b:=b) (by rw[hl];exact hb);simp only[Region.wanted,hg,p];have l:=g.rebind n (z b);cases b with
     |true=>
      simp only[Wa]at h;cases want with
      |true=>
       simp only[W1]at h;simp only[beq_self_eq_true,W1];exact On m q l i h (λai u w' G' y c f=>e _ _ _ _ _ c f)
      |false=>
       simp only[dL,dO]at h;rw[We (by simp)];exact e _ _ _ _ _ (s _ l) h
     |false=>
      simp only[Wb]at h;cases want with
      |true=>
       simp only[W1]at h;rw[We (by simp)];exact e _ _ _ _ _ (s _ l) h
      |false=>
       simp only[dL,dO]at h;simp only[beq_self_eq_true,W1];exact On m q l i h (λai u w' G' y c f=>e _ _ _ _ _ c f)
    .cases h
   .cases h
  .cases h
theorem YO(n:au P T)(q:eC P Γ){ops:Array Oper}:∀(l:List Oper),(∀o∈l,∀d,o.dst=some d->nt.Ok d)->∀{k:St->Option R} {Q:Exit->Act->World->Prop},lV w0 F nt G0 k r (Q .normal)->
  lV w0 F nt G0 (λst=>rxs T Γ A ops l st k) r (wpList P ops Q l)
 | [],_,k,Q,hK=>λst a w G ν j h=>hK st a w G ν j h
 |o::l,p,k,Q,hK=>λst a w G ν j h=>by
  have x:=YO (ops:=ops) n q l (λo v=>p o (Xg _ v)) hK;have h:rxg T Γ A ops o st (λai=>match opG A o ai with
   |some (c,cr)=>bif c then rxs T Γ A ops l cr k else none
   |none=>none)=some r:=h
  have s:lV w0 F nt G0 (λai=>match opG A o ai with
   |some (c,cr)=>bif c then rxs T Γ A ops l cr k else none
   |none=>none) r (wpList P ops Q l):=λu m w1 g i e f=>by
   have f:(match opG A o u with
    |some (c,cr)=>bif c then rxs T Γ A ops l cr k else none
    |none=>none)=some r:=f
   split at f
   .rename_i c ao b;obtain⟨rfl,f⟩:=W9 f;have:∃G' z,Rel w0 F nt G0 G' z ao m w1:=by
     unfold opG at b;split at b
     .split at b
      .injection b with b;injection b with _ b;subst b;exact⟨g,i,e⟩
      .exact MO (.inr rfl) e b
     .injection b with b;injection b with _ b;subst b;exact⟨g,i,e⟩
     .injection b with b;injection b with _ b;subst b;exact⟨g,i,e⟩
     .injection b with b;injection b with _ b;subst b;exact⟨g,i,e⟩
     .injection b with b;injection b with _ b;subst b;exact⟨g,i,e⟩
     .exact MO (.inr rfl) e b
     .injection b with b;injection b with _ b;subst b;exact⟨g,i,e⟩
    obtain⟨t,B,y⟩:=this;exact x ao m w1 t B y f
   .cases f
  have:=YM n q (p o (Xl ..)) (Q:=Q) s j h;unfold wpList;split
  .rename_i hw;rw[Wf hw]at this;exact .inl this
  .rename_i hw;rw[We hw]at this;exact this
end
section
variable{T:Tab}{Γ:Ctx}{A:List (Nat×An)}{ops:Array Oper}
theorem M8{R:Type}(o:Oper)(st:St)(k:St->Option R):rx1 T Γ A o st k=(rx1 T Γ A o st some).bind k:=by
 unfold rx1;rw[zY,zY o st (λx objs nx=>some _),Xgd];rfl
theorem GX{R:Type}(o:Oper)(st:St)(k:St->Option R):rxg T Γ A ops o st k=(rxg T Γ A ops o st some).bind k:=by
 unfold rxg;cases o.guard with
 |none=>exact M8 o st k
 |some g=>
  obtain⟨j,a⟩:=g;simp only;cases(ops[j]?).bind (·.dst)with
  |none=>rfl
  |some t=>
   simp only;cases Wt st.env t with
   |none=>rfl
   |some x=>
    have c:(match asB x with
      |some b=>bif b
       then(if a then rx1 T Γ A o (st.put (some t) (one .bool true)) k else k ((st.put (some t) (one .bool true)).put o.dst (.tup [])))
       else(if a then k ((st.put (some t) (one .bool false)).put o.dst (.tup []))else rx1 T Γ A o (st.put (some t) (one .bool false)) k)
      |none=>none)=(match asB x with
      |some b=>bif b
       then(if a then rx1 T Γ A o (st.put (some t) (one .bool true)) some else some ((st.put (some t) (one .bool true)).put o.dst (.tup [])))
       else(if a then some ((st.put (some t) (one .bool false)).put o.dst (.tup []))else rx1 T Γ A o (st.put (some t) (one .bool false)) some)
      |none=>none).bind k:=by
     cases asB x with
     |none=>rfl
     |some b=>
      cases b<;>cases a
      .exact M8 _ _ _
      .rfl
      .rfl
      .exact M8 _ _ _
    cases x with
    |s y=>exact c
    |tup l=>
     cases l with
     |nil=>rfl
     |cons y l=>exact c
theorem DH{R:Type}{o:Oper}{st:St}{k:St->Option R}{r:R}(h:rxg T Γ A ops o st k=some r):∃ai,rxg T Γ A ops o st some=some ai/\k ai=some r:=by
 rw[GX]at h;exact jP.1 h
structure Eff(o:Oper)(v:AVal)(pre:af)(am:Nat)(st ai:St):Prop where
 env:∀t,Wt ai.env t=if o.dst=some t then some v else Wt st.env t
 objs:ai.objs=pre++st.objs
 nx:ai.nx=am
theorem rE(st:St)(dst:Option Tmp)(x:AVal)(t:Nat):Wt (st.put dst x).env t=if dst=some t then some x else Wt st.env t:=by
 cases dst with
 |none=>simp[St.put]
 |some d=>
  simp only[St.put];rw[WM];by_cases h:d=t
  .subst h;simp
  .rw[We h,We (by simpa using h)]
theorem GA{st ao:St}{x:Operand}(h:∀t∈Oo x,Wt ao.env t=Wt st.env t):ev ao x=ev st x:=by
 cases x with
 |tmp t=>exact h t (by simp[Oo])
 |_=>rfl
theorem Mn{st:St}{x:Operand}{v:AVal}:∀(l:List Operand),x∈l->ev st x=some v->∀a∈eU v,a∈rR st l
 | [],h,_,_,_=>by cases h
 |y::l,h,b,a,cj=>by
  simp only[rR];rcases Xq.1 h with rfl|h
  .rw[b];exact Xm _ cj
  .split
   .exact Xi _ (Mn l h b a cj)
   .exact Mn l h b a cj
theorem R8{st ao:St}:∀(l:List Operand),(∀x∈l,ev ao x=ev st x)->rR ao l=rR st l
 | [],_=>rfl
 |x::l,h=>by simp only[rR,h x (Xl ..),R8 l λy a=>h y (Xg _ a)]
theorem V6{o:Oper}{st ai ao:St}(h:rx1 T Γ A o st some=some ai)(k:∀x∈ar o.op,ev ao x=ev st x)
  (s:bs o=true->ao.objs=st.objs/\ao.nx=st.nx) (r:bs o=false->∀d∈lw o st,Wt ao.objs d=Wt st.objs d):
  ∃v a am,Eff o v a am st ai/\(bs o=false->a= []/\am=st.nx)/\
   ∃g,rx1 T Γ A o ao some=some g/\(bs o=true->Eff o v a am ao g)/\(bs o=false->Eff o v [] ao.nx ao g):=by
 unfold rx1 at*;rw[zY]at h;obtain⟨⟨v,objs',am⟩,f,i⟩:=jP.1 h;injection i with i;subst i;cases gd:bs o with
 |true=>
  obtain⟨b,e⟩:=s gd;obtain⟨a,rfl⟩:=TJ o st v objs' am f;refine⟨v,a,am,⟨λt=>rE _ _ _ _,by cases o.dst<;>rfl,by cases o.dst<;>rfl⟩,by simp,?_⟩;have j:rxe T Γ A o ao cM=some (v,a++st.objs,am):=by
   obtain⟨B,C,z⟩:=ao;simp only at b e;subst b e;rw[WtZ o (env:=B) (st:=st) cM k];exact f
  refine⟨_,?_,λ_=>⟨λt=>rE (⟨ao.env,a++st.objs,am⟩) o.dst v t,?_,?_⟩,by simp⟩
  .rw[zY,j];rfl
  .rw[b];cases o.dst<;>rfl
  .cases o.dst<;>rfl
 |false=>
  rw[UG gd]at f;obtain⟨u,j,c⟩:=jP.1 f;injection c with c;have b:u=v:=Ws (λp:Out=>p.1) c;have e:st.objs=objs':=Ws (λp:Out=>p.2.1) c;have n:st.nx=am:=Ws (λp:Out=>p.2.2) c;subst b e n;refine⟨u,[],st.nx,⟨λt=>rE _ _ _ _,by cases o.dst<;>rfl,by cases o.dst<;>rfl⟩,by simp,?_⟩;have q:sy T o ao=some u:=by
   rw[←j];refine WrR gd k λl x y v w d m=>r gd d ?_;unfold lw;rw[l];exact Mn _ y w d m
  refine⟨_,?_,by simp,λ_=>⟨λt=>rE (⟨ao.env,ao.objs,ao.nx⟩) o.dst u t,?_,?_⟩⟩
  .rw[zY,UG gd,q];rfl
  .cases o.dst<;>rfl
  .cases o.dst<;>rfl
theorem WxT{x:AVal}{b:Bool}(h:asB x=some b):x=one .bool b:=by
 unfold asB at h;split at h
 .injection h with h;subst h;rfl
 .cases h
theorem Gi{st:St}{t:Nat}{x:AVal}(h:Wt st.env t=some x)(t':Nat):Wt (st.put (some t) x).env t'=Wt st.env t':=by
 rw[rE];split
 .rename_i e;injection e with e;subst e;exact h.symm
 .rfl
theorem je(st:St)(d:Option Tmp)(x:AVal):(st.put d x).objs=st.objs:=by cases d<;>rfl
theorem vL(st:St)(d:Option Tmp)(x:AVal):(st.put d x).nx=st.nx:=by cases d<;>rfl
theorem Sd{o:Oper}{st ao:St}(h:∀x∈ar o.op,ev ao x=ev st x):lw o ao=lw o st:=by
 unfold lw;rw[R8 _ h]
theorem Yb{o:Oper}{st ai ao:St}(h:rxg T Γ A ops o st some=some ai)(N:∀t∈nQ ops o,Wt ao.env t=Wt st.env t)
  (E:bs o=true->ao.objs=st.objs/\ao.nx=st.nx) (O:bs o=false->∀z∈lw o st,Wt ao.objs z=Wt st.objs z):
  ∃v a am,Eff o v a am st ai/\(bs o=false->a= []/\am=st.nx)/\
   ∃c,rxg T Γ A ops o ao some=some c/\(bs o=true->Eff o v a am ao c)/\(bs o=false->Eff o v [] ao.nx ao c):=by
 have J:∀x∈ar o.op,ev ao x=ev st x:=λx f=>GA λt r=>N t (by
  unfold nQ;exact Xm _ (O1.2 ⟨x,f,r⟩))
 unfold rxg at h⊢;cases hg:o.guard with
 |none=>
  rw[hg]at h;exact V6 h J E O
 |some g=>
  obtain⟨j,d⟩:=g;rw[hg]at h;simp only at h⊢;cases r:(ops[j]?).bind (·.dst)with
  |none=>rw[r]at h;cases h
  |some t=>
   rw[r]at h;simp only at h⊢;have H:Wt ao.env t=Wt st.env t:=N t (by
    unfold nQ;refine Xi _ ?_;rw[hg];simp only;rw[r];simp)
   rw[H];cases f:Wt st.env t with
   |none=>rw[f]at h;cases h
   |some x=>
    rw[f]at h;have k:∀(s u:St) (I:St),some (s.put o.dst (.tup []))=some I->(∀t,Wt s.env t=Wt st.env t)->s.objs=st.objs->s.nx=st.nx->(∀t,Wt u.env t=Wt ao.env t)->u.objs=ao.objs->u.nx=ao.nx->
      ∃v a am,Eff o v a am st I/\(bs o=false->a= []/\am=st.nx)/\
       ∃c,some (u.put o.dst (.tup []))=some c/\(bs o=true->Eff o v a am ao c)/\(bs o=false->Eff o v [] ao.nx ao c):=by
     intro s u I F U V W K L M;injection F with F;subst F;refine⟨.tup [],[],st.nx,⟨λt=>?_,by rw[je,V];rfl,by rw[vL,W]⟩,λ_=>⟨rfl,rfl⟩,_,rfl,λi=>⟨λt=>?_,by rw[je,L];rfl,by rw[vL,M];exact(E i).2⟩,λ_=>⟨λt=>?_,by rw[je,L];rfl,by rw[vL,M]⟩⟩
     .rw[rE,U]
     .rw[rE,K]
     .rw[rE,K]
    have m:∀b:Bool,x=one .bool b->rx1 T Γ A o (st.put (some t) (one .bool b)) some=some ai->
      ∃v a am,Eff o v a am st ai/\(bs o=false->a= []/\am=st.nx)/\
       ∃c,rx1 T Γ A o (ao.put (some t) (one .bool b)) some=some c/\(bs o=true->Eff o v a am ao c)/\(bs o=false->Eff o v [] ao.nx ao c):=by
     intro b q h1;subst q;have P:=Gi f;have G:=Gi (st:=ao) (t:=t) (x:=one .bool b) (by rw[H];exact f);have S:∀x∈ar o.op,ev (st.put (some t) (one .bool b)) x=ev st x:=λx f=>GA λt' _=>P t';have xR:∀x∈ar o.op,ev (ao.put (some t) (one .bool b)) x=ev ao x:=λx f=>GA λt' _=>G t';obtain⟨v,a,am,B,Y,c,Z,C,D⟩:=V6 (ao:=ao.put (some t) (one .bool b)) h1 (λx f=>by rw[xR x f,S x f,J x f])
      (λi=>E i) (λjM z X=>O jM z (by rw[←Sd S];exact X))
     refine⟨v,a,am,⟨λt'=>by rw[B.env,P],B.objs,B.nx⟩,Y,c,Z,λi=>⟨λt'=>by rw[(C i).env,G],(C i).objs,(C i).nx⟩,λi=>⟨λt'=>by rw[(D i).env,G],(D i).objs,(D i).nx⟩⟩
    have n:(match asB x with
      |some b=>bif b
       then(if d then rx1 T Γ A o (st.put (some t) (one .bool true)) some else some ((st.put (some t) (one .bool true)).put o.dst (.tup [])))
       else(if d then some ((st.put (some t) (one .bool false)).put o.dst (.tup []))else rx1 T Γ A o (st.put (some t) (one .bool false)) some)
      |none=>none)=some ai->∃v a am,Eff o v a am st ai/\(bs o=false->a= []/\am=st.nx)/\
       ∃c,(match asB x with
      |some b=>bif b
       then(if d then rx1 T Γ A o (ao.put (some t) (one .bool true)) some else some ((ao.put (some t) (one .bool true)).put o.dst (.tup [])))
       else(if d then some ((ao.put (some t) (one .bool false)).put o.dst (.tup []))else rx1 T Γ A o (ao.put (some t) (one .bool false)) some)
      |none=>none)=some c/\(bs o=true->Eff o v a am ao c)/\(bs o=false->Eff o v [] ao.nx ao c):=by
     intro h;cases q:asB x with
     |none=>rw[q]at h;cases h
     |some b=>
      rw[q]at h;have w:=WxT q;have Q:∀p,p=b->∀t',Wt (st.put (some t) (one .bool p)).env t'=Wt st.env t':=λp e=>by subst e;exact Gi (by rw[f,w])
      have R:∀p,p=b->∀t',Wt (ao.put (some t) (one .bool p)).env t'=Wt ao.env t':=λp e=>by subst e;exact Gi (by rw[H,f,w])
      cases b<;>cases d
      .exact m false w h
      .exact k _ _ _ h (Q _ rfl) (je _ _ _) (vL _ _ _) (R _ rfl) (je _ _ _) (vL _ _ _)
      .exact k _ _ _ h (Q _ rfl) (je _ _ _) (vL _ _ _) (R _ rfl) (je _ _ _) (vL _ _ _)
      .exact m true w h
    cases x with
    |s y=>exact n h
    |tup l=>
     cases l with
     |nil=>exact k st ao ai h (λ_=>rfl) rfl rfl (λ_=>rfl) rfl rfl
     |cons y l=>exact n h
end
structure Rc where
 i:Nat
 v:AVal
 pre:af
 nx:Nat
 ids:List Nat
 mv:Bool
section
variable{T:Tab}{Γ:Ctx}{A:List (Nat×An)}{ops:Array Oper}
structure StepTo(T:Tab)(Γ:Ctx)(A:List (Nat×An))(ops:Array Oper)(ρ:Rc)(o:Oper)(st ai:St):Prop where
 at_:ops[ρ.i]?=some o
 isM:ρ.mv=bs o
 lk:ρ.mv=false->ρ.ids=lw o st
 run:rxg T Γ A ops o st some=some ai
 env:∀t,Wt ai.env t=if o.dst=some t then some ρ.v else Wt st.env t
 objs:ai.objs=if ρ.mv then ρ.pre++st.objs else st.objs
 nx:ai.nx=if ρ.mv then ρ.nx else st.nx
def wu(T:Tab)(Γ:Ctx)(A:List (Nat×An))(ops:Array Oper):List Rc->St->St->Prop
 | [],st,ai=>st=ai
 |ρ::l,st,ai=>∃o a,StepTo T Γ A ops ρ o st a/\wu T Γ A ops l a ai
theorem Yk{i:Nat}{o:Oper}{st ai:St}(hi:ops[i]?=some o)(h:rxg T Γ A ops o st some=some ai):
  ∃ρ:Rc,ρ.i=i/\StepTo T Γ A ops ρ o st ai:=by
 obtain⟨v,b,am,a,c,_⟩:=Yb (ao:=st) h (λ_ _=>rfl) (λ_=>⟨rfl,rfl⟩) (λ_ _ _=>rfl);refine⟨⟨i,v,b,am,lw o st,bs o⟩,rfl,hi,rfl,λ_=>rfl,h,a.env,?_,?_⟩
 .simp only;cases hm:bs o with
  |true=>simpa using a.objs
  |false=>rw[a.objs,(c hm).1];rfl
 .simp only;cases hm:bs o with
  |true=>simpa using a.nx
  |false=>rw[a.nx,(c hm).2];rfl
theorem StepTo.move{ρ:Rc}{o:Oper}{st ai ao:St}(h:StepTo T Γ A ops ρ o st ai)(m:∀t∈nQ ops o,Wt ao.env t=Wt st.env t)
  (n:ρ.mv=true->ao.objs=st.objs/\ao.nx=st.nx) (i:ρ.mv=false->∀j∈ρ.ids,Wt ao.objs j=Wt st.objs j):
  ∃cG,StepTo T Γ A ops ρ o ao cG:=by
 obtain⟨v,u,am,k,y,cG,l,f,g⟩:=Yb (ao:=ao) h.run m (λe=>n (by rw[h.isM];exact e)) (λq j r=>i (by rw[h.isM];exact q) j (by rw[h.lk (by rw[h.isM];exact q)];exact r));have p:∀t,o.dst=some t->v=ρ.v:=λt d=>by
  have a:=k.env t;have b:=h.env t;rw[Wf d]at a b;rw[a]at b;injection b
 have w:ρ.mv=false->lw o ao=lw o st:=λ_=>Sd λx s=>GA λt d=>m t (by
  unfold nQ;exact Xm _ (O1.2 ⟨x,s,d⟩))
 cases e:bs o with
 |true=>
  have c:ρ.mv=true:=by rw[h.isM];exact e
  have f:=f e;obtain⟨z,B⟩:=n c;refine⟨cG,h.at_,h.isM,λi=>(by rw[c]at i;cases i),l,λt=>?_,?_,?_⟩
  .rw[f.env];split
   .rename_i d;rw[p t d]
   .rfl
  .rw[f.objs,c];simp only[W1];have a:=k.objs;have b:=h.objs;rw[c]at b;simp only[W1]at b;rw[a]at b;rw[List.append_cancel_right b]
  .rw[f.nx,c];simp only[W1];have a:=k.nx;have b:=h.nx;rw[c]at b;simp only[W1]at b;rw[←a,b]
 |false=>
  have c:ρ.mv=false:=by rw[h.isM];exact e
  have g:=g e;refine⟨cG,h.at_,h.isM,λi=>by rw[w c];exact h.lk c,l,λt=>?_,?_,?_⟩
  .rw[g.env];split
   .rename_i d;rw[p t d]
   .rfl
  .rw[g.objs,c];rfl
  .rw[g.nx,c];rfl
def HT(a:List Nat)(pre:af):Prop:=∀b∈a,b∉sc pre
def ON(B:List (List Nat))(x y:Rc):Prop:=
 (x.mv=false->y.mv=true->d1 B x.i y.i=true\/HT x.ids y.pre)/\
 (x.mv=true->y.mv=false->d1 B x.i y.i=true\/HT y.ids x.pre)
theorem mH{α:Type}:∀(l:List Nat) (k:List Nat->α),pD l k=k l
 | [],_=>rfl
 |x::l,k=>by rw[pD,mH l]
theorem GQ{α:Type}:∀(l:List (List Nat)) (k:List (List Nat)->α),HF l k=k l
 | [],_=>rfl
 |x::l,k=>by rw[HF,mH,GQ l]
theorem TN{a:List Nat}{pre:af}(h:iA a (sc pre)=true):HT a pre:=λb c d=>by
 unfold iA at h;have:=bH.1 h b c;rw[(j7 b _).2 d]at this;cases this
theorem WqY(pre objs:af):HI objs (pre++objs)=sc pre:=by
 unfold HI;simp
theorem Ng{B:List (List Nat)}{R:Type}{k:St->Option R}{r:R}:∀(l:List Nat) (fl s:List (Nat×List Nat)) (st:St),rdx T Γ A ops B l fl s st k=some r->
  ∃(c:List Rc) (ai:St),c.map (·.i)=l/\wu T Γ A ops c st ai/\k ai=some r/\c.Pairwise (ON B)/\
   (∀p∈fl,∀ρ∈c,ρ.mv=true->d1 B p.1 ρ.i=true\/HT p.2 ρ.pre)/\
   (∀p∈s,∀ρ∈c,ρ.mv=false->d1 B p.1 ρ.i=true\/iA ρ.ids p.2=true)
 | [],fl,s,st,h=>⟨[],st,rfl,rfl,h,List.Pairwise.nil,by simp,by simp⟩
 |i::l,fl,s,st,h=>by
  simp only[rdx]at h;cases ho:ops[i]? with
  |none=>rw[ho]at h;cases h
  |some o=>
   rw[ho]at h;simp only at h;cases hm:bs o with
   |true=>
    simp only[hm,Wa]at h;obtain⟨w,x,d⟩:=DH h;rw[mH]at d;obtain⟨q,d⟩:=W9 d;obtain⟨ρ,e,f⟩:=Yk ho x;have g:ρ.mv=true:=by rw[f.isM];exact hm
    have v:=f.objs;rw[g]at v;simp only[W1]at v;rw[v,WqY]at q d;obtain⟨c,ai,z,C,D,E,t,u⟩:=Ng l _ _ _ d;refine⟨ρ::c,ai,by simp[e,z],⟨o,w,f,C⟩,D,List.Pairwise.cons (λy a=>⟨λn=>(by rw[g]at n;cases n),λ_ j=>?_⟩) E,λp b y a m=>?_,λp b y a j=>?_⟩
    .rcases u (i,sc ρ.pre) (Xl ..) y a j with h|h
     .rw[e];exact .inl h
     .exact .inr (TN h)
    .rcases Xq.1 a with rfl|a
     .have:=bH.1 q p b;rw[qj]at this;rw[e];exact this.imp id TN
     .exact t p b y a m
    .rcases Xq.1 a with rfl|a
     .rw[g]at j;cases j
     .exact u p (Xg _ b) y a j
   |false=>
    simp only[hm,Wb]at h;rw[mH]at h;obtain⟨q,h⟩:=W9 h;obtain⟨w,x,d⟩:=DH h;obtain⟨ρ,e,f⟩:=Yk ho x;have g:ρ.mv=false:=by rw[f.isM];exact hm
    have F:=f.lk g;rw[←F]at q d;obtain⟨c,ai,z,C,D,E,t,u⟩:=Ng l _ _ _ d;refine⟨ρ::c,ai,by simp[e,z],⟨o,w,f,C⟩,D,List.Pairwise.cons (λy a=>⟨λ_ m=>?_,λn=>(by rw[g]at n;cases n)⟩) E,λp b y a m=>?_,λp b y a j=>?_⟩
    .rw[e];exact t (i,ρ.ids) (Xl ..) y a m
    .rcases Xq.1 a with rfl|a
     .rw[g]at m;cases m
     .exact t p (Xg _ b) y a m
    .rcases Xq.1 a with rfl|a
     .have:=bH.1 q p b;rw[qj]at this;rw[e];exact this
     .exact u p b y a j
def fO(ops:Array Oper)(i:Nat):Option Tmp:=(ops[i]?).bind (·.dst)
def jB(ops:Array Oper):List Rc->(Nat->Option AVal)->Nat->Option AVal
 | [],e,t=>e t
 |ρ::a,e,t=>jB ops a (λb=>if fO ops ρ.i=some b then some ρ.v else e b) t
def dH:List Rc->af×Nat->af×Nat
 | [],m=>m
 |ρ::a,m=>dH a (if ρ.mv then(ρ.pre++m.1,ρ.nx)else m)
theorem Mp:∀(a:List Rc) (st ai:St),wu T Γ A ops a st ai->(∀t,Wt ai.env t=jB ops a (Wt st.env) t)/\(ai.objs,ai.nx)=dH a (st.objs,st.nx)
 | [],st,ai,h=>by cases h;exact⟨λ_=>rfl,rfl⟩
 |ρ::a,st,ai,⟨o,c,b,h⟩=>by
  obtain⟨d,f⟩:=Mp a c ai h;have e:(Wt c.env)= λt'=>if fO ops ρ.i=some t' then some ρ.v else Wt st.env t':=funext λt=>by
   rw[b.env];unfold fO;rw[b.at_];rfl
  refine⟨λt=>by rw[d,e];rfl,?_⟩;rw[f,dH];congr 1;rw[b.objs,b.nx];split<;>rfl
theorem TP:∀(a:List Rc) (ρ:Rc) (b:List Rc) (st ai:St),wu T Γ A ops (a++ρ::b) st ai->∃o c e,wu T Γ A ops a st c/\StepTo T Γ A ops ρ o c e
 | [],ρ,b,st,ai,⟨o,c,d,h⟩=>⟨o,st,c,rfl,d⟩
 |x::a,ρ,b,st,ai,⟨o,c,d,h⟩=>by
  obtain⟨i,j,k,f,g⟩:=TP a ρ b c ai h;exact⟨i,j,k,⟨o,c,d,f⟩,g⟩
theorem ve:∀(a:List Rc) (m:af×Nat),dH a m=dH (a.filter (·.mv)) m
 | [],_=>rfl
 |ρ::a,m=>by
  rw[dH,ve a,eH];cases h:ρ.mv with
  |true=>simp only[W1,dH,h]
  |false=>simp only[dL,dO]
theorem Gk:∀(a b:List Rc) (m:af×Nat),dH (a++b) m=dH b (dH a m)
 | [],_,_=>rfl
 |ρ::a,b,m=>by rw[dM,dH,Gk a b];rfl
theorem WjG{pre objs:af}{id:Nat}(h:id∉sc pre):Wt (pre++objs) id=Wt objs id:=by
 induction pre with
 |nil=>rfl
 |cons p pre ih=>
  obtain⟨j,a⟩:=p;simp only[sc,bn,Xq,not_or]at h;rw[dM,WM,We (λe=>h.1 e.symm)];exact ih h.2
theorem MJ{b:Nat}:∀(a:List Rc) (m:af×Nat),(∀ρ∈a,ρ.mv=true->b∉sc ρ.pre)->Wt (dH a m).1 b=Wt m.1 b
 | [],_,_=>rfl
 |ρ::a,m,h=>by
  rw[dH,MJ a _ λx c=>h x (Xg _ c)];split
  .rename_i hm;exact WjG (h ρ (Xl ..) hm)
  .rfl
def Hh(ops:Array Oper):Prop:=∀i j t,fO ops i=some t->fO ops j=some t->i=j
theorem GM{t:Nat}:∀(a:List Rc) (e:Nat->Option AVal),(∀ρ∈a,fO ops ρ.i≠some t)->jB ops a e t=e t
 | [],_,_=>rfl
 |ρ::a,e,h=>by
  rw[jB,GM a _ λx b=>h x (Xg _ b),We (h ρ (Xl ..))]
theorem Mt{t:Nat}(d:Hh ops):∀(a:List Rc) (e:Nat->Option AVal),(a.map (·.i)).Nodup->∀ρ∈a,fO ops ρ.i=some t->jB ops a e t=some ρ.v
 | [],_,_,_,h,_=>by cases h
 |x::a,e,b,ρ,c,ht=>by
  rw[bn,cx]at b;rw[jB];rcases Xq.1 c with rfl|c
  .rw[GM a _ λy g f=>b.1 (by rw[d _ _ _ ht f];exact Xx.2 ⟨y,g,rfl⟩),Wf ht]
  .exact Mt d a _ b.2 ρ c ht
theorem TS{t:Nat}(g:Hh ops){a b:List Rc}{e:Nat->Option AVal}(j:(a.map (·.i)).Nodup)(k:(b.map (·.i)).Nodup)
  (h:∀ρ,fO ops ρ.i=some t->(ρ∈a↔ρ∈b)):jB ops a e t=jB ops b e t:=by
 by_cases f:∃ρ∈a,fO ops ρ.i=some t
 .obtain⟨ρ,d,c⟩:=f;rw[Mt g a e j ρ d c,Mt g b e k ρ ((h ρ c).1 d) c]
 .rw[GM a e λρ d c=>f ⟨ρ,d,c⟩,GM b e λρ d c=>f ⟨ρ,(h ρ c).2 d,c⟩]
end
theorem L9{α:Type}{x:α}:∀{a c b d:List α},(a++x::b).Nodup->a++x::b=c++x::d->a=c
 | [],[],_,_,_,_=>rfl
 | [],y::c,b,d,e,h=>by
  simp only[dn,dM,List.cons.injEq]at h;obtain⟨rfl,h⟩:=h;rw[dn,cx]at e;exact Wy (by rw[h];simp) e.1
 |y::a,[],b,d,e,h=>by
  simp only[dn,dM,List.cons.injEq]at h;obtain⟨rfl,h⟩:=h;rw[dM,cx]at e;exact Wy (by simp) e.1
 |y::a,z::c,b,d,e,h=>by
  simp only[dM,List.cons.injEq]at h;obtain⟨rfl,h⟩:=h;rw[dM,cx]at e;rw[L9 e.2 h]
def br(ops:Array Oper)(i:Nat):Bool:=match ops[i]? with
 |some o=>bs o
 |none=>false
theorem Rel.same{w0:World}{F:CS}{nt:Slots}{G0 G:GH}{ν:Nat->Nu}{st ao:St}{a:Act}{w:World}(h:Rel w0 F nt G0 G ν st a w)
  (d:∀t,Wt ao.env t=Wt st.env t) (e:ao.objs=st.objs) (b:ao.nx=st.nx):Rel w0 F nt G0 G ν ao a w:=
 ⟨h.defers,h.ntm,h.par,λi x c=>by rw[d]at c;rw[b];exact h.env i x c,by rw[e,b];exact h.h,h.gx,λx v f=>by rw[b];exact h.ex x v f⟩
theorem YU:∀(c:List Rc),(c.map (·.i)).Nodup->∃a:Nat->Rc,∀ρ∈c,a ρ.i=ρ
 | [],_=>⟨λi=>⟨i,.tup [],[],0,[],false⟩,by simp⟩
 |ρ::c,h=>by
  rw[bn,cx]at h;obtain⟨a,d⟩:=YU c h.2;refine⟨λi=>if i=ρ.i then ρ else a i,λx b=>?_⟩;rcases Xq.1 b with rfl|b
  .simp
  .simp only;rw[We (λe=>h.1 (by rw[←e];exact Xx.2 ⟨x,b,rfl⟩))];exact d x b
section
variable{w0:World}{F:CS}{nt:Slots}{G0:GH}{P:Program}{T:Tab}{Γ:Ctx}{A:List (Nat×An)}{ops:Array Oper}{Q:Exit->Act->World->Prop}
theorem Wty(hT:au P T)(hΓ:eC P Γ)(hd:∀o∈ops,∀d,o.dst=some d->nt.Ok d){l L:List Nat}(J:Order ops l)(U:Order ops L)(gt:Hh ops)
  (kx:∀(i:Nat) (o:Oper) (t:Nat),ops[i]?=some o->t∈nQ ops o->∀j,fO ops j=some t->j=i\/d1 (dW ops.toList []) j i=true\/d1 (dW ops.toList []) i j=true)
  (hσ:l.filter (br ops)=L.filter (br ops)) {rs:List Rc} {st ai:St} (jQ:rs.map (·.i)=L) (mV:wu T Γ A ops rs st ai) (db:rs.Pairwise (ON (dW ops.toList [])))
  (hK:∀a w G ν,Rel w0 F nt G0 G ν ai a w->Q .normal a w) {a:Act} {w:World} {G:GH} {ν:Nat->Nu} (hr:Rel w0 F nt G0 G ν st a w):wpOps P ops Q l a w:=by
 have bt:(rs.map (·.i)).Nodup:=by rw[jQ];exact U.nodup
 obtain⟨rec,dx⟩:=YU rs bt;have D:L.map rec=rs:=by
  rw[←jQ,EC]
  conv=>rhs;rw[←Xhr rs]
  exact Xfm λρ f=>dx ρ f
 have ll:∀i,i∈l↔i∈L:=λi=>by rw[←J.all,U.all]
 have n:∀i∈L,(rec i).i=i/\rec i∈rs:=λi b=>by
  rw[←jQ]at b;obtain⟨ρ,f,rfl⟩:=Xx.1 b;rw[dx ρ f];exact⟨rfl,f⟩
 have mW:∀i∈L,∃pre post o H ao,L=pre++i::post/\wu T Γ A ops (pre.map rec) st H/\StepTo T Γ A ops (rec i) o H ao:=λi b=>by
  obtain⟨pre,post,e⟩:=Ih b;have:rs=pre.map rec++rec i::post.map rec:=by rw[←D,e];simp
  rw[this]at mV;obtain⟨o,H,ao,h1,M⟩:=TP _ _ _ _ _ mV;exact⟨pre,post,o,H,ao,e,h1,M⟩
 have jL:∀i∈L,(rec i).mv=br ops i:=λi b=>by
  obtain⟨pre,post,o,H,ao,e,h1,M⟩:=mW i b;rw[M.isM];have:=M.at_;rw[(n i b).1]at this;unfold br;rw[this]
 have O:∀(p:List Nat),(∀i∈p,i∈L)->(p.map rec).filter (·.mv)=(p.filter (br ops)).map rec:=by
  intro p
  induction p with
  |nil=>intro _;rfl
  |cons i p ih=>
   intro h;have:=ih λj c=>h j (Xg _ c);rw[bn,eH,eH,jL i (h i (Xl ..))];split
   .rw[bn,this]
   .exact this
 have rk:∀(p:List Nat),(∀i∈p,i∈L)->(p.map rec).map (·.i)=p:=by
  intro p h;rw[EC]
  conv=>rhs;rw[←Xhr p]
  exact Xfm λi b=>(n i (h i b)).1
 have dT:∀(p:List Nat),(∀i∈p,i∈L)->∀i∈L,(rec i∈p.map rec↔i∈p):=λp hp i b=>by
  constructor
  .intro h;obtain⟨j,c,e⟩:=Xx.1 h;have:j=i:=by rw[←(n j (hp j c)).1,←(n i b).1,e]
   rw[←this];exact c
  .exactλh=>Xx.2 ⟨i,h,rfl⟩
 have qx:∀i j pre post,L=pre++i::post->j∈post->ON (dW ops.toList []) (rec i) (rec j):=λi j pre post e c=>by
  have:rs=pre.map rec++rec i::post.map rec:=by rw[←D,e];simp
  rw[this,List.pairwise_append]at db;exact(List.pairwise_cons.1 db.2.1).1 _ (Xx.2 ⟨j,c,rfl⟩)
 suffices main:∀(s p:List Nat),l=p++s->∀(ao:St) (a:Act) (w:World) (G:GH) (ν:Nat->Nu),Rel w0 F nt G0 G ν ao a w->
   (∀t,Wt ao.env t=jB ops (p.map rec) (Wt st.env) t)->(ao.objs,ao.nx)=dH (p.map rec) (st.objs,st.nx)->wpOps P ops Q s a w from
  main l [] rfl st a w G ν hr (λ_=>rfl) rfl
 intro s
 induction s with
 |nil=>
  intro p e ao a w G ν lL he B;rw[iN]at e;subst e;obtain⟨f1,f2⟩:=Mp _ _ _ mV;have Y:∀i∈l,i∈L:=λi b=>(ll i).1 b;refine hK a w G ν (lL.same (λt=>?_) ?_ ?_)
  .rw[f1,he];refine TS gt bt (by rw[rk l Y];exact J.nodup) λρ _=>?_;constructor
   .intro f;have b:ρ.i∈L:=by rw[←jQ];exact Xx.2 ⟨ρ,f,rfl⟩
    rw[←dx ρ f];exact(dT l Y ρ.i b).2 ((ll _).2 b)
   .intro f;obtain⟨i,b,rfl⟩:=Xx.1 f;exact(n i (Y i b)).2
  .have:dH (l.map rec) (st.objs,st.nx)=dH rs (st.objs,st.nx):=by
    rw[ve,O l Y,hσ,←O L (λi b=>b),←ve,D]
   rw[this,←f2]at B;exact(Ws (·.1) B).symm
  .have:dH (l.map rec) (st.objs,st.nx)=dH rs (st.objs,st.nx):=by
    rw[ve,O l Y,hσ,←O L (λi b=>b),←ve,D]
   rw[this,←f2]at B;exact(Ws (·.2) B).symm
 |cons i s ih=>
  intro p e ao a w G ν lL he B;have R:i∈L:=(ll i).1 (by rw[e];simp);have Z:∀j∈p,j∈L:=λj c=>(ll j).1 (by rw[e];exact Xm _ c);obtain⟨pre,post,o,H,B9,C,h1,M⟩:=mW i R;have lm:∀j∈pre,j∈L:=λj c=>by rw[C];exact Xm _ c
  have wM:ops[i]?=some o:=by have:=M.at_;rw[(n i R).1]at this;exact this
  obtain⟨g1,g2⟩:=Mp _ _ _ h1;have pR:=J.nodup;have pS:=U.nodup;rw[e]at pR;rw[C]at pS;have un:i∉p:=λh=>(dm.1 pR).2.2 i h i (Xl ..) rfl;have ln:i∉pre:=λh=>(dm.1 pS).2.2 i h i (Xl ..) rfl;have rn:∀t∈nQ ops o,Wt ao.env t=Wt H.env t:=λt ht=>by
   rw[he,g1];refine TS gt (by rw[rk p Z];exact(dm.1 pR).1) (by rw[rk pre lm];exact(dm.1 pS).1) λρ E=>?_;have V:∀j∈L,fO ops j=some t->(j∈p↔j∈pre):=λj c xD=>by
    rcases kx i o t wM ht j xD with rfl|g|g
    .exact⟨λh=>Wy h un,λh=>Wy h ln⟩
    .by_cases rq:j=i
     .subst rq;exact⟨λh=>Wy h un,λh=>Wy h ln⟩
     .exact⟨λ_=>U.bef' C g rq,λ_=>J.bef' e g rq⟩
    .exact⟨λh=>Wy (J.bef e g h) un,λh=>Wy (U.bef C g h) ln⟩
   constructor
   .intro f;obtain⟨j,c,rfl⟩:=Xx.1 f;have uq:=Z j c;rw[(n j uq).1]at E;exact Xx.2 ⟨j,(V j uq E).1 c,rfl⟩
   .intro f;obtain⟨j,c,rfl⟩:=Xx.1 f;have uq:=lm j c;rw[(n j uq).1]at E;exact Xx.2 ⟨j,(V j uq E).2 c,rfl⟩
  have AR:dH (p.map rec) (st.objs,st.nx)=dH ((p.filter (br ops)).map rec) (st.objs,st.nx):=by rw[ve,O p Z]
  have qy:dH (pre.map rec) (st.objs,st.nx)=dH ((pre.filter (br ops)).map rec) (st.objs,st.nx):=by rw[ve,O pre lm]
  obtain⟨Ca,h3⟩:=M.move (ao:=ao) rn (λgd=>by
   have wN:br ops i=true:=by rw[←jL i R];exact gd
   have:p.filter (br ops)=pre.filter (br ops):=by
    have q:=hσ;rw[e,C,qk,qk,eH,eH,Wf wN,Wf wN]at q;refine L9 ?_ q;have:=J.nodup.filter (br ops);rw[e,qk,eH,Wf wN]at this;exact this
   rw[AR,this,←qy,←g2]at B;exact⟨Ws (·.1) B,Ws (·.2) B⟩) (λjM id cj=>by
   have q:(p.filter (br ops))<+:l.filter (br ops):=by rw[e,qk];exact Xhi _ _
   have q2:(pre.filter (br ops))<+:l.filter (br ops):=by rw[hσ,C,qk];exact Xhi _ _
   have xy:ao.objs=(dH ((p.filter (br ops)).map rec) (st.objs,st.nx)).1:=by rw[←AR,←B]
   have wF:H.objs=(dH ((pre.filter (br ops)).map rec) (st.objs,st.nx)).1:=by rw[←qy,←g2]
   rw[xy,wF];rcases List.prefix_or_prefix_of_prefix q q2 with⟨X,I⟩|⟨X,I⟩
   .
    rw[←I,Xy,Gk];refine(MJ _ _ λρ f N=>?_).symm;obtain⟨m,S,rfl⟩:=Xx.1 f;have kI:m∈pre:=(eA.1 (by rw[←I];exact Xi _ S:m∈pre.filter (br ops))).1;have rr:m∉p:=λaK=>by
     have xT:br ops m=true:=(eA.1 (by rw[←I];exact Xi _ S:m∈pre.filter (br ops))).2;have W:(pre.filter (br ops)).Nodup:=(dm.1 pS).1.filter _;rw[←I]at W;exact(dm.1 W).2.2 m (eA.2 ⟨aK,xT⟩) m S rfl
    obtain⟨u,v,eu⟩:=Ih kI;have hf:=qx m i u (v++i::post) (by rw[C,eu];simp) (by simp);rcases hf.2 N jM with g|g
    .rw[(n m (lm m kI)).1,(n i R).1]at g;exact Wy (J.bef' e g (λhc=>ln (hc▸kI))) rr
    .exact g id cj
   .rw[←I,Xy,Gk];refine MJ _ _ λρ f N=>?_;obtain⟨m,S,rfl⟩:=Xx.1 f;have AS:m∈p.filter (br ops):=by rw[←I];exact Xi _ S
    have pT:m∈p:=(eA.1 AS).1;have rr:m∉pre:=λaK=>by
     have xT:br ops m=true:=(eA.1 AS).2;have W:(p.filter (br ops)).Nodup:=(dm.1 pR).1.filter _;rw[←I]at W;exact(dm.1 W).2.2 m (eA.2 ⟨aK,xT⟩) m S rfl
    have AT:=Z m pT;have rt:m∈post:=by
     rw[C]at AT;rcases Xo.1 AT with h|h
     .exact Wy h rr
     .rcases Xq.1 h with h|h
      .exact Wy (h▸pT) un
      .exact h
    have hf:=qx i m pre post C rt;rcases hf.1 jM N with g|g
    .rw[(n m (Z m pT)).1,(n i R).1]at g;exact Wy (J.bef e g pT) un
    .exact g id cj)
  have Cb:∀d,o.dst=some d->nt.Ok d:=hd o (Array.mem_of_getElem? wM);have wP:=YM (F:=F) (G0:=G0) (w0:=w0) hT hΓ Cb (Q:=Q) (k:=some) (r:=Ca) (K:=wpOps P ops Q s) (λCc a' w' G' ν' hr4 h4=>by
   injection h4 with h4;subst h4;refine ih (p++ [i]) (by rw[e];simp) Cc a' w' G' ν' hr4 (λt=>?_) ?_
   .rw[h3.env];have hv:jB ops ((p++ [i]).map rec) (Wt st.env) t=if fO ops i=some t then some (rec i).v else jB ops (p.map rec) (Wt st.env) t:=by
     rw[Xy];have gen:∀(x:List Rc) (y:Rc) (e:Nat->Option AVal),jB ops (x++ [y]) e t=if fO ops y.i=some t then some y.v else jB ops x e t:=by
      intro x
      induction x with
      |nil=>intro y e;rfl
      |cons z x ih=>intro y e;rw[dM,jB,ih];rfl
     rw[List.map_singleton,gen,(n i R).1]
    rw[hv,he];have:fO ops i=o.dst:=by unfold fO;rw[wM];rfl
    rw[this]
   .rw[Xy,Gk,←B];simp only[bn,eL,dH];rw[h3.objs,h3.nx];split<;>rfl) lL h3.run
  rw[wpOps_cons];unfold wpOp;rw[wM];simp only;split
  .rename_i hw;rw[Wf hw]at wP;exact .inl wP
  .rename_i hw;rw[We hw]at wP;exact wP
end
theorem Tj:∀{l:List (Nat×Nat)},en (l.map (·.1))=true->∀p∈l,∀q∈l,p.1=q.1->p=q
 | [],_,p,d,_,_,_=>by cases d
 |x::l,h,p,d,q,f,e=>by
  have c:=(Gv _).1 h;simp only[bn,en,Xh]at h;rw[bn,cx]at c;rcases Xq.1 d with b|b
  .rcases Xq.1 f with a|a
   .rw[b,a]
   .exact Wy (Xx.2 ⟨q,a,by rw[←e,b]⟩) c.1
  .rcases Xq.1 f with a|a
   .exact Wy (Xx.2 ⟨p,b,by rw[e,a]⟩) c.1
   .exact Tj h.2 p b q a e
theorem TW:∀(l:List Oper) (n k:Nat) (o:Oper) (d:Nat),l[k]?=some o->o.dst=some d->(d,n+k)∈rZ l n
 | [],_,k,o,d,h,_=>by simp at h
 |x::l,n,k,o,d,h,hd=>by
  cases k with
  |zero=>
   simp at h;subst h;simp only[rZ,hd];exact Xl ..
  |succ k=>
   have:=TW l (n+1) k o d (by simpa using h) hd;have e:n+(k+1)=n+1+k:=by omega
   rw[e];simp only[rZ];split
   .exact Xg _ this
   .exact this
theorem So{ops:Array Oper}{B:List (List Nat)}{D:List (Nat×Nat)}:∀(l:List Oper) (n:Nat),HD ops B D l n=true->∀(k:Nat) (o:Oper),l[k]?=some o->∀t∈nQ ops o,∀p∈D,p.1=t->
  p.2=n+k\/d1 B p.2 (n+k)=true\/d1 B (n+k) p.2=true
 | [],_,_,k,o,h=>by simp at h
 |x::l,n,h,k,o,hk=>by
  simp only[HD,Xh]at h;cases k with
  |zero=>
   simp at hk;subst hk;intro t b p a e;have:=bH.1 (bH.1 h.1 t b) p a;simp only[qj,c5]at this;rcases this with((h1|h1)|h1)|h1
   .rw[e]at h1;simp at h1
   .exact .inl (by simpa using h1)
   .exact .inr (.inl h1)
   .exact .inr (.inr h1)
  |succ k=>
   have:=So l (n+1) h.2 k o (by simpa using hk);have e:n+(k+1)=n+1+k:=by omega
   rw[e];exact this
structure RegOk(ops:Array Oper):Prop where
 back:∀(k:Nat) (o:Oper),ops[k]?=some o->∀d∈gy o,d<k
 one:Hh ops
 slots:∀(i:Nat) (o:Oper) (t:Nat),ops[i]?=some o->t∈nQ ops o->∀j,fO ops j=some t->j=i\/d1 (dW ops.toList []) j i=true\/d1 (dW ops.toList []) i j=true
theorem MB{ops:Array Oper}{j t:Nat}(h:fO ops j=some t):(t,j)∈rZ ops.toList 0:=by
 unfold fO at h;obtain⟨o,b,a⟩:=jP.1 h;have:=TW ops.toList 0 j o t (by simpa using b) a;rw[cb]at this;exact this
theorem Wrn{ops:Array Oper}(h:HN ops (dW ops.toList [])=true):RegOk ops:=by
 simp only[HN,Xh]at h;obtain⟨⟨c,d⟩,f⟩:=h;refine⟨λk o b e g=>?_,λi j t l a=>?_,λi o t b m j a=>?_⟩
 .have:=To (ops:=ops) ops.toList 0 c k o (by simpa using b) e g;omega
 .have:=Tj d _ (MB l) _ (MB a) rfl;exact Ws (·.2) this
 .have:=So ops.toList 0 f i o (by simpa using b) t m _ (MB a) rfl;simpa using this
theorem TQ{ops:Array Oper}:∀(l done:List Nat),na ops l done=true->done.Nodup->(∀i∈done,i<ops.size)->
  (done++l).Nodup/\(∀i∈done++l,i<ops.size)/\(done++l).length=ops.size/\(∀p i s,l=p++i::s->∀o,ops[i]?=some o->∀d∈gy o,d∈done++p)
 | [],done,h,g,ab=>by
  simp only[na]at h;exact⟨by simpa using g,by simpa using ab,by simpa using h,λp i s e=>by simp at e⟩
 |x::l,done,h,g,ab=>by
  simp only[na,Xh,c5]at h;obtain⟨⟨k,f⟩,u⟩:=h;have w:x∉done:=λv=>by rw[(j7 x done).2 v]at k;cases k
  cases ho:ops[x]? with
  |none=>rw[ho]at f;cases f
  |some o=>
   rw[ho]at f;have A:x<ops.size:=(wz.1 ho).1;obtain⟨n,q,r,t⟩:=TQ l (x::done) u (cx.2 ⟨w,g⟩) (λi b=>by
    rcases Xq.1 b with rfl|b
    .exact A
    .exact ab i b)
   have j:List.Perm (x::done++l) (done++x::l):=by simpa using(List.perm_middle (a:=x) (l₁:=done) (l₂:=l)).symm
   refine⟨j.nodup_iff.1 n,λi b=>q i (j.mem_iff.2 b),by rw[←j.length_eq];exact r,λp i s e z c d m=>?_⟩;cases p with
   |nil=>
    simp only[dn,List.cons.injEq]at e;obtain⟨rfl,_⟩:=e;rw[ho]at c;injection c with c;subst c;have:=bH.1 f d m;simpa using(j7 d done).1 this
   |cons y p=>
    simp only[dM,List.cons.injEq]at e;obtain⟨rfl,e⟩:=e;have:=t p i s e z c d m;simp only[dM,Xq,Xo]at this⊢;rcases this with h|h|h
    .exact .inr (.inl h)
    .exact .inl h
    .exact .inr (.inr h)
theorem Wpo{l:List Nat}{n:Nat}(s:l.Nodup)(o:∀i∈l,i<n)(t:l.length=n):∀i,i<n->i∈l:=by
 intro i r;refine Classical.byContradiction λh=>?_;have p:(i::l).Nodup:=cx.2 ⟨h,s⟩;have q:∀j∈i::l,j∈cK n:=λj c=>by
  rw[Ie];rcases Xq.1 c with rfl|c
  .exact r
  .exact o j c
 have d:∀(a b:List Nat),a.Nodup->(∀x∈a,x∈b)->a.length<=b.length:=by
  intro a
  induction a with
  |nil=>intro b _ _;simp
  |cons x a ih=>
   intro b f k;rw[cx]at f;have m:x∈b:=k x (Xl ..);have:=ih (b.erase x) f.2 λy g=>(Xhc (λe=>f.1 (by rw[←e];exact g))).2 (k y (Xg _ g));rw[Xgn m]at this;have u:=Xgt m;simp;omega
 have:=d _ _ p q;rw[O0,Xs]at this;omega
theorem Wpd{ops:Array Oper}{l:List Nat}(h:na ops l []=true):Order ops l:=by
 obtain⟨a,b,c,f⟩:=TQ l [] h qC (by simp);rw[dn]at a b c;exact⟨a,λi=>⟨Wpo a b c i,b i⟩,λp i s e o j d g=>by simpa using f p i s e o j d g⟩
theorem Ti:∀(l:List Oper) (n i:Nat),i∈kn l n↔n<=i/\∃o,l[i-n]?=some o/\bs o=true
 | [],n,i=>by simp[kn]
 |o::l,n,i=>by
  have g:=Ti l (n+1) i;have j:(n<=i/\∃a,(o::l)[i-n]?=some a/\bs a=true)↔(i=n/\bs o=true)\/(n+1<=i/\∃a,l[i-(n+1)]?=some a/\bs a=true):=by
   by_cases d:i=n
   .subst d;constructor
    .rintro⟨_,a,b,c⟩;rw[qz]at b;injection b with b;subst b;exact .inl ⟨rfl,c⟩
    .rintro(⟨_,h⟩|⟨h,_⟩)
     .exact⟨Xj _,o,by rw[qz];rfl,h⟩
     .omega
   .constructor
    .rintro⟨f,a,b,c⟩;have e:i-n=(i-(n+1))+1:=by omega
     rw[e,ZX]at b;exact .inr ⟨by omega,a,b,c⟩
    .rintro(⟨h,_⟩|⟨f,a,b,c⟩)
     .exact Wy h d
     .have e:i-n=(i-(n+1))+1:=by omega
      exact⟨by omega,a,by rw[e,ZX];exact b,c⟩
  rw[j,←g];simp only[kn];cases hm:bs o with
  |true=>simp
  |false=>simp
theorem Wog{ops:Array Oper}{i:Nat}:i∈kn ops.toList 0↔br ops i=true:=by
 rw[Ti];unfold br;simp only[kP,true_and,wZ,Array.getElem?_toList];cases ops[i]? with
 |none=>simp
 |some o=>simp
theorem Vp{B:List (List Nat)}:∀(σ rem:List Nat) (n:Nat),σ.length<=n->σ.Nodup->(∀i,i∈rem↔i∈σ)->(∀p m s,σ=p++m::s->∀a∈m::s,d1 B a m=false)->σ∈lY B n rem
 | [],rem,n,d,c,b,hb=>by
  have:rem= []:=Xfl.2 λi o=>by have:=(b i).1 o;cases this
  subst this;cases n<;>simp[lY]
 |m::s,rem,0,d,_,_,_=>by simp at d
 |m::s,rem,n+1,d,c,b,hb=>by
  have g:m∈rem:=(b m).2 (Xl ..);rw[cx]at c;cases hrem:rem with
  |nil=>rw[hrem]at g;cases g
  |cons x xs=>
   rw[←hrem];have r:lY B (n+1) rem=(rem.filter λm=>rem.all λa=>!d1 B a m).flatMap λm=>(lY B n (rem.filter λx=>!aZ x m)).map (m:: ·):=by rw[hrem];rfl
   rw[r];refine O1.2 ⟨m,eA.2 ⟨g,bH.2 λa k=>?_⟩,Xx.2 ⟨s,?_,rfl⟩⟩
   .rw[hb [] m s rfl a ((b a).1 k)];rfl
   .refine Vp s _ n (by simpa using d) c.2 (λi=>?_) (λp q t e=>hb (m::p) q t (by rw[e];rfl));rw[eA,b,Xq];constructor
    .rintro⟨f,l⟩;rcases f with rfl|f
     .simp at l
     .exact f
    .intro h;refine⟨.inr h,?_⟩;have j:i≠m:=λe=>c.1 (e▸h);cases dg:aZ i m with
     |false=>rfl
     |true=>exact Wy (Nat.eq_of_beq_eq_true dg) j
theorem YG:∀(l m:List Nat),eqN l m=true->l=m
 | [],[],_=>rfl
 | [],_::_,h=>by cases h
 |_::_,[],h=>by cases h
 |i::l,j::m,h=>by
  simp only[eqN,Xh]at h;have:i=j:=by simpa using h.1
  rw[this,YG l m h.2]
theorem WuE{α:Type}{a b:Option α}{r:α}(h:aa a b=some r):a=some r/\b=some r:=by
 unfold aa at h;split at h
 .rename_i e;exact⟨h,e▸h⟩
 .cases h
section
variable{w0:World}{F:CS}{nt:Slots}{G0:GH}{P:Program}{T:Tab}{Γ:Ctx}{A:List (Nat×An)}{R:Type}{r:R}
theorem VE{ops:Array Oper}{B:List (List Nat)}{st:St}{k:St->Option R}:∀(l:List (List Nat)),ws T Γ A ops B st k l=some r->∀σ∈l,∃L,na ops L []=true/\L.filter (λi=>dz i σ)=σ/\rdx T Γ A ops B L [] [] st k=some r
 | [],_,σ,hσ=>by cases hσ
 |τ::l,h,σ,hσ=>by
  have one:pD (DY ops.toList B ops.size [] τ) (λL=>bif na ops L []&&eqN (L.filter λi=>dz i τ) τ then rdx T Γ A ops B L [] [] st k else none)=some r->∃L,na ops L []=true/\L.filter (λi=>dz i τ)=τ/\rdx T Γ A ops B L [] [] st k=some r:=λh=>by
   rw[mH]at h;obtain⟨a,h⟩:=W9 h;simp only[Xh]at a;exact⟨_,a.1,YG _ _ a.2,h⟩
  cases l with
  |nil=>
   simp only[ws]at h;rcases Xq.1 hσ with rfl|hσ
   .exact one h
   .cases hσ
  |cons x l=>
   have h:aa (pD (DY ops.toList B ops.size [] τ) (λL=>bif na ops L []&&eqN (L.filter λi=>dz i τ) τ then rdx T Γ A ops B L [] [] st k else none)) (ws T Γ A ops B st k (x::l))=some r:=h;obtain⟨b,c⟩:=WuE h;rcases Xq.1 hσ with rfl|hσ
   .exact one b
   .exact VE (x::l) c σ hσ
theorem Wvp(hM:P.follows .mixedOrders=true)(hT:au P T)(hΓ:eC P Γ){id:Nat}{ops:Array Oper}(C:∀o∈ops,∀d,o.dst=some d->nt.Ok d){k:St->Option R}{Q:Exit->Act->World->Prop}(hK:lV w0 F nt G0 k r (Q .normal)):
  lV w0 F nt G0 (λst=>p8 T Γ A ops st k) r ((Code.region id ops true).wp P Q):=λst a w G ν q h=>by
 simp only[p8,GQ]at h;obtain⟨xU,h⟩:=W9 h;have B:=Wrn xU;refine wp_region_draw λt=>?_;rw[hM];have f:Order ops (Region.schedule true ops t):=Wj9 B.back;generalize Region.schedule true ops t=l at f;have hσ:l.filter (br ops)∈lY (dW ops.toList []) ops.size (kn ops.toList 0):=by
  refine Vp _ _ _ ?_ (f.nodup.filter _) (λi=>?_) (λp m s e n fT=>?_)
  .refine eO (A0 _ _) ?_;have V:l.length<=(cK ops.size).length:=by
    have S:∀(a b:List Nat),a.Nodup->(∀x∈a,x∈b)->a.length<=b.length:=by
     intro a
     induction a with
     |nil=>intro b _ _;simp
     |cons x a ih=>
      intro b U jn;rw[cx]at U;have ur:x∈b:=jn x (Xl ..);have:=ih (b.erase x) U.2 λy Z=>(Xhc (λe=>U.1 (by rw[←e];exact Z))).2 (jn y (Xg _ Z));rw[Xgn ur]at this;have iG:=Xgt ur;simp;omega
    exact S _ _ f.nodup λx Y=>Ie.2 ((f.all x).2 Y)
   rw[O0]at V;exact V
  .rw[Wog,eA];constructor
   .intro h;refine⟨(f.all i).1 ?_,h⟩;unfold br at h;split at h
    .rename_i o J;exact(wz.1 J).1
    .cases h
   .exactλh=>h.2
  .cases hb:d1 (dW ops.toList []) n m with
   |false=>rfl
   |true=>
    exfalso;have oW:m∈l:=(eA.1 (by rw[e];simp:m∈l.filter (br ops))).1;obtain⟨u,v,M⟩:=Ih oW;have I:n∈u++ [m]:=f.bef (p:=u++ [m]) (s:=v) (by rw[M];simp) hb (by simp);have AU:br ops m=true:=(eA.1 (by rw[e];simp:m∈l.filter (br ops))).2;have K:=f.nodup.filter (br ops);have e2:l.filter (br ops)=u.filter (br ops)++m::v.filter (br ops):=by rw[M,qk,eH,Wf AU]
    have Cd:p=u.filter (br ops):=by
     refine L9 (b:=s) (d:=v.filter (br ops)) (x:=m) ?_ ?_
     .rw[←e];exact K
     .rw[←e,e2]
    rcases Xq.1 fT with rfl|hm's
    .
     have:=f.bef (p:=u++ [n]) (s:=v) (by rw[M];simp) hb (by simp);have dw:D9 ops (λj=>j∈u\/(j=n/\False)):=λi o J D d C=>by
      rcases D with D|⟨_,N⟩
      .exact .inl (f.closed (p:=u) (s:=n::v) M i o J D d C)
      .exact N.elim
     have z:∀(j i:Nat),d1 (dW ops.toList []) j i=true->j<i:=λj i rq=>by
      have uv:D9 ops (λx=>x<i\/(x=i)):=λx o J Y d C=>by
       have:d<x:=B.back x o J d C;omega
      refine Classical.byContradiction λhn=>?_;have ab:∀(l:List Oper) (c:List (List Nat)),(∀(k:Nat) (o:Oper),l[k]?=some o->ops[c.length+k]?=some o)->(∀i,∀j∈c.getD i [],j<i)->∀i,∀j∈(dW l c).getD i [],j<i:=by
       intro l
       induction l with
       |nil=>intro c _ h;exact h
       |cons o l ih=>
        intro c f h;refine ih _ (λk o' E=>?_) (λi j g=>?_)
        .have:=f (k+1) o' (by simpa using E);rw[Xv];have e:c.length+(k+1)=c.length+ [p0 c (gy o) []].length+k:=by simp;omega
         rw[←e];exact this
        .rw[l0,fh]at g;split at g
         .exact h i j (by rw[l0];exact g)
         .by_cases he:i=c.length
          .subst he;simp only[qz,OV,ED]at g;rcases(Mv _ _).1 g with⟨k,E,O⟩|g
           .have s9:k<c.length:=B.back c.length o (f 0 o (by simp)) k E;rcases O with rfl|O
            .exact s9
            .have:=h k j O;omega
           .cases g
          .have:[p0 c (gy o) []][i-c.length]?=none:=hQ (by simp;omega);rw[this]at g;cases g
      exact hn (ab ops.toList [] (λk o E=>by simpa using E) (λi j g=>by simp at g) i j ((j7 _ _).1 rq))
     have:=z n n hb;omega
    .
     have H:n∈p:=by
      rw[Cd];rcases Xo.1 I with h|h
      .refine eA.2 ⟨h,?_⟩;exact(eA.1 (by rw[e];simp[hm's]:n∈l.filter (br ops))).2
      .simp at h;subst h;rw[e]at K;have:=(cx.1 (dm.1 K).2.1).1;exact Wy hm's this
     rw[e]at K;exact(dm.1 K).2.2 n H n (Xg _ hm's) rfl
 obtain⟨L,g1,g2,g3⟩:=VE _ h _ hσ;have W:=Wpd g1;obtain⟨rs,ai,q1,q2,q3,q4,_,_⟩:=Ng _ _ _ _ g3;have N:l.filter (br ops)=L.filter (br ops):=by
  rw[←g2];refine List.filter_congr λi D=>?_;cases X:br ops i with
  |true=>exact(j7 _ _).2 (eA.2 ⟨(f.all i).1 ((W.all i).2 D),X⟩)
  |false=>
   cases he:dz i (l.filter (br ops))with
   |false=>rfl
   |true=>
    have:=(eA.1 ((j7 _ _).1 he)).2;rw[X]at this;cases this
 have cO:Rel w0 F nt G0 G ν st a {w with drawn:=w.drawn+1}:=⟨q.defers,q.ntm,q.par,q.env,?_,q.gx,q.ex⟩
 .exact Wty hT hΓ C f W B.one B.slots N q1 q2 q4 (λa w G ν q=>hK ai a w G ν q q3) cO
 .exact q.h.drew
end
section
variable{w0:World}{F:CS}{nt:Slots}{G0:GH}{P:Program}{T:Tab}{Γ:Ctx}{A:List (Nat×An)}{R:Type}{r:R}
theorem sj(u:P.follows .mixedOrders=true)(q:au P T)(s:eC P Γ){n:Nat}{t:List Nat}(z:nt.n=n)(A:∀p∈nt.kept,p.1∈t){ann:Nat->List Ghost}{N:Nat}(l:(∀x v,¬nt.ex x v)\/∀j,(ann j).all Ghost.quiet=true):∀(c:Code),jf n t c=true->∀{k:Ex->St->Option R} {Q:Exit->Act->World->Prop},
  (∀e,lV w0 F nt G0 (k e) r (Q e.to))->lV w0 F nt G0 (λst=>sx T Γ ann N c st k) r (c.wp P Q)
 | .skip,_,k,Q,hK=>λst a w G ν f h=>wp_skip (hK .normal st a w G ν f h)
 | .exit j,_,k,Q,hK=>λst a w G ν f h=>wp_exit (hK (.exit j) st a w G ν f h)
 | .ret,_,k,Q,hK=>λst a w G ν f h=>wp_ret (hK .ret st a w G ν f h)
 | .region j ops draw,i,k,Q,hK=>λst a w G ν f h=>by
  have J:lV w0 F nt G0 (λai=>match fH (ann j) ai with|some (c,cr)=>bif c then k .normal cr else none|none=>none) r (Q .normal):=λai I w' G' L B g=>by
   simp only at g;split at g
   .rename_i c cr hg;obtain⟨rfl,g⟩:=W9 g;obtain⟨H,M,C⟩:=Db _ _ _ _ _ (l.imp_right λh=>h _) B hg;exact hK .normal _ _ _ _ _ C g
   .cases g
  have K:∀o∈ops,∀d,o.dst=some d->nt.Ok d:=λo D=>Wo4 z A (bH.1 i o (by simpa using D));cases draw with
  |true=>exact Wvp u q s K J st a w G ν f h
  |false=>exact wp_region_list (YO q s ops.toList (λo D=>K o (by simpa using D)) J st a w G ν f h)
 | .seq x y,i,k,Q,hK=>λst a w G ν f h=>by
  simp only[jf,Xh]at i;refine wp_seq (sj u q s z A l x i.1 (Q:=Exit.then (y.wp P Q) Q) (λe=>?_) st a w G ν f h);cases e with
  |normal=>exact sj u q s z A l y i.2 hK
  |exit j=>exact hK (.exit j)
  |ret=>exact hK .ret
 | .cond c x y,i,k,Q,hK=>λst a w G ν f h=>by
  simp only[jf,Xh]at i;simp only[sx]at h;split at h
  .rename_i b hb;cases hv:ev st c with
   |none=>simp[hv]at hb
   |some v=>
    simp only[hv,Xd]at hb;have O:=NU v _ b (WO f c v hv) hb;refine wp_cond O ?_;cases b with
    |true=>exact sj u q s z A l x i.1 hK st a w G ν f h
    |false=>exact sj u q s z A l y i.2 hK st a w G ν f h
  .cases h
 | .block j c,i,k,Q,hK=>λst a w G ν f h=>by
  simp only[jf]at i;refine wp_block (sj u q s z A l c i (Q:=Exit.inBlock j Q) (λe=>?_) st a w G ν f h);cases e with
  |normal=>exact hK .normal
  |exit cJ=>
   intro ai I w' G' L B g;simp only[Ex.to,Exit.inBlock];split
   .rename_i he;simp only[he,W1]at g;exact hK .normal _ _ _ _ _ B g
   .rename_i he;simp only[he,dO]at g;exact hK (.exit cJ) _ _ _ _ _ B g
  |ret=>exact hK .ret
 | .loop c,i,k,Q,hK=>λst a w G ν f h=>by
  simp only[jf]at i;refine wp_loop_rounds N ?_;have E:∀(m:Nat),lV w0 F nt G0 (λst=>wd (Aj (ann (vA c)) λst k=>sx T Γ ann N c st k) m st k) r (Code.rounds P c Q m):=by
   intro m
   induction m with
   |zero=>intro st a w G ν f h;cases h
   |succ m ih=>
    intro st a w G ν f h;rw[rounds_succ];have h:sx T Γ ann N c st (λe ai=>match e with
     | .normal=>match fH (ann (vA c)) ai with
      |some (b,cr)=>bif b then wd (Aj (ann (vA c)) λst k=>sx T Γ ann N c st k) m cr k else none
      |none=>none
     | .exit j=>k (.exit j) ai
     | .ret=>k .ret ai)=some r:=by
     rw[←h];simp only[wd,Aj];congr 1
    refine sj u q s z A l c i (Q:=Exit.then (Code.rounds P c Q m) Q) (λe=>?_) st a w G ν f h;cases e with
    |normal=>
     intro ai I w' G' L B g;simp only at g;split at g
     .rename_i b cr hg;obtain⟨rfl,g⟩:=W9 g;obtain⟨H,M,C⟩:=Db _ _ _ _ _ (l.imp_right λh=>h _) B hg;exact ih _ _ _ _ _ C g
     .cases g
    |exit j=>exact hK (.exit j)
    |ret=>exact hK .ret
  have h:(match fH (ann (vA c)) st with
   |some (b,ai)=>bif b then wd (Aj (ann (vA c)) λst k=>sx T Γ ann N c st k) N ai k else none
   |none=>none)=some r:=h
  split at h
  .rename_i b ai hg;obtain⟨rfl,h⟩:=W9 h;obtain⟨H,M,C⟩:=Db _ _ _ _ _ (l.imp_right λh=>h _) f hg;exact E N _ _ _ _ _ C h
  .cases h
 | .scope ..,_,k,Q,hK=>λst a w G ν f h=>by cases h
 | .label ..,_,k,Q,hK=>λst a w G ν f h=>by cases h
 | .goto ..,_,k,Q,hK=>λst a w G ν f h=>by cases h
 | .rangeFunc ..,_,k,Q,hK=>λst a w G ν f h=>by cases h
 | .refuse ..,_,k,Q,hK=>λst a w G ν f h=>by cases h
end
section
variable{w0:World}{F:CS}{nt:Slots}{G0 G G':GH}{ν:Nat->Nu}{φ:Nat->CS}{objs:af}{nx am:Nat}{st ai:St}{a:Act}{w w':World}{P:Program}{T:Tab}{Γ:Ctx}
theorem SD:∀(xs) (j i),Wt (ki j xs) i=if j<=i then xs[i-j]? else none
 | [],j,i=>by simp[ki,Wt]
 |x::xs,j,i=>by
  simp only[ki];rw[WM,SD xs (j+1) i];by_cases h:j=i
  .subst h;simp
  .by_cases h2:j<=i
   .have h3:j+1<=i:=by omega
    rw[We h,Wf h3,Wf h2,show i-j=(i-(j+1))+1 by omega];rfl
   .rw[We h,We h2,We (by omega)]
theorem Tp:∀(l),Eg (dl l)=l
 | []=>rfl
 |i::l=>by
  show i::Eg (dl l)=i::l;rw[Tp l]
theorem TM:∀(ps) (d) (objs) (nx n),Ar ps n=true->∃a,a.length=n/\(WT ps d objs nx).1.take n=dl a
 |_,_,_,_,0,_=>⟨[],rfl,rfl⟩
 | [],_,_,_,_+1,h=>by cases h
 | .v _ _::_,_,_,_,_+1,h=>by cases h
 | .mut _::_,_,_,_,_+1,h=>by cases h
 | .clos _ _::_,_,_,_,_+1,h=>by cases h
 | .kv _ _::_,_,_,_,_+1,h=>by cases h
 | .rp _::_,_,_,_,_+1,h=>by cases h
 | .vj _::_,_,_,_,_+1,h=>by cases h
 | .boxal _ _::_,_,_,_,_+1,h=>by cases h
 | .box t::ps,d,objs,nx,n+1,h=>by
  obtain⟨a,b,c⟩:=TM ps d.2 ((nx,.box (unfold t d.1 (nx+1)).1)::((unfold t d.1 (nx+1)).2.1++objs)) (unfold t d.1 (nx+1)).2.2 n h;refine⟨nx::a,by simp[b],?_⟩;simp only[WT,List.take_succ_cons,c];rfl
theorem rj:∀(ps) (d) (vs) (z) (K) (objs) (nx am),gi ps=true->gN G w ps d vs z K->At ν φ nx z->nx+z.length<=am->
  (WT ps d objs nx).2.2=nx+z.length/\
  (∀i p,Wt (WT ps d objs nx).2.1 i=some p->(nx<=i/\i<nx+z.length/\dQ G ν am w i (φ i) p)\/Wt objs i=some p)/\
  (WT ps d objs nx).1.length=vs.length/\∀(j:Nat) (x) (v),(WT ps d objs nx).1[j]?=some x->vs[j]?=some v->AValRel G ν am x v
 | [],d,vs,z,K,objs,nx,am,_,⟨k,r,I⟩,_,_=>by
  subst k r;exact⟨rfl,λi p h=>.inr h,rfl,λj x v h=>by simp[WT]at h⟩
 | .v t agg::ps,d,vs,z,K,objs,nx,am,y,⟨v,A,n1,l,k,r,I,J⟩,m,hx=>by
  subst r;obtain⟨P,Y⟩:=NL I;have M:=gG _ _ _ _ Y;have L:(n1++l).length=t.owns+l.length:=by rw[Xv,M]
  obtain⟨_,U⟩:=j0 t d.1 nx P n1 Y m.left;obtain⟨C,D,E,B⟩:=rj ps d.2 A l K ((unfold t d.1 nx).2.1++objs) (nx+t.owns) am y J (m.right M) (by omega);simp only[WT,j6];refine⟨by rw[C,L];omega,λi p Q=>?_,by rw[k];simp[E],λj x u c a=>?_⟩
  .rcases D i p Q with⟨F,N,q⟩|g
   .exact .inl ⟨by omega,by omega,q⟩
   .rcases WP g with g|g
    .obtain⟨F,N,e,xs,rfl,q⟩:=U i p g;exact .inl ⟨F,by omega,q⟩
    .exact .inr g
  .rw[k]at a;cases j with
   |zero=>simp at c a;subst c a;exact M2 I m.left (by omega)
   |succ j=>exact B j x u (by simpa using c) (by simpa using a)
 | .kv t agg::ps,d,vs,z,K,objs,nx,am,y,⟨v,A,n1,l,R,k,r,_,I,J⟩,m,hx=>by
  subst r;obtain⟨P,Y⟩:=NL I;have M:=gG _ _ _ _ Y;have L:(n1++l).length=t.owns+l.length:=by rw[Xv,M]
  obtain⟨_,U⟩:=j0 t d.1 nx P n1 Y m.left;obtain⟨C,D,E,B⟩:=rj ps d.2 A l R ((unfold t d.1 nx).2.1++objs) (nx+t.owns) am y J (m.right M) (by omega);simp only[WT,j6];refine⟨by rw[C,L];omega,λi p Q=>?_,by rw[k];simp[E],λj x u c a=>?_⟩
  .rcases D i p Q with⟨F,N,q⟩|g
   .exact .inl ⟨by omega,by omega,q⟩
   .rcases WP g with g|g
    .obtain⟨F,N,e,xs,rfl,q⟩:=U i p g;exact .inl ⟨F,by omega,q⟩
    .exact .inr g
  .rw[k]at a;cases j with
   |zero=>simp at c a;subst c a;exact M2 I m.left (by omega)
   |succ j=>exact B j x u (by simpa using c) (by simpa using a)
 | .box t::ps,d,vs,z,K,objs,nx,am,y,⟨b,o,A,n1,l,R,k,r,I,⟨P,bv,Z,X⟩,h6⟩,m,hx=>by
  subst r;have M:=gG _ _ _ _ X;have L:((⟨de b o,rng b o t.size⟩:Pc)::(n1++l)).length=1+t.owns+l.length:=by rw[Xs,Xv,M];omega
  obtain⟨f,O⟩:ν nx=de b o/\φ nx=rng b o t.size:=by have:=m 0 _ rfl;simpa using this
  have H:At ν φ (nx+1) (n1++l):=m.right (n1:=[⟨de b o,rng b o t.size⟩]) rfl;obtain⟨c1,U⟩:=j0 t d.1 (nx+1) P n1 X H.left;have W:=vi t d.1 (nx+1);obtain⟨C,D,E,B⟩:=rj ps d.2 A l R ((nx,.box (unfold t d.1 (nx+1)).1)::((unfold t d.1 (nx+1)).2.1++objs)) (nx+1+t.owns) am y h6 (H.right M) (by omega);simp only[WT,j6];refine⟨by rw[C,L];omega,λi p Q=>?_,by rw[k];simp[E],λj x u c a=>?_⟩
  .rcases D i p Q with⟨F,N,q⟩|g
   .exact .inl ⟨by omega,by omega,q⟩
   .rw[WM]at g;split at g
    .rename_i e;subst e;injection g with g;subst g;exact .inl ⟨Xj _,by omega,b,P,by rw[f];rfl,by rw[f,W];exact bv,by rw[f];exact Z,c1 am (by omega),by rw[f,W,O];exactλ_ _ hh=>hh⟩
    .rcases WP g with g|g
     .obtain⟨F,N,e,xs,rfl,q⟩:=U i p g;exact .inl ⟨by omega,by omega,q⟩
     .exact .inr g
  .rw[k]at a;cases j with
   |zero=>
    simp at c a;subst c a;exact⟨⟨by omega,b,by rw[f];rfl,by rw[f];rfl⟩,rfl⟩
   |succ j=>exact B j x u (by simpa using c) (by simpa using a)
 | .vj _::_,_,_,_,_,_,_,_,_,h,_,_=>h.elim
 | .boxal t lf::ps,d,vs,z,K,objs,nx,am,y,⟨b,o,b',V,A,n1,l,R,k,r,I,⟨P,bv,Z,X⟩,J,h5,h7,h6⟩,m,hx=>by
  subst r;have M:=gG _ _ _ _ X;have L:((⟨de b o,rng b o t.size⟩:Pc)::(n1++l)).length=1+t.owns+l.length:=by rw[Xs,Xv,M];omega
  obtain⟨f,O⟩:ν nx=de b o/\φ nx=rng b o t.size:=by have:=m 0 _ rfl;simpa using this
  have H:At ν φ (nx+1) (n1++l):=m.right (n1:=[⟨de b o,rng b o t.size⟩]) rfl;obtain⟨c1,U⟩:=j0 t d.1 (nx+1) P n1 X H.left;have W:=vi t d.1 (nx+1);have wQ:lf<n1.length:=(dJ.1 J).1;have T:ν (nx+1+lf)=V.nu:=(H.left lf V J).1;obtain⟨C,D,E,B⟩:=rj ps d.2.2 A l R ((nx,.box (unfold t d.1 (nx+1)).1)::((unfold t d.1 (nx+1)).2.1++objs)) (nx+1+t.owns) am y h6 (H.right M) (by omega);simp only[WT,j6];refine⟨by rw[C,L];omega,λi p Q=>?_,by rw[k];simp[E],λj x u c a=>?_⟩
  .rcases D i p Q with⟨F,N,q⟩|g
   .exact .inl ⟨by omega,by omega,q⟩
   .rw[WM]at g;split at g
    .rename_i e;subst e;injection g with g;subst g;exact .inl ⟨Xj _,by omega,b,P,by rw[f];rfl,by rw[f,W];exact bv,by rw[f];exact Z,c1 am (by omega),by rw[f,W,O];exactλ_ _ hh=>hh⟩
    .rcases WP g with g|g
     .obtain⟨F,N,e,xs,rfl,q⟩:=U i p g;exact .inl ⟨by omega,by omega,q⟩
     .exact .inr g
  .rw[k]at a
   match j with
   |0=>
    simp at c a;subst c a;exact⟨⟨by omega,b,by rw[f];rfl,by rw[f];rfl⟩,rfl⟩
   |1=>
    simp at c a;subst c a;exact⟨⟨by omega,by rw[T];exact h7,b',by rw[T];exact h5,by rw[T];rfl⟩,rfl⟩
   |j+2=>exact B j x u (by simpa using c) (by simpa using a)
 | .rp t::ps,d,vs,z,K,objs,nx,am,y,⟨b,o,P,A,k,r,I,J⟩,m,hx=>by
  obtain⟨C,D,E,B⟩:=rj ps d.2 A z K objs nx am y J m hx;simp only[WT];refine⟨C,D,by rw[k];simp[E],λj x u c a=>?_⟩;rw[k]at a;cases j with
  |zero=>
   simp at c a;subst c a;exact⟨⟨b,o,P,by rw[c9],r,I⟩,rfl⟩
  |succ j=>exact B j x u (by simpa using c) (by simpa using a)
 | .mut e::ps,d,vs,z,K,objs,nx,am,y,⟨V,A,l,R,k,r,I,J,h5⟩,m,hx=>by
  subst r;have L:(V::l).length=1+l.length:=by rw[Xs];omega
  obtain⟨f,O⟩:ν nx=V.nu/\φ nx=V.fp:=by have:=m 0 _ rfl;simpa using this
  obtain⟨C,D,E,B⟩:=rj ps d.2 A l R ((nx,.arr e d.1)::objs) (nx+1) am y h5 (m.right (n1:=[V]) rfl) (by omega);simp only[WT];refine⟨by rw[C,L];omega,λi p Q=>?_,by rw[k];simp[E],λj x u c a=>?_⟩
  .rcases D i p Q with⟨F,N,q⟩|g
   .exact .inl ⟨by omega,by omega,q⟩
   .rw[WM]at g;split at g
    .rename_i e;subst e;injection g with g;subst g;refine .inl ⟨Xj _,by omega,?_⟩;show aq w (WD G w _) _ (ν nx) d.1 (φ nx);rw[f,O];exact J
    .exact .inr g
  .rw[k]at a;cases j with
   |zero=>
    simp at c a;subst c a;exact⟨⟨by omega,by rw[f]⟩,DW _⟩
   |succ j=>exact B j x u (by simpa using c) (by simpa using a)
 | .clos g n::ps,d,vs,z,K,objs,nx,am,y,⟨S,A,k,r,I,J⟩,m,hx=>by
  simp only[gi,Xh]at y;obtain⟨C,D,E,B⟩:=rj ps d (S++A) z K objs nx am y.2 J m hx;obtain⟨ids,F,N⟩:=TM ps d objs nx n y.1;simp only[WT];rw[N,Tp];have L:(WT ps d objs nx).1.length=n+A.length:=by rw[E,Xv,r]
  have xV:∀(j i:Nat),ids[j]?=some i->(WT ps d objs nx).1[j]?=some (AVal.s (.one (.ptr i 0))):=λj i c=>by
   have ab:j<n:=by rw[←F];exact(dJ.1 c).1
   have:((WT ps d objs nx).1.take n)[j]?=some (.s (.one (.ptr i 0))):=by rw[N];simp[dl,c]
   rw[List.getElem?_take,Wf ab]at this;exact this
  refine⟨C,D,by rw[k];simp[L],λj x u c a=>?_⟩;rw[k]at a;cases j with
  |zero=>
   simp at c a;subst c a;refine⟨⟨S,rfl,by rw[r,F],λj i u c a=>?_⟩,rfl⟩;have ab:j<S.length:=(dJ.1 a).1;obtain⟨⟨q1,q2⟩,q3⟩:=B j _ u (xV j i c) (by rw[List.getElem?_append_left ab];exact a);exact⟨q1,q3,q2⟩
  |succ j=>
   have gr:(WT ps d objs nx).1[n+j]?=some x:=by
    rw[←List.getElem?_drop];simpa using c
   exact B (n+j) x u gr (by rw[wE (by omega),r,sL];simpa using a)
theorem rH:∀(ps) (d) (vs) (i) (f),gN G w ps d vs i f->vs.length<=fa ps
 | [],d,vs,i,f,⟨a,_,_⟩=>by rw[a];exact Xj _
 | .v t agg::ps,d,vs,i,f,⟨v,j,q,m,a,k,l,c⟩=>by rw[a,Xs];have:=rH ps _ _ _ _ c;simp only[fa];omega
 | .box t::ps,d,vs,i,f,⟨b,o,j,q,m,p,a,k,l,c,s⟩=>by rw[a,Xs];have:=rH ps _ _ _ _ s;simp only[fa];omega
 | .mut e::ps,d,vs,i,f,⟨y,j,m,p,a,k,l,c,r⟩=>by rw[a,Xs];have:=rH ps _ _ _ _ r;simp only[fa];omega
 | .clos g n::ps,d,vs,i,f,⟨u,j,a,k,l,c⟩=>by rw[a,Xs];have:=rH ps _ _ _ _ c;simp at this;simp only[fa];omega
 | .kv t agg::ps,d,vs,i,f,⟨v,j,q,m,p,a,k,B,l,c⟩=>by rw[a,Xs];have:=rH ps _ _ _ _ c;simp only[fa];omega
 | .rp t::ps,d,vs,i,f,⟨b,o,C,j,a,k,l,c⟩=>by rw[a,Xs];have:=rH ps _ _ _ _ c;simp only[fa];omega
 | .vj _::_,_,_,_,_,h=>h.elim
 | .boxal t lf::ps,d,vs,i,f,⟨b,o,z,y,j,q,m,p,a,k,l,c,r,s,A,x⟩=>by rw[a,Xs,Xs];have:=rH ps _ _ _ _ x;simp only[fa];omega
def we(i:Nat)(vs:List Value):List (Nat×Value):=match vs with
 |v::_=>[(i,v)]
 | []=>[]
def WL:List PTy->Nat->Nat->List Value->List (Nat×Value)
 | [],_,_,_=>[]
 |_::ps,i,k+1,vs=>WL ps i k vs
 | .v _ _::ps,i,0,vs=>WL ps (i+1) 0 vs.tail
 | .box _::ps,i,0,vs=>we i vs++WL ps (i+1) 0 vs.tail
 | .mut _::ps,i,0,vs=>we i vs++WL ps (i+1) 0 vs.tail
 | .clos _ n::ps,i,0,vs=>we i vs++WL ps (i+1) n vs.tail
 | .kv _ _::ps,i,0,vs=>we i vs++WL ps (i+1) 0 vs.tail
 | .rp _::ps,i,0,vs=>WL ps (i+1) 0 vs.tail
 | .vj _::ps,i,0,vs=>WL ps (i+1) 0 vs.tail
 | .boxal _ _::ps,i,0,vs=>we i vs++WL ps (i+2) 0 vs.tail.tail
theorem nL{i}{vs}{p}(h:p∈we i vs):p.1=i/\vs[0]?=some p.2:=by
 unfold we at h;split at h
 .simp at h;subst h;exact⟨rfl,rfl⟩
 .cases h
theorem WY:∀(ps) (i k) (vs),∀p∈WL ps i k vs,p.1∈lA ps i k
 | [],_,_,_,p,h=>by simp[WL]at h
 | .v _ _::ps,i,k+1,vs,p,h=>WY ps i k vs p h
 | .box _::ps,i,k+1,vs,p,h=>WY ps i k vs p h
 | .mut _::ps,i,k+1,vs,p,h=>WY ps i k vs p h
 | .clos _ _::ps,i,k+1,vs,p,h=>WY ps i k vs p h
 | .v _ _::ps,i,0,vs,p,h=>WY ps (i+1) 0 vs.tail p h
 | .box _::ps,i,0,vs,p,h=>by
  simp only[WL]at h;rcases Xo.1 h with h|h
  .rw[(nL h).1];exact Xl ..
  .exact Xg _ (WY ps (i+1) 0 vs.tail p h)
 | .mut _::ps,i,0,vs,p,h=>by
  simp only[WL]at h;rcases Xo.1 h with h|h
  .rw[(nL h).1];exact Xl ..
  .exact Xg _ (WY ps (i+1) 0 vs.tail p h)
 | .clos _ n::ps,i,0,vs,p,h=>by
  simp only[WL]at h;rcases Xo.1 h with h|h
  .rw[(nL h).1];exact Xl ..
  .exact Xg _ (WY ps (i+1) n vs.tail p h)
 | .kv _ _::ps,i,k+1,vs,p,h=>WY ps i k vs p h
 | .kv _ _::ps,i,0,vs,p,h=>by
  simp only[WL]at h;rcases Xo.1 h with h|h
  .rw[(nL h).1];exact Xl ..
  .exact Xg _ (WY ps (i+1) 0 vs.tail p h)
 | .rp _::ps,i,k+1,vs,p,h=>WY ps i k vs p h
 | .rp _::ps,i,0,vs,p,h=>WY ps (i+1) 0 vs.tail p h
 | .vj _::ps,i,k+1,vs,p,h=>WY ps i k vs p h
 | .vj _::ps,i,0,vs,p,h=>WY ps (i+1) 0 vs.tail p h
 | .boxal _ _::ps,i,k+1,vs,p,h=>WY ps i k vs p h
 | .boxal _ _::ps,i,0,vs,p,h=>by
  simp only[WL]at h;rcases Xo.1 h with h|h
  .rw[(nL h).1];exact Xl ..
  .exact Xg _ (WY ps (i+2) 0 vs.tail.tail p h)
theorem WS:∀(ps) (i k) (vs),∀p∈WL ps i k vs,i<=p.1/\vs[p.1-i]?=some p.2
 | [],_,_,_,p,h=>by simp[WL]at h
 | .v _ _::ps,i,k+1,vs,p,h=>WS ps i k vs p h
 | .box _::ps,i,k+1,vs,p,h=>WS ps i k vs p h
 | .mut _::ps,i,k+1,vs,p,h=>WS ps i k vs p h
 | .clos _ _::ps,i,k+1,vs,p,h=>WS ps i k vs p h
 | .v _ _::ps,i,0,vs,p,h=>by
  obtain⟨b,a⟩:=WS ps (i+1) 0 vs.tail p h;refine⟨by omega,?_⟩;rw[show p.1-i=(p.1-(i+1))+1 by omega,←qm];exact a
 | .box _::ps,i,0,vs,p,h=>by
  simp only[WL]at h;rcases Xo.1 h with h|h
  .obtain⟨b,a⟩:=nL h;rw[b];exact⟨Xj _,by rw[qz];exact a⟩
  .obtain⟨b,a⟩:=WS ps (i+1) 0 vs.tail p h;refine⟨by omega,?_⟩;rw[show p.1-i=(p.1-(i+1))+1 by omega,←qm];exact a
 | .mut _::ps,i,0,vs,p,h=>by
  simp only[WL]at h;rcases Xo.1 h with h|h
  .obtain⟨b,a⟩:=nL h;rw[b];exact⟨Xj _,by rw[qz];exact a⟩
  .obtain⟨b,a⟩:=WS ps (i+1) 0 vs.tail p h;refine⟨by omega,?_⟩;rw[show p.1-i=(p.1-(i+1))+1 by omega,←qm];exact a
 | .clos _ n::ps,i,0,vs,p,h=>by
  simp only[WL]at h;rcases Xo.1 h with h|h
  .obtain⟨b,a⟩:=nL h;rw[b];exact⟨Xj _,by rw[qz];exact a⟩
  .obtain⟨b,a⟩:=WS ps (i+1) n vs.tail p h;refine⟨by omega,?_⟩;rw[show p.1-i=(p.1-(i+1))+1 by omega,←qm];exact a
 | .kv _ _::ps,i,k+1,vs,p,h=>WS ps i k vs p h
 | .kv _ _::ps,i,0,vs,p,h=>by
  simp only[WL]at h;rcases Xo.1 h with h|h
  .obtain⟨b,a⟩:=nL h;rw[b];exact⟨Xj _,by rw[qz];exact a⟩
  .obtain⟨b,a⟩:=WS ps (i+1) 0 vs.tail p h;refine⟨by omega,?_⟩;rw[show p.1-i=(p.1-(i+1))+1 by omega,←qm];exact a
 | .rp _::ps,i,k+1,vs,p,h=>WS ps i k vs p h
 | .rp _::ps,i,0,vs,p,h=>by
  obtain⟨b,a⟩:=WS ps (i+1) 0 vs.tail p h;refine⟨by omega,?_⟩;rw[show p.1-i=(p.1-(i+1))+1 by omega,←qm];exact a
 | .vj _::ps,i,k+1,vs,p,h=>WS ps i k vs p h
 | .vj _::ps,i,0,vs,p,h=>by
  obtain⟨b,a⟩:=WS ps (i+1) 0 vs.tail p h;refine⟨by omega,?_⟩;rw[show p.1-i=(p.1-(i+1))+1 by omega,←qm];exact a
 | .boxal _ _::ps,i,k+1,vs,p,h=>WS ps i k vs p h
 | .boxal _ _::ps,i,0,vs,p,h=>by
  simp only[WL]at h;rcases Xo.1 h with h|h
  .obtain⟨b,a⟩:=nL h;rw[b];exact⟨Xj _,by rw[qz];exact a⟩
  .obtain⟨b,a⟩:=WS ps (i+2) 0 vs.tail.tail p h;refine⟨by omega,?_⟩;rw[show p.1-i=(p.1-(i+2))+1+1 by omega,←qm,←qm];exact a
def vN(a:Array Value):ResultVar->Sem Value
 | .tmp t=>pure (a.getD t undef)
 | .cell b t=>do loadVar t (←asAddr (a.getD b undef))
theorem Ha(m:au P T)(f:Rel w0 F nt G0 G ν st a w):∀(l) (xs),jt T st l=some xs->
  ∃e:List Value,(l.mapM (vN a.tmps)).run P w= .ok e w/\e.length=xs.length/\
   ∀(j:Nat) (x) (v),xs[j]?=some x->e[j]?=some v->AValRel G ν st.nx x v
 | [],xs,h=>by
  simp only[jt]at h;injection h with h;subst h;exact⟨[],by simp,rfl,λj x v d=>by simp at d⟩
 | .tmp t::l,xs,h=>by
  simp only[jt]at h;split at h
  .rename_i x wJ h1 h2;injection h with h;subst h;obtain⟨e,g,i,k⟩:=Ha m f l wJ h2;obtain⟨v,o,r⟩:=f.env t x h1;refine⟨v::e,?_,by simp[i],λj y u d c=>?_⟩
   .have jo:a.tmps.getD t undef=v:=by simp[Ey,o]
    simp only[EX,Sem.run_bind,vN,Sem.run_pure,Result.andThen_ok,g,jo]
   .cases j with
    |zero=>simp at d c;subst d c;exact r
    |succ j=>exact k j y u (by simpa using d) (by simpa using c)
  .cases h
 | .cell b t::l,xs,h=>by
  simp only[jt]at h;split at h
  .rename_i x wJ h1 h2;injection h with h;subst h;obtain⟨e,g,i,k⟩:=Ha m f l wJ h2;cases hb:Wt st.env b with
   |none=>simp[hb]at h1
   |some y=>
    simp only[hb,Xd]at h1;obtain⟨v,o,r⟩:=f.env b y hb;obtain⟨u,c,s⟩:=Ss m f.h r h1;refine⟨u::e,?_,by simp[i],λj z q d n=>?_⟩
    .have jo:a.tmps.getD b undef=v:=by simp[Ey,o]
     unfold Instr.loadAt at c;rw[Sem.run_bind]at c;obtain⟨p,rfl⟩:∃p,v= .pointer (some p):=by
      unfold Instr.sureAddr at c;split at c
      .exact⟨_,rfl⟩
      .simp[stuck]at c
     simp only[Instr.sureAddr,Sem.run_pure,Result.andThen_ok]at c;have A:(asAddr (.pointer (some p))).run P w= .ok p w:=rfl;simp only[EX,Sem.run_bind,vN,Sem.run_pure,Result.andThen_ok,jo,A,c,g]
    .cases j with
     |zero=>simp at d n;subst d n;exact s
     |succ j=>exact k j z q (by simpa using d) (by simpa using n)
  .cases h
theorem Gr(h:HR w0 F G ν φ objs nx w)(H:GLe G G'):∀(rs) (xs) (vs) (A),vs.length=xs.length->
  (∀(j:Nat) (x) (v),xs[j]?=some x->vs[j]?=some v->AValRel G ν nx x v)->Lent G' w φ objs A.lent->A.moved.Nodup->fL rs xs objs=some A->
  ∃V,pQ G' w rs A.d vs V/\Sep (fps V)/\(∀q∈V,CS.le q.fp (FromL φ objs A.moved))/\(∀i∈A.moved,Live objs i)
 | [],xs,vs,A,g,z,s,C,c=>by
  simp only[fL]at c;split at c
  .injection c with c;subst c;have jG:vs= []:=ee (by simpa using g);exact⟨[],⟨jG,rfl⟩,List.Pairwise.nil,by simp,by simp⟩
  .cases c
 | .v t agg::rs,xs,vs,A,g,z,s,C,c=>by
  simp only[fL]at c;split at c
  .rename_i x xs;split at c
   .rename_i d m l A' h1 h2;injection c with c;subst c
    match vs,g with
    |v::vs,g=>
     cases hc:cellsOf agg x with
     |none=>simp[hc]at h1
     |some cs=>
      simp[hc]at h1;obtain⟨O,P,Q⟩:=dm.1 C;obtain⟨n1,E,I,p,J,_⟩:=Ht h H (z 0 x v rfl rfl) (s.mono (λi a=>Xm _ a)) O hc h1;obtain⟨B,K,L,r,M⟩:=Gr h H rs xs vs A' (by simpa using g) (λj y u k N=>z (j+1) y u (by simpa using k) (by simpa using N)) (s.mono (λi a=>Xi _ a)) P h2;refine⟨n1++B,⟨v,vs,n1,B,rfl,rfl,E,K⟩,nO h I L p r (λi a k=>Q i a i k rfl),λq e=>?_,λi a=>?_⟩
      .rcases Xo.1 e with e|e
       .exactλb o f=>FromL.mono (λi a=>Xm _ a) b o (p q e b o f)
       .exactλb o f=>FromL.mono (λi a=>Xi _ a) b o (r q e b o f)
      .rcases Xo.1 a with a|a
       .exact J i a
       .exact M i a
   .cases c
  .cases c
 | .box t::rs,xs,vs,A,g,z,s,C,c=>by
  simp only[fL]at c;split at c
  .rename_i id xs;split at c
   .rename_i cs X;split at c
    .rename_i d m l A' h1 h2;injection c with c;subst c
     match vs,g with
     |v::vs,g=>
      obtain⟨k0,O⟩:=cx.1 C;obtain⟨P,Q,k4⟩:=dm.1 O;obtain⟨⟨_,b,T,rfl⟩,_⟩:=z 0 _ v rfl rfl;have S:Live objs id:=⟨_,X,by simp⟩;obtain⟨b'',n,R,Y,aK,D,U⟩:dQ G ν nx w id (φ id) (.box cs):=h.ob _ _ X;rw[T]at R;injection R with R;subst R;obtain⟨n1,E,I,p,J,_⟩:=ga h H t cs n d m l D (s.mono (λi a=>Xm _ a)) P h1;have Z:cs.length=t.size:=by rw[←D.1];exact WI _ _ _ _ E
      obtain⟨B,K,L,r,M⟩:=Gr h H rs xs vs A' (by simpa using g) (λj y u k N=>z (j+1) y u (by simpa using k) (by simpa using N)) (s.mono (λi a=>Xi _ a)) Q h2;rw[Z]at Y U;refine⟨⟨de b ((ν id).off+0),rng b ((ν id).off+0) t.size⟩::(n1++B),⟨b,(ν id).off+0,vs,n1,B,rfl,rfl,⟨n,Y,aK,E⟩,K⟩,?_,λq e=>?_,λi a=>?_⟩
      .refine nO h (n1:=[⟨de b ((ν id).off+0),rng b ((ν id).off+0) t.size⟩]) (m:=[id]) (l:=m++A'.moved) (sJ _ _) (nO h I L p r (λi a k=>k4 i a i k rfl)) (λq e=>?_) (λq e=>?_) (λi a k=>k0 (by rw[←cq.1 a];exact k))
       .rw[cq.1 e];exactλb o f=>⟨id,by simp,S,U b o f⟩
       .rcases Xo.1 e with e|e
        .exactλb o f=>FromL.mono (λi a=>Xm _ a) b o (p q e b o f)
        .exactλb o f=>FromL.mono (λi a=>Xi _ a) b o (r q e b o f)
      .rcases Xq.1 e with rfl|e
       .exactλb o f=>⟨id,by simp,S,U b o f⟩
       .rcases Xo.1 e with e|e
        .exactλb o f=>FromL.mono (λi a=>Xg _ (Xm _ a)) b o (p q e b o f)
        .exactλb o f=>FromL.mono (λi a=>Xg _ (Xi _ a)) b o (r q e b o f)
      .rcases Xq.1 a with rfl|a
       .exact S
       .rcases Xo.1 a with a|a
        .exact J i a
        .exact M i a
    .cases c
   .cases c
  .cases c
 | .mut _::_,_,_,_,_,_,_,_,h=>by simp only[fL]at h;cases h
 | .clos _ _::_,_,_,_,_,_,_,_,h=>by simp only[fL]at h;cases h
 | .kv _ _::_,_,_,_,_,_,_,_,h=>by simp only[fL]at h;cases h
 | .rp _::_,_,_,_,_,_,_,_,h=>by simp only[fL]at h;cases h
 | .vj t::rs,xs,vs,A,g,z,s,C,c=>by
  simp only[fL]at c;split at c
  .rename_i cs xs;split at c
   .rename_i dw;split at c
    .rename_i d m l A' h1 h2;injection c with c;subst c
     match vs,g with
     |v::vs,g=>
      obtain⟨O,P,Q⟩:=dm.1 C;obtain⟨n,rfl,D⟩:=z 0 _ v rfl rfl;obtain⟨n1,E,I,p,J,_⟩:=ga h H t (cs.take t.size) (n.take t.size) d m l (D.take t.size) (s.mono (λi a=>Xm _ a)) O h1;obtain⟨B,K,L,r,M⟩:=Gr h H rs xs vs A' (by simpa using g) (λj y u k N=>z (j+1) y u (by simpa using k) (by simpa using N)) (s.mono (λi a=>Xi _ a)) P h2;have Z:n.length=t.size+1:=by rw[D.1,dw]
      have W:t.size<n.length:=by omega
      have e0:n=n.take t.size++ [n[t.size]]:=by
       rw[←List.take_succ_eq_append_getElem W,wR (by omega)]
      have ho:=(D.2 t.size (cs[t.size]'(by omega)) n[t.size] (Xr (by omega)) (Xr W)).2;refine⟨n1++B,⟨n.take t.size,n[t.size],vs,n1,B,by rw[←e0],ho,rfl,E,K⟩,nO h I L p r (λi a k=>Q i a i k rfl),λq e=>?_,λi a=>?_⟩
      .rcases Xo.1 e with e|e
       .exactλb o f=>FromL.mono (λi a=>Xm _ a) b o (p q e b o f)
       .exactλb o f=>FromL.mono (λi a=>Xi _ a) b o (r q e b o f)
      .rcases Xo.1 a with a|a
       .exact J i a
       .exact M i a
    .cases c
   .cases c
  .cases c
 | .boxal _ _::_,_,_,_,_,_,_,_,h=>by simp only[fL]at h;cases h
theorem Wpt{p}{ps}{k}(h:Ar (p::ps) (k+1)=true):(∃t,p= .box t)/\Ar ps k=true:=by
 cases p with
 |box t=>exact⟨⟨t,rfl⟩,h⟩
 |_=>cases h
theorem DD(d:Rel w0 F nt G0 G ν st a w){i}{u}(c:a.tmps[i]?=some u):(Wt st.env i).getD (.tup [])= .tup []\/AValRel G ν st.nx ((Wt st.env i).getD (.tup [])) u:=by
 cases he:Wt st.env i with
 |none=>exact .inl rfl
 |some y=>
  obtain⟨v,b,e⟩:=d.env i y he;rw[c]at b;injection b with b;subst b;exact .inr e
theorem o6{wb}{Gb}(s:Rel w0 F nt G0 G ν st a w):∀(ps) (d) (vs) (z) (y) (i k),gN Gb wb ps d vs z y->gi ps=true->Ar ps k=true->k<=vs.length->
  (∀p∈WL ps i k (vs.drop k),a.tmps[p.1]?=some p.2)->(WG ps i k st).length+k=vs.length/\
  ∀(j) (x) (v),(WG ps i k st)[j]?=some x->vs[k+j]?=some v->x= .tup []\/AValRel G ν st.nx x v
 | [],d,vs,z,y,i,k,⟨l,_,_⟩,_,_,M,_=>by
  subst l;have:k=0:=by simpa using M
  subst this;exact⟨rfl,λj x v c=>by simp[WG]at c⟩
 |p::ps,d,vs,z,y,i,k+1,h,m,S,M,hp=>by
  obtain⟨⟨t,rfl⟩,P⟩:=Wpt S;obtain⟨b,o,q,K,B,E,l,D,I,A,J⟩:=h;subst l;have Q:gi ps=true:=m;obtain⟨H,r⟩:=o6 s ps d.2 q B E i k J Q P (by simpa using M) (by simpa [WL]using hp);refine⟨by simp only[WG,Xs];omega,λj x v c O=>r j x v (by simpa [WG]using c) ?_⟩;rw[show k+1+j=(k+j)+1 by omega]at O;simpa using O
 | .v t agg::ps,d,vs,z,y,i,0,⟨v,q,K,B,l,D,I,A⟩,m,_,_,hp=>by
  subst l;obtain⟨H,r⟩:=o6 s ps d.2 q B y (i+1) 0 A m (by cases ps<;>rfl) (kP _) (by simpa [WL]using hp);refine⟨by simp only[WG,Xs];omega,λj x u c f=>?_⟩;cases j with
  |zero=>simp[WG]at c;exact .inl c.symm
  |succ j=>exact r j x u (by simpa [WG]using c) (by simpa using f)
 | .rp t::ps,d,vs,z,y,i,0,⟨b,o,X,q,l,D,I,A⟩,m,_,_,hp=>by
  subst l;obtain⟨H,r⟩:=o6 s ps d.2 q z y (i+1) 0 A m (by cases ps<;>rfl) (kP _) (by simpa [WL]using hp);refine⟨by simp only[WG,Xs];omega,λj x u c f=>?_⟩;cases j with
  |zero=>simp[WG]at c;exact .inl c.symm
  |succ j=>exact r j x u (by simpa [WG]using c) (by simpa using f)
 | .box t::ps,d,vs,z,y,i,0,⟨b,o,q,K,B,E,l,D,I,A,J⟩,m,_,_,hp=>by
  subst l;simp only[WL,oe,EV]at hp;obtain⟨H,r⟩:=o6 s ps d.2 q B E (i+1) 0 J m (by cases ps<;>rfl) (kP _) (λp C=>hp p (Xi _ (by simpa using C)));refine⟨by simp only[WG,Xs];omega,λj x u c f=>?_⟩;cases j with
  |zero=>
   simp[WG]at c f;subst c f;exact DD s (hp (i,_) (Xm _ (Xl ..)))
  |succ j=>exact r j x u (by simpa [WG]using c) (by simpa using f)
 | .vj _::_,_,_,_,_,_,_,h,_,_,_,_=>h.elim
 | .boxal t lf::ps,d,vs,z,y,i,0,⟨b,o,U,T,q,K,B,E,l,D,I,A,N,J,V,R⟩,m,_,_,hp=>by
  subst l;simp only[WL,oe,EV]at hp;obtain⟨H,r⟩:=o6 s ps d.2.2 q B E (i+2) 0 R m (by cases ps<;>rfl) (kP _) (λp C=>hp p (Xi _ (by simpa using C)));refine⟨by simp only[WG,Xs];omega,λj x u c f=>?_⟩
  match j with
  |0=>
   simp[WG]at c f;subst c f;exact DD s (hp (i,_) (Xm _ (Xl ..)))
  |1=>simp[WG]at c;exact .inl c.symm
  |j+2=>exact r j x u (by simpa [WG]using c) (by simpa using f)
 | .mut e::ps,d,vs,z,y,i,0,⟨T,q,B,E,l,D,I,A,N⟩,m,_,_,hp=>by
  subst l;simp only[WL,oe,EV]at hp;obtain⟨H,r⟩:=o6 s ps d.2 q B E (i+1) 0 N m (by cases ps<;>rfl) (kP _) (λp C=>hp p (Xi _ (by simpa using C)));refine⟨by simp only[WG,Xs];omega,λj x u c f=>?_⟩;cases j with
  |zero=>
   simp[WG]at c f;subst c f;exact DD s (hp (i,_) (Xm _ (Xl ..)))
  |succ j=>exact r j x u (by simpa [WG]using c) (by simpa using f)
 | .clos g n::ps,d,vs,z,y,i,0,⟨L,q,l,D,I,A⟩,m,_,_,hp=>by
  subst l;simp only[gi,Xh]at m;simp only[WL,oe,EV]at hp;obtain⟨H,r⟩:=o6 s ps d (L++q) z y (i+1) n A m.2 m.1 (by simp[D]) (λp C=>hp p (Xi _ (by rw[List.drop_left' D]at C;exact C)));refine⟨by simp only[WG,Xs];simp at H;omega,λj x u c f=>?_⟩;cases j with
  |zero=>
   simp[WG]at c f;subst c f;exact DD s (hp (i,_) (Xm _ (Xl ..)))
  |succ j=>exact r j x u (by simpa [WG]using c) (by rw[wE (by omega),D,sL];simpa using f)
 | .kv t agg::ps,d,vs,z,y,i,0,⟨v,q,K,B,E,l,D,W,I,A⟩,m,_,_,hp=>by
  subst l;simp only[WL,oe,EV]at hp;obtain⟨H,r⟩:=o6 s ps d.2 q B E (i+1) 0 A m (by cases ps<;>rfl) (kP _) (λp C=>hp p (Xi _ (by simpa using C)));refine⟨by simp only[WG,Xs];omega,λj x u c f=>?_⟩;cases j with
  |zero=>
   simp[WG]at c f;subst c f;exact DD s (hp (i,_) (Xm _ (Xl ..)))
  |succ j=>exact r j x u (by simpa [WG]using c) (by simpa using f)
theorem VA{G G'}{wb w}{nu nu'}{e}{xs ys}{S S'}(d:aq wb (WD G wb e) e.size nu xs S)(f:aq w (WD G' w e) e.size nu' ys S')(c:nu.hdr=nu'.hdr):aq w (WD G' w e) e.size nu ys S':=by
 unfold Nu.hdr at c;cases hb:nu'.blk with
 |none=>
  cases dg:nu.blk with
  |some b=>simp[hb,dg]at c
  |none=>
   have m:=rx d dg;have i:=rx f hb;refine⟨by rw[i,←d.1,m],d.2.1,?_⟩;simp only[dg];exact i
 |some b=>
  cases dg:nu.blk with
  |none=>simp[hb,dg]at c
  |some b'=>
   simp only[hb,dg]at c;injection c with a j k;injection a with a;injection a with a l _;have g:=d.2.1;have h:=f.2.1;have:nu=nu':=by
    obtain⟨n,o,p,q,r⟩:=nu;obtain⟨s,t,u,v,x⟩:=nu';simp only at hb dg a j k l g h;subst hb dg a j k l;rw[g,h]
   rw[this];exact f
theorem GE{G G'}{wb w}:∀(t) (k d) (us) (n1 j),WD G wb t k us n1->WD G' w t d us j->∃o,WD G' w t d us o/\nus o=nus n1/\fps o=fps j
 | .own e,k,d,us,n1,j,⟨y,f,m,n⟩,⟨x,i,c,l⟩=>by
  subst f i;have D:y.nu.hdr=x.nu.hdr:=by rw[m]at c;simpa using c
  exact⟨[⟨y.nu,x.fp⟩],⟨_,rfl,m,VA n l D⟩,rfl,rfl⟩
 | .prod a b,k,d,us,n1,j,⟨v1,v2,L,M,f,m,n,C⟩,⟨u1,u2,J,K,i,c,l,B⟩=>by
  have E:=WI a _ _ _ n;have F:=WI a _ _ _ l;obtain⟨H,I⟩:=List.append_inj (f.symm.trans i) (by rw[E,F]);subst H I m c;obtain⟨p,z,q,r⟩:=GE a _ _ _ _ _ n l;obtain⟨s,A,u,v⟩:=GE b _ _ _ _ _ C B;exact⟨p++s,⟨_,_,p,s,f,rfl,z,A⟩,by unfold nus at q u⊢;rw[Xy,Xy,q,u],by unfold fps at r v⊢;rw[Xy,Xy,r,v]⟩
 | .int _,k,d,us,n1,j,h,g=>by obtain⟨f,_⟩:=h;obtain⟨i,c⟩:=g;subst f i;exact⟨[],⟨rfl,c⟩,rfl,rfl⟩
 | .bool,k,d,us,n1,j,h,g=>by obtain⟨f,_⟩:=h;obtain⟨i,c⟩:=g;subst f i;exact⟨[],⟨rfl,c⟩,rfl,rfl⟩
 | .str,k,d,us,n1,j,h,g=>by obtain⟨f,_⟩:=h;obtain⟨i,c⟩:=g;subst f i;exact⟨[],⟨rfl,c⟩,rfl,rfl⟩
 | .slice _,k,d,us,n1,j,h,g=>by obtain⟨f,_⟩:=h;obtain⟨i,c⟩:=g;subst f i;exact⟨[],⟨rfl,c⟩,rfl,rfl⟩
theorem Wta{G G'}{wb w}{t}{agg}{d0 d}{v}{n1 n2}(h:ez G wb t agg d0 v n1)(g:ez G' w t agg d v n2):∃b c,WD G' w t d b c/\nus c=nus n1/\fps c=fps n2:=by
 unfold ez at h g;split at h
 .rename_i ha;rw[Wf ha]at g;obtain⟨b,f,i⟩:=h;obtain⟨Cf,a,e⟩:=g;have:b=Cf:=by
   rw[f]at a;injection a with a;have:=Ws Array.toList a;simpa using this
  subst this;exact⟨b,GE _ _ _ _ _ _ i e⟩
 .rename_i ha;rw[We ha]at g;exact⟨_,GE _ _ _ _ _ _ h g⟩
structure OOk(G':GH)(φ:Nat->CS)(objs:af)(w:World)(ps:List PTy)(B:OutK (dI ps))(ks:List Nu)(kf:List CS)(ms:List Pc):Prop where
 outs:ig G' w ps B.d ks kf ms
 sepk:Sep kf
 sepm:Sep (fps ms)
 kf:∀S∈kf,CS.le S (FromL φ objs B.kept)
 ms:∀q∈ms,CS.le q.fp (FromL φ objs B.moved)
theorem H6(h:HR w0 F G ν φ objs nx w){k1 k2}{m l}(c:Sep k1)(d:Sep k2)(a:∀S∈k1,CS.le S (FromL φ objs m))(b:∀S∈k2,CS.le S (FromL φ objs l))(e:∀i∈m,i∉l):Sep (k1++k2):=
 NV c d (A:=FromL φ objs m) (B:=FromL φ objs l) a b (FromL.disj h e)
theorem Sn{wb:World}{Gb:GH}(K:GLe G G')(h:HR w0 F G ν φ objs nx w){t}{ps}{id b o}{cs}{dd}{m l}{A}{ks}{kf}{ms}
  (O:CellRel G ν nx (.ptr id 0) (.pointer (some ⟨b,o,none⟩))) (v:Wt objs id=some (.box cs)) (J:aC t cs objs=some (dd,m,l)) (M:Lent G' w φ objs l) (L:(id::A.kept).Nodup) (N:(m++A.moved).Nodup) (e:OOk G' φ objs w ps A ks kf ms):
  ∃j,nS G' w t dd b o j/\Sep (rng b o t.size::kf)/\Sep (fps (j++ms))/\(∀S∈rng b o t.size::kf,CS.le S (FromL φ objs (id::A.kept)))/\(∀q∈j++ms,CS.le q.fp (FromL φ objs (m++A.moved))):=by
 obtain⟨_,T,B,d⟩:=O;injection d with d;injection d with d;injection d with d R _;subst d R;have E:Live objs id:=⟨_,v,by simp⟩;obtain⟨D,z,k,p,C,r,x⟩:dQ G ν nx w id (φ id) (.box cs):=h.ob _ _ v;rw[B]at k;injection k with k;subst k;obtain⟨k1,U⟩:=cx.1 L;obtain⟨P,V,Q⟩:=dm.1 N;obtain⟨j,s,H,u,_⟩:=ga h K t cs z dd m l r M P J;have I:cs.length=t.size:=by rw[←r.1];exact WI _ _ _ _ s
 rw[I]at p x;have y:CS.le (rng b ((ν id).off+0) t.size) (FromL φ objs [id]):=λb o c=>⟨id,by simp,E,x b o c⟩;refine⟨j,⟨z,p,C,s⟩,?_,nO h H e.sepm u e.ms (λi a n=>Q i a i n rfl),λS f=>?_,λq g=>?_⟩
 .exact H6 h (k1:=[rng b ((ν id).off+0) t.size]) (m:=[id]) (sJ _ _) e.sepk (λS f=>by rw[cq.1 f];exact y) e.kf (λi a n=>k1 (by rw[←cq.1 a];exact n))
 .rcases Xq.1 f with rfl|f
  .exactλb o c=>FromL.mono (λi a=>by rw[cq.1 a];exact Xl ..) b o (y b o c)
  .exactλb o c=>FromL.mono (λi a=>Xg _ a) b o (e.kf S f b o c)
 .rcases Xo.1 g with g|g
  .exactλb o c=>FromL.mono (λi a=>Xm _ a) b o (u q g b o c)
  .exactλb o c=>FromL.mono (λi a=>Xi _ a) b o (e.ms q g b o c)
theorem q9{wb}{Gb}(L:GLe G G')(h:HR w0 F G ν φ objs nx w):∀(ps) (d) (vs) (O) (K) (xs) (B),gN Gb wb ps d vs O K->xs.length=vs.length->
  (∀(j:Nat) (x) (v),xs[j]?=some x->vs[j]?=some v->x= .tup []\/AValRel G ν nx x v)->Lent G' w φ objs B.lent->B.kept.Nodup->B.moved.Nodup->W7 ps xs objs=some B->
  ∃s z,OOk G' φ objs w ps B K s z
 | [],d,vs,O,K,xs,B,⟨_,_,r⟩,_,_,_,_,_,a=>by
  simp only[W7]at a;injection a with a;subst a;exact⟨[],[],⟨r,rfl,rfl⟩,List.Pairwise.nil,List.Pairwise.nil,by simp,by simp⟩
 | .v t agg::ps,d,vs,O,K,xs,B,⟨v,J,n1,Q,D,R,P,N⟩,q,k,C,r,E,a=>by
  subst D;simp only[W7]at a;cases hA:W7 ps xs.tail objs with
  |none=>simp[hA]at a
  |some A=>
   simp[hA]at a;subst a
   match xs,q with
   |x::xs,q=>
    obtain⟨s,z,c⟩:=q9 L h ps d.2 J Q K xs A N (by simpa using q) (λj y u f p=>k (j+1) y u (by simpa using f) (by simpa using p)) C r E hA;exact⟨s,z,c.outs,c.sepk,c.sepm,c.kf,c.ms⟩
 | .rp t::ps,d,vs,O,K,xs,B,⟨b,o,X,J,D,R,P,N⟩,q,k,C,r,E,a=>by
  subst D;simp only[W7]at a;cases hA:W7 ps xs.tail objs with
  |none=>simp[hA]at a
  |some A=>
   simp[hA]at a;subst a
   match xs,q with
   |x::xs,q=>
    obtain⟨s,z,c⟩:=q9 L h ps d.2 J O K xs A N (by simpa using q) (λj y u f p=>k (j+1) y u (by simpa using f) (by simpa using p)) C r E hA;exact⟨s,z,c.outs,c.sepk,c.sepm,c.kf,c.ms⟩
 | .box t::ps,d,vs,O,K,xs,B,⟨b,o,J,n1,Q,M,D,R,P,N,h6⟩,q,k,C,r,E,a=>by
  subst D;simp only[W7]at a;split at a
  .rename_i id xs;split at a
   .rename_i cs V;split at a
    .rename_i dd m l A g1 g2;injection a with a;subst a;have T:=((k 0 _ _ rfl rfl).resolve_left (λe=>by cases e)).1;obtain⟨s,z,c⟩:=q9 L h ps d.2 J Q M xs A h6 (by simpa using q) (λj y u f p=>k (j+1) y u (by simpa using f) (by simpa using p)) (C.mono λj f=>Xi _ f) (cx.1 r).2 (dm.1 E).2.1 g2;obtain⟨W,Z,e2,e3,e4,e5⟩:=Sn (wb:=wb) (Gb:=Gb) L h T V g1 (C.mono λj f=>Xm _ f) r E c;exact⟨_,W++z,⟨b,o,M,s,W,z,P,rfl,rfl,Z,c.outs⟩,e2,e3,e4,e5⟩
    .cases a
   .cases a
  .cases a
 | .vj _::_,_,_,_,_,_,_,h,_,_,_,_,_,_=>h.elim
 | .boxal t lf::ps,d,vs,O,K,xs,B,⟨b,o,b',pc,J,n1,Q,M,D,R,P,N,h5,h6,h7,h8⟩,q,k,C,r,E,a=>by
  subst D;simp only[W7]at a;split at a
  .rename_i id y xs;split at a
   .rename_i cs V;split at a
    .rename_i dd m l A g1 g2;injection a with a;subst a;have T:=((k 0 _ _ rfl rfl).resolve_left (λe=>by cases e)).1;obtain⟨s,z,c⟩:=q9 L h ps d.2.2 J Q M xs A h8 (by simpa using q) (λj y u f p=>k (j+2) y u (by simpa using f) (by simpa using p)) (C.mono λj f=>Xi _ f) (cx.1 r).2 (dm.1 E).2.1 g2;obtain⟨W,Z,e2,e3,e4,e5⟩:=Sn (wb:=wb) (Gb:=Gb) L h T V g1 (C.mono λj f=>Xm _ f) r E c;exact⟨_,W++z,⟨b,o,M,s,W,z,P,rfl,rfl,Z,c.outs⟩,e2,e3,e4,e5⟩
    .cases a
   .cases a
  .cases a
 | .mut e::ps,d,vs,O,K,xs,B,⟨pc,J,Q,M,D,R,P,N,h5⟩,q,k,C,r,E,a=>by
  subst D;simp only[W7]at a;split at a
  .rename_i id xs;split at a
   .rename_i e' ys V;split at a
    .rename_i dd A g1 g2;injection a with a;subst a;obtain⟨lN,hd⟩:=j3 g1;subst lN;simp only at hd;subst hd;obtain⟨⟨_,T⟩,_⟩:=(k 0 _ _ rfl rfl).resolve_left (λe=>by cases e);have bh:Live objs id:=⟨_,V,by simp⟩;have bi:aq w (WD G w e') e'.size (ν id) ys (φ id):=h.ob _ _ V;have iW:=vq L (Same.refl _ w) (λ_ _ U=>U) bi;obtain⟨k1,k2⟩:=cx.1 r;obtain⟨s,z,c⟩:=q9 L h ps d.2 J Q M xs A h5 (by simpa using q) (λj y u f p=>k (j+1) y u (by simpa using f) (by simpa using p)) C k2 E g2;refine⟨φ id::s,z,⟨⟨pc.nu,φ id⟩,M,s,P,rfl,VA N iW T,c.outs⟩,?_,c.sepm,λS H=>?_,c.ms⟩
     .exact H6 h (k1:=[φ id]) (m:=[id]) (sJ _ _) c.sepk (λS H=>by rw[cq.1 H];exact FromL.one (by simp) bh) c.kf (λi I f=>k1 (by rw[←cq.1 I];exact f))
     .rcases Xq.1 H with rfl|H
      .exact FromL.one (Xl ..) bh
      .exactλb o U=>FromL.mono (λi I=>Xg _ I) b o (c.kf S H b o U)
    .cases a
   .cases a
  .cases a
 | .clos g n::ps,d,vs,O,K,xs,B,⟨cvs,J,D,R,P,N⟩,q,k,C,r,E,a=>by
  subst D;simp only[W7]at a;split at a
  .rename_i g' caps xs;split at a
   .rename_i hc;obtain⟨rfl,dw⟩:=hc;cases hA:W7 ps (dl caps++xs) objs with
    |none=>simp[hA]at a
    |some A=>
     simp[hA]at a;subst a;obtain⟨⟨X,xW,AW,Ch⟩,_⟩:=(k 0 _ _ rfl rfl).resolve_left (λe=>by cases e);have mj:X=cvs:=by
      injection xW with _ _ xW;have:=Ws Array.toList xW;simpa using this.symm
     subst mj;obtain⟨s,z,c⟩:=q9 L h ps d (X++J) O K (dl caps++xs) A N (by simp[dl,AW];simpa using q) (λj y u f p=>by
      rw[fh]at f p;simp only[dl,List.length_map]at f;rw[AW]at p;split at f
      .rename_i ab;rw[Wf ab]at p;rw[d5]at f;obtain⟨id,cj,rfl⟩:=Xz.1 f;obtain⟨q1,q3,q2⟩:=Ch _ id u cj p;exact .inr ⟨⟨q1,q2⟩,q3⟩
      .rename_i ab;rw[We ab]at p;exact k (j-caps.length+1) y u (by simpa using f) (by simpa using p)) C r E hA
     exact⟨s,z,c.outs,c.sepk,c.sepm,c.kf,c.ms⟩
   .cases a
  .cases a
 | .kv t agg::ps,d,vs,O,K,xs,B,⟨v,J,n1,Q,M,D,R,mn,P,N⟩,q,k,C,r,E,a=>by
  subst D;simp only[W7]at a;split at a
  .rename_i x xs;split at a
   .rename_i dd m l A g1 g2;split at a
    .rename_i jN;injection a with a;subst a;cases hc:cellsOf agg x with
     |none=>simp[hc]at g1
     |some cs=>
      simp[hc]at g1;obtain⟨k1,k2,k3⟩:=dm.1 r;have T:=(k 0 _ _ rfl rfl).resolve_left (λe=>by subst e;cases hc);have cg:Lent G' w φ objs l:=C.mono λj f=>Xm _ f;obtain⟨_,_,_,_,q4,_⟩:=Ht h L T cg k1 hc g1;obtain⟨v1,_⟩:=Uq h L T cg hc g1 jN;obtain⟨X,Y,r1,r2,r3⟩:=Wta P v1;obtain⟨s,z,c⟩:=q9 L h ps d.2 J Q M xs A N (by simpa using q) (λj y u f p=>k (j+1) y u (by simpa using f) (by simpa using p)) (C.mono λj f=>Xi _ f) k2 E g2;have gp:∀S∈fps Y,CS.le S (FromL φ objs m):=λS H=>by
       rw[r3,NF]at H;obtain⟨i,I,rfl⟩:=Xx.1 H;exact FromL.one I (q4 i I)
      have gs:Sep (fps Y):=by
       rw[r3,NF];refine List.pairwise_map.2 (k1.imp_of_mem λ{i j} I f bP=>?_)
       exactλb o D R=>bP (h.inj i j b o (q4 i I) (q4 j f) D R)
      refine⟨fps Y++s,z,⟨Y,M,s,X,by rw[mn,r2],rfl,r1,c.outs⟩,H6 h gs c.sepk gp c.kf (λi I f=>k3 i I i f rfl),c.sepm,λS H=>?_,c.ms⟩;rcases Xo.1 H with H|H
      .exactλb o U=>FromL.mono (λi I=>Xm _ I) b o (gp S H b o U)
      .exactλb o U=>FromL.mono (λi I=>Xi _ I) b o (c.kf S H b o U)
    .cases a
   .cases a
  .cases a
end
section
variable{P:Program}{T:Tab}{Γ:Ctx}
theorem WuQ{sg:Sig}{d:dA sg.ps}{G:GH}{w:World}{vs:List Value}{ns:List Pc}{J:List Nu}{n:Nat}(Z:fa sg.ps<=n)(W:gi sg.ps=true)(B:gN G w sg.ps d vs ns J)(X:Sep (fps ns))
  (C:∀q∈ns,∀b r,q.fp b r->G b r=none/\b<w.heap.size) (U:∀b o v,G b o=some v->w.cell? ⟨b,o,none⟩=some v):
  ∃ν,Rel w (Of ns) ⟨n,WL sg.ps 0 0 vs,λ_ _=>False⟩ G G ν {env:=ki 0 (WT sg.ps d [] 0).1,objs:=(WT sg.ps d [] 0).2.1,nx:=(WT sg.ps d [] 0).2.2}
   {tmps:=vs.toArray++A7 (n-vs.toArray.size) undef,defers:=[]} w:=by
 obtain⟨ν,V⟩:∃ν:Nat->Nu,ν= λi=>((nus ns)[i]?).getD ⟨none,0,0,0,0⟩:=⟨_,rfl⟩;obtain⟨φ,I⟩:∃φ:Nat->CS,φ= λi=>((fps ns)[i]?).getD (λ_ _=>False):=⟨_,rfl⟩;have u:At ν φ 0 ns:=λj K F=>by
  have O:(nus ns)[j]?=some K.nu:=by unfold nus;rw[d5,F];rfl
  have P:(fps ns)[j]?=some K.fp:=by unfold fps;rw[d5,F];rfl
  rw[V,I];simp only[cb,O,P];exact⟨rfl,rfl⟩
 obtain⟨t,D,S,T⟩:=rj (ν:=ν) (φ:=φ) sg.ps d vs ns J [] 0 (0+ns.length) W B u (Xj _);have sY:=rH _ _ _ _ _ B;have R:∀a,Live (WT sg.ps d [] 0).2.1 a->a<ns.length:=λa ⟨ob,z,_⟩=>by
  rcases D a ob z with⟨_,h,_⟩|h
  .simpa using h
  .cases h
 have k:∀a b o,φ a b o->∃q,ns[a]?=some q/\(fps ns)[a]?=some q.fp/\q.fp b o:=λa b o c=>by
  rw[I]at c
  try simp only at c
  cases hq:ns[a]? with
  |none=>
   have:(fps ns)[a]?=none:=by unfold fps;rw[d5,hq];rfl
   rw[this]at c;exact c.elim
  |some q=>
   have:(fps ns)[a]?=some q.fp:=by unfold fps;rw[d5,hq];rfl
   rw[this]at c;exact⟨q,rfl,this,c⟩
 have A:∀(i:Nat) (v:Value),vs[i]?=some v->(vs.toArray++A7 (n-vs.toArray.size) undef)[i]?=some v:=λi v E=>by
  have s:=(dJ.1 E).1;rw[Xfz (by simpa using s)];simpa using E
 refine⟨ν,rfl,by simp;omega,λp c=>?_,λi x m=>?_,⟨φ,?_⟩,⟨λ_ _ _ y=>y,λ_ _ _ y=>.inl y⟩,λ_ _ h=>h.elim⟩
 .obtain⟨_,e⟩:=WS _ _ _ _ p c;exact A _ _ (by simpa using e)
 .simp only at m;rw[SD]at m;simp only[kP,W1,wZ]at m;have s:=(dJ.1 m).1;rw[S]at s;have H:=Xr s;refine⟨_,A i _ H,?_⟩;have:=T i x _ m H;simp only[t];exact this
 .exact{
   g:=U
   ob:=λa ob z=>by
    rcases D a ob z with⟨_,_,h⟩|h
    .simp only[t];exact h
    .cases h
   gf:=λa b o l c=>by
    obtain⟨q,f,_,e⟩:=k a b o c;exact(C q (gz f) b o e).1
   inj:=λa N b o l Y c Q=>by
    obtain⟨q,_,f,e⟩:=k a b o c;obtain⟨q',_,L,M⟩:=k N b o Q;exact Hy X f L e M
   own:=λa b o l c=>by
    obtain⟨q,f,_,e⟩:=k a b o c;exact .inr ⟨q,gz f,e⟩
   lt:=λa l=>by simp only[t];have:=R a l;omega
   bl:=λa b o l c=>by
    obtain⟨q,f,_,e⟩:=k a b o c;exact(C q (gz f) b o e).2
   le:=WLe.refl _ w}
theorem WsK(hT:au P T){f:Func}{sg:Sig}{d:dA sg.ps}{G:GH}{w:World}{vs:List Value}{E:List Pc}{I:List Nu}{n:Nat}(iv:gi sg.ps=true)(Q:gN G w sg.ps d vs E I)
  {st:St} {a:Act} {w':World} {K:GH} {ν:Nat->Nu} (C:Rel w (Of E) ⟨n,WL sg.ps 0 0 vs,λ_ _=>False⟩ G K ν st a w') {xs:List AVal} (hx:jt T st f.results.toList=some xs)
  {A:Outs (ec sg.rs)} (Y:fL sg.rs xs st.objs=some A) {B:OutK (dI sg.ps)} (Z:W7 sg.ps (WG sg.ps 0 0 st) st.objs=some B)
  (L:en (B.kept++(B.moved++A.moved))=true) (M:iA (A.lent++B.lent) (B.kept++(B.moved++A.moved))=true):
  ∃rv H J F G',(results f a.tmps).run P w'= .ok (vU rv) w'/\After sg (B.d,A.d) G w E I rv H J F G' w':=by
 have L:=(Gv _).1 L;have M:=UY M;obtain⟨φ,k⟩:=C.h;have O:=k.addG_le (A.lent++B.lent);have V:=k.addG_w (A.lent++B.lent);have U:Lent (lS K w' (FromL φ st.objs (A.lent++B.lent))) w' φ st.objs (A.lent++B.lent):=λid W hl=>(ML _).mono (FromL.one W hl);obtain⟨k1,k2,k3⟩:=dm.1 L;obtain⟨k4,k5,k6⟩:=dm.1 k2;obtain⟨rv,ry,rz,rD⟩:=Ha hT C _ xs hx;obtain⟨F,q1,q2,N,q4⟩:=Gr k O sg.rs xs rv A rz rD (U.mono λi c=>Xm _ c) k5 Y;obtain⟨kx,X⟩:=o6 C sg.ps d vs E I 0 0 Q iv (by cases sg.ps<;>rfl) (kP _) (by simpa using C.par);obtain⟨H,J,s⟩:=q9 O k sg.ps d vs E I _ B Q kx (λj x v t D=>X j x v t (by simpa using D)) (U.mono λi c=>Xi _ c) k1 k4 Z;have iY:∀S∈H++fps (J++F),CS.le S (FromL φ st.objs (B.kept++(B.moved++A.moved))):=λS r=>by
  rcases Xo.1 r with r|r
  .exactλb o m=>FromL.mono (λi c=>Xm _ c) b o (s.kf S r b o m)
  .obtain⟨q,p,rfl⟩:=Xx.1 r;rcases Xo.1 p with p|p
   .exactλb o m=>FromL.mono (λi c=>Xi _ (Xm _ c)) b o (s.ms q p b o m)
   .exactλb o m=>FromL.mono (λi c=>Xi _ (Xi _ c)) b o (N q p b o m)
 refine⟨rv,H,J,F,lS K w' (FromL φ st.objs (A.lent++B.lent)),?_,?_⟩
 .show(do let vs←f.results.mapM (vN a.tmps);pure (if h:vs.size=1 then vs[0]else .tuple vs):Sem Value).run P w'=_;have jQ:(f.results.mapM (vN a.tmps)).run P w'= .ok rv.toArray w':=by
   rw[ZW,Sem.run_map,ry];rfl
  rw[Sem.run_bind,jQ];simp only[Result.andThen_ok,Sem.run_pure];congr 1;unfold vU
  match rv with
  | []=>rfl
  | [v]=>rfl
  |u::v::l=>simp
 .exact{
   res:=q1
   outs:=s.outs
   sep:=by
    refine H6 k s.sepk (nO k s.sepm q2 s.ms N (λi c t=>k6 i c i t rfl)) s.kf (l:=B.moved++A.moved) (λS r=>?_) (λi c t=>k3 i c i t rfl);obtain⟨q,p,rfl⟩:=Xx.1 r;rcases Xo.1 p with p|p
    .exactλb o m=>FromL.mono (λi c=>Xm _ c) b o (s.ms q p b o m)
    .exactλb o m=>FromL.mono (λi c=>Xi _ c) b o (N q p b o m)
   own:=λS r b e m=>by
    obtain⟨i,c,y,z⟩:=iY S r b e m;refine⟨?_,(k.own i b e y z).symm,k.bl i b e y z⟩;rw[rG (λ⟨j,t,h3,h4⟩=>by
     have:=k.inj i j b e y h3 z h4;subst this;exact M _ t c)]
    exact k.gf i b e y z
   gx:=by
    refine⟨λb o v D=>O b o v (C.gx.le b o v D),λb e v D=>?_⟩;by_cases R:FromL φ st.objs (A.lent++B.lent) b e
    .obtain⟨j,t,y,z⟩:=R;exact .inr (k.own j b e y z)
    .rw[rG R]at D;exact C.gx.new b e v D
   g:=V
   le:=k.le}
theorem Wxv(Y:P.follows .mixedOrders=true)(E:au P T)(hΓ:eC P Γ){f:Func}{k:FuncId}{c:Code}(Z:P.funcs[k]?=some f)(F:f.body=some c){sg:Sig}(Q:jf f.ntmps (lA sg.ps 0 0) c=true)(H:gi sg.ps=true)
  (hn:fa sg.ps<=f.ntmps) {ann:Nat->List Ghost} (h:∀d o,sg.run d=some o->∃N,den T Γ ann N sg f d some=some o):AP P k sg:=by
 intro d o R G w z y J C lO S hg;obtain⟨N,j⟩:=h d o R;unfold den at j;simp only[F]at j;obtain⟨ν,L⟩:=WuQ hn H C lO S hg;split at j
 case h_2=>cases j
 rename_i c' b st0 r M;injection r with r;subst r;obtain⟨rfl,j⟩:=W9 j;obtain⟨O,ν0',hr⟩:=Db _ _ _ _ _ (.inl λ_ _ h=>h) L M;refine calls_of_wp Z F ?_
 suffices g:∀e,lV w (Of y) ⟨f.ntmps,WL sg.ps 0 0 z,λ_ _=>False⟩ G (OJ T sg f.results.toList some e) o (bodyPost P f (λe w'=>∃l p q m G',e= .returned (vU l)/\After sg o G w y J l p q m G' w') e.to)from
  sj (nt:=⟨f.ntmps,WL sg.ps 0 0 z,λ_ _=>False⟩) Y E hΓ (n:=f.ntmps) rfl (WY sg.ps 0 0 z) (.inl λ_ _ h=>h) c Q g _ _ _ _ _ hr j
 intro e st a w' G1 ν1 I g;have D:(∃i,jt T st f.results.toList=some i/\∃A B,fL sg.rs i st.objs=some A/\W7 sg.ps (WG sg.ps 0 0 st) st.objs=some B/\en (B.kept++(B.moved++A.moved))=true/\iA (A.lent++B.lent) (B.kept++(B.moved++A.moved))=true/\(B.d,A.d)=o)->
   a.defers= []/\∃v,(results f a.tmps).run P w'= .ok v w'/\∃l p q m G',Ending.returned v= .returned (vU l)/\After sg o G w y J l p q m G' w':=by
  rintro⟨i,x,A,B,s,t,U,V,rfl⟩;obtain⟨l,p,q,m,G',W,X⟩:=WsK E (f:=f) H C I x s t U V;exact⟨I.defers,_,W,l,p,q,m,G',rfl,X⟩
 have K:(match jt T st f.results.toList with
   |some i=>match fL sg.rs i st.objs,W7 sg.ps (WG sg.ps 0 0 st) st.objs with
    |some A,some B=>if en (B.kept++(B.moved++A.moved))&&iA (A.lent++B.lent) (B.kept++(B.moved++A.moved))then some (B.d,A.d)else none
    |_,_=>none
   |none=>none)=some o->(∃i,jt T st f.results.toList=some i/\∃A B,fL sg.rs i st.objs=some A/\W7 sg.ps (WG sg.ps 0 0 st) st.objs=some B/\en (B.kept++(B.moved++A.moved))=true/\iA (A.lent++B.lent) (B.kept++(B.moved++A.moved))=true/\(B.d,A.d)=o):=λg=>by
  split at g
  .rename_i i x;split at g
   .rename_i A B s t;obtain⟨u,g⟩:=i9 g;simp only[Xh]at u;injection g with g;exact⟨i,x,A,B,s,t,u.1,u.2,g⟩
   .cases g
  .cases g
 cases e with
 |normal=>exact D (K g)
 |ret=>exact D (K g)
 |exit id=>cases g
end
def zv1:Value->Value->Bool
 | .int k n,.int k' n'=>decide (k=k')&&decide (n=n')
 | .bool b,.bool b'=>b==b'
 | .string s,.string s'=>match s.data.toList,s'.data.toList with
  | [],[]=>true
  |_,_=>false
 | .slice none 0 0,.slice none 0 0=>true
 | .pointer none,.pointer none=>true
 |_,_=>false
theorem WvX(x y)(h:zv1 x y=true):x=y:=by
 unfold zv1 at h;split at h
 .simp only[Xh,Wh]at h;obtain⟨rfl,rfl⟩:=h;rfl
 .have:=eq_of_beq h;subst this;rfl
 .rename_i s s';split at h
  .rename_i e1 e2;have:s=s':=by
    cases s with|mk a=>cases s' with|mk b=>
    congr 1;apply Array.ext';simp only at e1 e2;rw[e1,e2]
   rw[this]
  .cases h
 .rfl
 .rfl
 .cases h
def Ia:List Value->List Value->Bool
 | [],[]=>true
 |x::l,y::m=>zv1 x y&&Ia l m
 |_,_=>false
theorem UT:∀(l m),Ia l m=true->l=m
 | [],[],_=>rfl
 | [],_::_,h=>by cases h
 |_::_,[],h=>by cases h
 |x::l,y::m,h=>by
  simp only[Ia,Xh]at h;rw[WvX x y h.1,UT l m h.2]
def GJ:List Field->List (Nat×TypeId)->Bool
 | [],[]=>true
 |f::l,p::m=>aZ f.offset p.1&&aZ f.type p.2&&(f.name != "_")&&GJ l m
 |_,_=>false
def Om(P:Program)(T:Tab)(t:TypeId)(a:TE):Bool:=match a.shape with
 | .basic=>!a.agg&&(match a.ty with
  | .int k=>match P.underlying t with|some (.int k')=>decide (k'=k)|_=>false
  | .bool=>match P.underlying t with|some .bool=>true|_=>false
  | .str=>match P.underlying t with|some .string=>true|_=>false
  |_=>false)
 | .slice e=>!a.agg&&(match P.underlying t with|some (.slice e')=>aZ e' e|_=>false)&&(match Wt T e with|some fJ=>decide (a.ty= .slice fJ.ty)|none=>false)
 | .struct fs=>a.agg&&(match P.underlying t with|some (.struct fields)=>GJ fields.toList fs|_=>false)&& !P.stoodInHeld t&& !P.eqGuardType P.depth t
 | .ptr e=>!a.agg&&(match P.underlying t with|some (.pointer e')=>aZ e' e|_=>false)
 | .arr n e=>a.agg&&(match P.underlying t with|some (.array n' e')=>aZ n' n&&aZ e' e|_=>false)&&(match Wt T e with|some fJ=>decide (fJ.ty=a.ty)&&fJ.plain|none=>false)
def NQ(P:Program)(t:TypeId)(a:TE):Bool:=match P.info? t with
 |some i=>match i.zero with
  |some z=>aZ i.size a.size&&Ia z.cells.toList a.cells&&Ij i.bytes 4096
  |none=>false
 |none=>false
def D6(P:Program)(T:Tab):Tab->Bool
 | []=>true
 |(t,te)::l=>Om P T t te&&NQ P t te&&D6 P T l
theorem R2:∀(l) (m),GJ l m=true→l.map (λf=>(f.offset,f.type))=m∧∀f∈l,f.name≠ "_"
 | [],[],_=>⟨rfl,by simp⟩
 | [],_::_,h=>by cases h
 |_::_,[],h=>by cases h
 |f::l,p::m,h=>by
  simp only[GJ,Xh,bne_iff_ne,ne_eq]at h;obtain⟨⟨⟨b,c⟩,d⟩,e⟩:=h;obtain⟨i,j⟩:=R2 l m e;have b:f.offset=p.1:=by simpa using b
  have c:f.type=p.2:=by simpa using c
  refine⟨by rw[bn,i,b,c],λg a=>?_⟩;rcases Xq.1 a with a|a
  .subst a;exact d
  .exact j g a
theorem Wpy{P}{T}{t}{te}(h:Om P T t te=true)(hi:NQ P t te=true):TEok P T t te:=by
 obtain⟨C,q,shape⟩:=te;refine⟨?_,?_⟩
 .unfold Om at h;cases shape with
  |basic=>
   simp only[Xh,c5]at h⊢;refine⟨h.1,?_⟩;have h:=h.2;cases C with
   |int k=>
    simp only at h⊢;split at h
    .rename_i k' j;simp only[Wh]at h;rw[j,h]
    .cases h
   |bool=>
    simp only at h⊢;split at h
    .assumption
    .cases h
   |str=>
    simp only at h⊢;split at h
    .assumption
    .cases h
   |slice e=>cases h
   |own e=>cases h
   |prod a b=>cases h
  |slice e=>
   simp only[Xh,c5]at h⊢;obtain⟨⟨l,c⟩,d⟩:=h;refine⟨l,?_,?_⟩
   .split at c
    .rename_i e' j;rw[j];have:e'=e:=by simpa using c
     rw[this]
    .cases c
   .split at d
    .rename_i o p;exact⟨o,p,by simpa using d⟩
    .cases d
  |struct fs=>
   simp only[Xh,c5]at h⊢;obtain⟨⟨⟨l,c⟩,d⟩,u⟩:=h;refine⟨l,?_⟩;split at c
   .rename_i g j;obtain⟨v,w⟩:=R2 _ _ c;exact⟨g,j,v,λf x=>w f (by simpa using x),d,u⟩
   .cases c
  |ptr e=>
   simp only[Xh,c5]at h⊢;refine⟨h.1,?_⟩;have h:=h.2;split at h
   .rename_i e' j;rw[j];have:e'=e:=by simpa using h
    rw[this]
   .cases h
  |arr n e=>
   simp only[Xh]at h⊢;obtain⟨⟨l,c⟩,d⟩:=h;refine⟨l,?_,?_⟩
   .split at c
    .rename_i n' e' j;simp only[Xh]at c;have r:n'=n:=by simpa using c.1
     have s:e'=e:=by simpa using c.2
     rw[j,r,s]
    .cases c
   .split at d
    .rename_i o p;simp only[Xh,Wh]at d;refine⟨o,p,d.1,λm f y=>?_⟩;have:=d.2;unfold TE.plain at this;rw[y]at this;cases this
    .cases d
 .unfold NQ at hi;split at hi
  .rename_i i B;split at hi
   .rename_i z A;simp only[Xh]at hi;obtain⟨⟨l,c⟩,d⟩:=hi;exact⟨i,z,B,by simpa using l,A,UT _ _ c,O3 d⟩
   .cases hi
  .cases hi
theorem WyL{P}{T}(h:D6 P T T=true):au P T:=by
 have c:∀l,D6 P T l=true->∀t te,Wt l t=some te->TEok P T t te:=by
  intro l
  induction l with
  |nil=>intro _ t te a;cases a
  |cons p l ih=>
   intro b t te a;obtain⟨f,d⟩:=p;simp only[D6,Xh]at b;rw[WM]at a;split at a
   .rename_i e;subst e;injection a with a;subst a;exact Wpy b.1.1 b.1.2
   .exact ih b.2 t te a
 exact c T h
theorem NX{P}:eC P []:=λk sg h=>by cases h
theorem Wy4{P:Program}{k:FuncId}{s:Sig}(hi:s.inl=none)(h:AP P k s):wg P k s:=by
 unfold wg;rw[hi];exact h
theorem WvD{P:Program}{Γ:Ctx}{k:FuncId}{sg:Sig}(d:wg P k sg)(c:DG P k)(h:eC P Γ):eC P ((k,sg)::Γ):=λk' b a=>by
 simp only[Wt]at a;split at a
 .rename_i e;have:k=k':=by simpa using e
  subst this;injection a with a;subst a;exact⟨d,c⟩
 .exact h k' b a
def sh(f:Func):Bool:=f.body.isSome&& !(f.name== "runtime.NumGoroutine")
theorem C5{P}{k}{f}(a:P.funcs[k]?=some f)(h:sh f=true):DG P k:=by
 simp only[sh,Xh,c5]at h;refine⟨f,a,?_,h.2⟩;cases hb:f.body with
 |none=>rw[hb]at h;cases h.1
 |some c=>rfl
def DQ(f:Func)(a:List PTy):Bool:=match f.body with
 |some c=>jf f.ntmps (lA a 0 0) c&&Ij (fa a) f.ntmps&&gi a
 |none=>false
theorem Wso{P}{T}{Γ}(b:P.follows .mixedOrders=true)(e:au P T)(i:eC P Γ){f}{k}(g:P.funcs[k]?=some f){sg}(a:DQ f sg.ps=true){ann}
  (h:∀d o,sg.run d=some o->∃N,den T Γ ann N sg f d some=some o):AP P k sg:=by
 unfold DQ at a;split at a
 .rename_i c hb;simp only[Xh]at a;exact Wxv b e i g hb a.1.1 a.2 (O3 a.1.2) h
 .cases a
def vv:Code->List Code
 | .seq a b=>vv a++vv b
 | .cond _ a b=>vv a++vv b
 | .block _ c=>vv c
 | .loop c=>c::vv c
 |_=>[]
def NM(f:Func):Code:=match f.body with
 |some c=>c
 |none=>.skip
def XC(f:Func)(i:Nat):Code:=(vv (NM f)).getD i .skip
noncomputable def wn{R:Type}(T:Tab)(Γ:Ctx)(ann:Nat->List Ghost)(N:Nat):Code->List Nat->(Ex->St->Option R)->Ex->St->Option R
 | .seq a b,p,k=>match p with
  |0::p=>wn T Γ ann N a p λe ai=>match e with
   | .normal=>sx T Γ ann N b ai k
   | .exit id=>k (.exit id) ai
   | .ret=>k .ret ai
  |_::p=>wn T Γ ann N b p k
  | []=>k
 | .cond _ x y,p,k=>match p with
  |0::p=>wn T Γ ann N x p k
  |_::p=>wn T Γ ann N y p k
  | []=>k
 | .block id c,p,k=>match p with
  |_::p=>wn T Γ ann N c p λe ai=>match e with
   | .exit cJ=>if cJ=id then k .normal ai else k (.exit cJ) ai
   | .normal=>k .normal ai
   | .ret=>k .ret ai
  | []=>k
 |_,_,k=>k
def Wzn{R:Type}(a:List Ghost)(L:St->(Ex->St->Option R)->Option R)(K:Ex->St->Option R):Ex->St->Option R:=λe st=>match e with
 | .normal=>match fH a st with
  |some (c,ai)=>bif c then L ai K else none
  |none=>none
 | .exit id=>K (.exit id) st
 | .ret=>K .ret st
abbrev vI(x:Int):AVal:=.s (.one (.val (.int .i64) x))
abbrev vB(x:Bool):AVal:=.s (.one (.val .bool x))
abbrev vV(t:Ty)(x:t.den):AVal:=.s (.one (.val t x))
abbrev vO(i:Nat):AVal:=.s (.one (.own i))
abbrev vP(i o:Nat):AVal:=.s (.one (.ptr i o))
abbrev Qs(s:Sig):=dI s.ps×ec s.rs
structure Fn where
 F:Func
 a:Nat->List Ghost
 s:Nat->Sig
 c:Nat->Ctx
def Ww:Nat->List Ghost:=λ_=>[]
def W3:Nat->Ctx:=λ_=>[]
noncomputable def lpM{R:Type}(T:Tab)(Γ:Ctx)(ann:Nat->List Ghost)(N:Nat)(F:Func)(i k n:Nat)(st:St)(K:Ex->St->Option R):Option R:=wd (Aj (ann k) λst k=>sx T Γ ann N (XC F i) st k) n st K
noncomputable def cxF(T:Tab)(Γ:Ctx)(ann:Nat->List Ghost)(N:Nat)(sg:Sig)(F:Func)(p:List Nat):Ex->St->Option (Qs sg):=wn (R:=Qs sg) T Γ ann N (NM F) p (OJ T sg F.results.toList some)
noncomputable def cxL{R:Type}(T:Tab)(Γ:Ctx)(ann:Nat->List Ghost)(N:Nat)(F:Func)(i k:Nat)(p:List Nat)(n:Nat)(K:Ex->St->Option R):Ex->St->Option R:=wn T Γ ann N (XC F i) p (Wzn (ann k) (lpM T Γ ann N F i k n) K)
def qf{R:Type}(T:Tab)(rv:List ResultVar)(k:KV R)(e:Ex)(st:St):Option R:=match e with
 | .exit _=>none
 |_=>match jt T st rv with
  |some [x]=>k x st.objs st.nx
  |_=>none
def Ghost.opens:Ghost->Bool
 | .unfC _ _ _=>true
 |_=>false
def pE(ann:Nat->List Ghost):Code->Bool
 | .skip| .ret=>true
 | .region id ops draw=>(ann id).all Ghost.opens&&(!draw||decide ((lY (dW ops.toList []) ops.size (kn ops.toList 0)).length<=1))
 | .seq a b=>pE ann a&&pE ann b
 |_=>false
section
variable{T:Tab}{Γ:Ctx}{A:List (Nat×An)}{ops:Array Oper}{ann:Nat->List Ghost}{N:Nat}
theorem via{S R R'}{X:(Q:Type)->(S->Option Q)->Option Q}(a:∀Q k,X Q k=(X S some).bind k){f}{g}{h}(e:∀s,f s=(g s).bind h):X R f=(X R' g).bind h:=by
 rw[a R f,a R' g,Xgd];congr 1;funext s;exact e s
theorem Na{R}:∀(l) (st) (k:St->Option R),rxs T Γ A ops l st k=(rxs T Γ A ops l st some).bind k
 | [],st,k=>rfl
 |o::l,st,k=>by
  refine via (X:=λQ k=>rxg T Γ A ops o st k) (λQ k=>GX o st k) λai=>?_;cases opG A o ai with
  |none=>rfl
  |some p=>
   obtain⟨c,s⟩:=p;cases c with
   |false=>rfl
   |true=>exact Na l s k
theorem MX{R}{B}:∀(l) (fl a) (st) (k:St->Option R),rdx T Γ A ops B l fl a st k=(rdx T Γ A ops B l fl a st some).bind k
 | [],_,_,st,k=>rfl
 |i::l,fl,a,st,k=>by
  simp only[rdx];cases ops[i]? with
  |none=>rfl
  |some o=>
   dsimp only;cases bs o with
   |true=>
    simp only[Wa,mH];refine via (X:=λQ k=>rxg T Γ A ops o st k) (λQ k=>GX o st k) λai=>?_;generalize fl.all (λp=>d1 B p.1 i||iA p.2 (HI st.objs ai.objs))=c;cases c with
    |false=>rfl
    |true=>exact MX l _ _ ai k
   |false=>
    simp only[Wb,mH];generalize a.all (λp=>d1 B p.1 i||iA (lw o st) p.2)=c;cases c with
    |false=>rfl
    |true=>
     refine via (X:=λQ k=>rxg T Γ A ops o st k) (λQ k=>GX o st k) λai=>?_;exact MX l _ _ ai k
theorem Tr{R}(h:(lY (dW ops.toList []) ops.size (kn ops.toList 0)).length<=1)(st)(k:St->Option R):p8 T Γ A ops st k=(p8 T Γ A ops st some).bind k:=by
 simp only[p8,GQ];generalize HN ops (dW ops.toList [])=c;cases c with
 |false=>rfl
 |true=>
  simp only[Wa];generalize lY (dW ops.toList []) ops.size (kn ops.toList 0)=l at h
  match l,h with
  | [],_=>rfl
  | [σ],_=>
   simp only[ws,mH];generalize (na ops (DY ops.toList (dW ops.toList []) ops.size [] σ) []&&_)=c;cases c with
   |false=>rfl
   |true=>exact MX _ _ _ _ _
theorem DR{R}:∀(c),pE ann c=true->∀(st) (k:Ex->St->Option R),sx T Γ ann N c st k=(sx T Γ ann N c st λe s=>some (e,s)).bind λp=>k p.1 p.2
 | .skip,_,st,k=>rfl
 | .ret,_,st,k=>rfl
 | .seq a b,h,st,k=>by
  simp only[pE,Xh]at h;refine via (X:=λQ k=>sx T Γ ann N a st λe s=>k (e,s)) (λQ k=>DR a h.1 st λe s=>k (e,s)) (f:=λp=>match p.1 with
   | .normal=>sx T Γ ann N b p.2 k
   | .exit id=>k (.exit id) p.2
   | .ret=>k .ret p.2) (g:=λp=>match p.1 with
   | .normal=>sx T Γ ann N b p.2 λe s=>some (e,s)
   | .exit id=>some (.exit id,p.2)
   | .ret=>some (.ret,p.2)) λp=>?_
  obtain⟨e,s⟩:=p;cases e with
  |normal=>exact DR b h.2 s k
  |exit _=>rfl
  |ret=>rfl
 | .region id ops draw,h,st,k=>by
  simp only[pE,Xh,qj,c5,Wh]at h;simp only[sx];have e:∀ai:St,(match fH (ann id) ai with|some (c,cr)=>bif c then k .normal cr else none|none=>none)
    =(match fH (ann id) ai with|some (c,cr)=>bif c then some (Ex.normal,cr)else none|none=>none).bind λp=>k p.1 p.2:=λai=>by
   cases fH (ann id) ai with
   |none=>rfl
   |some p=>
    obtain⟨c,s⟩:=p;cases c<;>rfl
  cases draw with
  |true=>
   exact via (X:=λQ k=>p8 T Γ (iH (ann id)) ops st k) (λQ k=>Tr (h.2.resolve_left (by simp)) st k) e
  |false=>
   exact via (X:=λQ k=>rxs T Γ (iH (ann id)) ops ops.toList st k) (λQ k=>Na _ st k) e
 | .cond ..,h,_,_| .block ..,h,_,_| .loop ..,h,_,_| .exit ..,h,_,_| .scope ..,h,_,_| .label ..,h,_,_| .goto ..,h,_,_| .rangeFunc ..,h,_,_| .refuse ..,h,_,_=>by cases h
def Fw(st ai:St):Prop:=∃a,ai.objs=a++st.objs
theorem Fw.refl(st):Fw st st:=⟨[],rfl⟩
theorem Fw.trans{a b c}(h:Fw a b)(g:Fw b c):Fw a c:=by
 obtain⟨p,h⟩:=h;obtain⟨q,g⟩:=g;exact⟨q++p,by rw[g,h,List.append_assoc]⟩
theorem N4{o}{st ai}(h:rx1 T Γ A o st some=some ai):Fw st ai:=by
 unfold rx1 at h;rw[zY]at h;obtain⟨p,c,a⟩:=jP.1 h;obtain⟨b,d⟩:=TJ _ _ _ _ _ c;injection a with a;subst a;exact⟨b,by cases o.dst<;>exact d⟩
theorem Od{o}{st ai}(h:rxg T Γ A ops o st some=some ai):Fw st ai:=by
 unfold rxg at h;split at h
 .exact N4 h
 .split at h
  .split at h
   .injection h with h;subst h;exact⟨[],by rw[je];rfl⟩
   .split at h
    .rename_i b _;cases b
     .split at h
      .injection h with h;subst h;exact⟨[],by rw[je,je];rfl⟩
      .obtain⟨a,c⟩:=N4 h;exact⟨a,by rw[c,je]⟩
     .split at h
      .obtain⟨a,c⟩:=N4 h;exact⟨a,by rw[c,je]⟩
      .injection h with h;subst h;exact⟨[],by rw[je,je];rfl⟩
    .cases h
   .cases h
  .cases h
theorem WsW{st ai}{r}{ix}{c}(h:D7 st r ix=some (c,ai)):Fw st ai:=by
 unfold D7 at h;split at h
 .obtain⟨s,a,b⟩:=Xz.1 h;injection b with _ b;subst b;unfold Ai at a;split at a
  .injection a with a;subst a;exact⟨_::_::_,rfl⟩
  .cases a
 .cases h
theorem WvM{g}(a:g.opens=true){st ai}{c}(h:lQ g st=some (c,ai)):Fw st ai:=by
 cases g<;>simp only[Ghost.opens,dL]at a;simp only[lQ]at h;split at h
 .split at h
  .split at h
   .exact WsW h
   .cases h
  .cases h
 .cases h
theorem Ux:∀(l) (st ai) (c),l.all Ghost.opens=true->fH l st=some (c,ai)->Fw st ai
 | [],st,ai,c,_,h=>by injection h with h;injection h with _ h;subst h;exact .refl _
 |g::l,st,ai,c,a,h=>by
  simp only[d6,Xh]at a;simp only[fH]at h;split at h
  .rename_i c1 s hg;split at h
   .rename_i c2 s2 hl;injection h with h;injection h with _ h;subst h;exact(WvM a.1 hg).trans (Ux l _ _ _ a.2 hl)
   .cases h
  .cases h
theorem TB:∀(l),l.all Ghost.opens=true->iH l= []
 | [],_=>rfl
 |g::l,h=>by
  simp only[d6,Xh]at h;cases g<;>simp only[Ghost.opens,dL,false_and]at h;exact TB l h.2
theorem YN:∀(l) (st ai),rxs T Γ [] ops l st some=some ai->Fw st ai
 | [],st,ai,h=>by injection h with h;subst h;exact .refl _
 |o::l,st,ai,h=>by
  obtain⟨s,b,a⟩:=DH h;have e:opG [] o s=some (true,s):=by unfold opG;cases hd:o.dst<;>simp[Eo,hd,Wt]
  rw[e]at a;exact(Od b).trans (YN l s ai a)
theorem Oi{B}:∀(l) (fl c) (st ai),rdx T Γ A ops B l fl c st some=some ai->Fw st ai
 | [],_,_,st,ai,h=>by injection h with h;subst h;exact .refl _
 |i::l,fl,c,st,ai,h=>by
  simp only[rdx]at h;split at h
  .rename_i o _;cases hm:bs o with
   |true=>
    rw[hm]at h;simp only[Wa]at h;obtain⟨s,b,a⟩:=DH h;rw[mH]at a;obtain⟨_,a⟩:=W9 a;exact(Od b).trans (Oi l _ _ s ai a)
   |false=>
    rw[hm]at h;simp only[Wb,mH]at h;obtain⟨_,h⟩:=W9 h;obtain⟨s,b,a⟩:=DH h;exact(Od b).trans (Oi l _ _ s ai a)
  .cases h
theorem Wvq(a:(lY (dW ops.toList []) ops.size (kn ops.toList 0)).length<=1){st ai}(h:p8 T Γ A ops st some=some ai):Fw st ai:=by
 simp only[p8,GQ]at h;obtain⟨_,h⟩:=W9 h;generalize lY (dW ops.toList []) ops.size (kn ops.toList 0)=l at a h
 match l,a with
 | [],_=>cases h
 | [σ],_=>
  simp only[ws,mH]at h;obtain⟨_,h⟩:=W9 h;exact Oi _ _ _ _ _ h
theorem Ou:∀(c),pE ann c=true->∀(st ai) (e),sx T Γ ann N c st (λe s=>some (e,s))=some (e,ai)->Fw st ai
 | .skip,_,st,ai,e,h=>by injection h with h;injection h with _ h;subst h;exact .refl _
 | .ret,_,st,ai,e,h=>by injection h with h;injection h with _ h;subst h;exact .refl _
 | .seq a b,f,st,ai,e,h=>by
  simp only[pE,Xh]at f;simp only[sx]at h;rw[DR a f.1]at h;obtain⟨⟨k,s⟩,i,d⟩:=jP.1 h;refine(Ou a f.1 _ _ _ i).trans ?_;cases k with
  |normal=>exact Ou b f.2 _ _ _ d
  |exit id=>injection d with d;injection d with _ d;subst d;exact .refl _
  |ret=>injection d with d;injection d with _ d;subst d;exact .refl _
 | .region id ops draw,f,st,ai,e,h=>by
  simp only[pE,Xh,qj,c5,Wh]at f;simp only[sx,TB _ f.1]at h;have g:∀s:St,(match fH (ann id) s with|some (c,cr)=>bif c then some (Ex.normal,cr)else none|none=>none)=some (e,ai)->Fw s ai:=λs h=>by
   split at h
   .rename_i c s2 hg;obtain⟨_,h⟩:=W9 h;injection h with h;injection h with _ h;subst h;exact Ux _ _ _ _ f.1 hg
   .cases h
  cases draw with
  |true=>
   have i:=f.2.resolve_left (by simp);rw[Tr i]at h;obtain⟨s,d,j⟩:=jP.1 h;exact(Wvq i d).trans (g s j)
  |false=>
   rw[Na]at h;obtain⟨s,d,j⟩:=jP.1 h;exact(YN _ _ _ d).trans (g s j)
 | .cond ..,h,_,_,_,_| .block ..,h,_,_,_,_| .loop ..,h,_,_,_,_| .exit ..,h,_,_,_,_| .scope ..,h,_,_,_,_| .label ..,h,_,_,_,_| .goto ..,h,_,_,_,_| .rangeFunc ..,h,_,_,_,_| .refuse ..,h,_,_,_,_=>by cases h
theorem Wup{R}{rv}(k:KV R)(e)(st):qf T rv k e st=(qf T rv cM e st).bind λp=>k p.1 p.2.1 p.2.2:=by
 unfold qf;cases e with
 |exit _=>rfl
 |normal|ret=>all_goals
  cases jt T st rv with
  |none=>rfl
  |some l=>match l with
   | []=>rfl
   | [x]=>rfl
   |_::_::_=>rfl
end
noncomputable def ZG(T:Tab)(ann:Nat->List Ghost)(n:Nat)(c:Code)(rv:List ResultVar)(R:Type)(st:St)(k:KV R):Option R:=
 bif Ij st.env.length n then sx T [] ann 0 c st (qf T rv k)else none
noncomputable def Inl.of(T:Tab)(ann:Nat->List Ghost)(n:Nat)(c:Code)(rv:List ResultVar)(h:pE ann c=true):Inl where
 fn:=ZG T ann n c rv
 law R st k:=by
  unfold ZG;cases Ij st.env.length n with
  |false=>rfl
  |true=>
   exact via (X:=λQ k=>sx T [] ann 0 c st λe s=>k (e,s)) (λQ k=>DR c h st λe s=>k (e,s)) (f:=λp=>qf T rv k p.1 p.2) (g:=λp=>qf T rv cM p.1 p.2) λp=>Wup _ _ _
 suf st x objs nx hh:=by
  obtain⟨_,hh⟩:=W9 hh;rw[DR c h]at hh;obtain⟨⟨e,s⟩,d,a⟩:=jP.1 hh;obtain⟨b,i⟩:=Ou c h _ _ _ d;refine⟨b,?_⟩;rw[←i];simp only[qf]at a;split at a
  .cases a
  .split at a
   .injection a with a;exact(Ws (λp:Out=>p.2.1) a).symm
   .cases a
noncomputable def Sig.inline(i:Inl):Sig:=⟨[],[],λ_ _ _=>none,λ_=>none,λ_ _ _=>rfl,some i⟩
theorem Ghost.opens_quiet{l:List Ghost}(h:l.all Ghost.opens=true):l.all Ghost.quiet=true:=by
 rw[bH]at h⊢;intro g a;have:=h g a;cases g<;>simp_all [Ghost.opens,Ghost.quiet]
theorem WvI{P}{T}(J:P.follows .mixedOrders=true)(z:au P T){f}{k}{c}{ann}(M:P.funcs[k]?=some f)(L:f.body=some c)
  (D:jf f.ntmps [] c=true) (hl) (K:∀s,(ann s).all Ghost.opens=true):ZI P k (Inl.of T ann f.ntmps c f.results.toList hl):=by
 intro st m b t X w0 F G0 G ν o w q N I Q;obtain⟨A,t⟩:=W9 t;have A:=O3 A;refine calls_of_wp M L ?_;have O:Rel w0 F ⟨f.ntmps,[],o⟩ G0 G ν st {tmps:=m.toArray++A7 (f.ntmps-m.toArray.size) undef,defers:=[]} w:=
  ⟨rfl,by simp;omega,λp y=>by simp at y,λi x j=>by
   obtain⟨v,B,j⟩:=q i x j;refine⟨v,?_,j⟩;have E:=(dJ.1 B).1;rw[Xfz (by simpa using E)];simpa using B,N,I,Q⟩
 suffices g:∀e,lV w0 F ⟨f.ntmps,[],o⟩ G0 (qf T f.results.toList cM e) b (bodyPost P f (λe w'=>∃d G' l,e= .returned d/\AValRel G' l b.2.2 b.1 d/\HRel w0 F G' l b.2.1 b.2.2 w'/\GExt w0.heap.size F G0 G'/\∀x v,o x v->AValRel G' l b.2.2 x v) e.to)from
  sj (nt:=⟨f.ntmps,[],o⟩) J z NX (n:=f.ntmps) rfl (λp y=>by simp at y) (.inr λs=>Ghost.opens_quiet (K s)) c D g _ _ _ _ _ O t
 intro e ai a w' C W r g;have H:∀x,jt T ai f.results.toList=some [x]->cM x ai.objs ai.nx=some b->a.defers= []/\∃v,(results f a.tmps).run P w'= .ok v w'/\∃d G' l,Ending.returned v= .returned d/\AValRel G' l b.2.2 b.1 d/\HRel w0 F G' l b.2.1 b.2.2 w'/\GExt w0.heap.size F G0 G'/\∀x v,o x v->AValRel G' l b.2.2 x v:=λx j u=>by
  injection u with u;subst u;obtain⟨d,U,V,S⟩:=Ha z r _ _ j;obtain⟨v,rfl⟩:∃v,d= [v]:=by
   match d,V with
   | [v],_=>exact⟨v,rfl⟩
  refine⟨r.defers,v,?_,v,C,W,rfl,S 0 x v rfl rfl,r.h,r.gx,r.ex⟩;show(do let m←f.results.mapM (vN a.tmps);pure (if h:m.size=1 then m[0]else .tuple m):Sem Value).run P w'=_;have R:(f.results.mapM (vN a.tmps)).run P w'= .ok [v].toArray w':=by
   rw[ZW,Sem.run_map,U];rfl
  rw[Sem.run_bind,R];rfl
 cases e with
 |exit s=>cases g
 |normal|ret=>all_goals
  simp only[qf]at g;split at g
  .rename_i x j;exact H x j g
  .cases g
section
open Go.ChangeShapes Go.WideShapes Go.ChangeAt Go.RowKit
def pA:(t:Ty)->t.den->Prop
 | .int k,n=>(Lit.int k n).wf=true
 | .bool,_=>True
 | .str,s=>Xa s<=maxLen
 | .slice e,l=>Xa l<=maxLen/\∀x,List.Mem x l->pA e x
 | .own _,_=>False
 | .prod a b,d=>pA a d.1/\pA b d.2
def jw:(t:Ty)->t.den->Nat
 | .int _,_=>1
 | .bool,_=>1
 | .str,s=>Xa s+1
 | .slice e,l=>(List.map (jw e) l).sum+1
 | .own _,_=>0
 | .prod a b,d=>jw a d.1+jw b d.2
structure Bulk{H:Type}(β:DataW H->Nat):Prop where
 lit:∀l,1<=β (.lit l)
 str:∀s,s.length+1<=β (.lit (.string s))
 nil:1<=β .nil
 slice:∀es sp,(es.map β).sum+1<=β (.slice es sp)
 agg:∀ps,(ps.map β).sum<=β (.agg ps)
def Au(T:Tab):List (Nat×TypeId)->Nat->Option (List Ty)
 | [],_=>some []
 |(o,ft)::fs,off=>match Wt T ft with
  |some te=>bif aZ o off&&te.plain then(Au T fs (off+te.ty.size)).map (te.ty:: ·)else none
  |none=>none
def lM:List Ty->Ty
 | []=>.bool
 | [t]=>t
 |t::ts=>.prod t (lM ts)
def wi(T:Tab):Nat->TypeId->Bool
 |0,_=>false
 |n+1,t=>match Wt T t with
  |some te=>match te.shape with
   | .basic=>match te.ty with
    | .int _=>true
    | .bool=>true
    | .str=>true
    | .slice _=>false
    | .own _=>false
    | .prod _ _=>false
   | .slice e=>wi T n e&&(match Wt T e with|some fJ=>fJ.plain|none=>false)
   | .struct fs=>fs.all (λf=>wi T n f.2)&&(match Au T fs 0 with
    |some (t::ts)=>decide (te.ty=lM (t::ts))
    |_=>false)
   | .ptr _=>false
   | .arr _ _=>false
  |none=>false
section
variable{P:Program}{T:Tab}{H:Type}{enc:TypeId×Value->H}{β:DataW H->Nat}{w:World}
theorem Mg{t}{te}(h:TEok P T t te):P.cellsOf t=te.size:=by
 obtain⟨i,z,a,b,_⟩:=h.info;unfold Program.cellsOf;rw[a];exact b
def vT(w:World):GH:=λb o=>w.cell? ⟨b,o,none⟩
theorem Ws9{b}{a}{n}{cs}(h:w.cells? b a n=some cs):cs.length=n/\∀(j) (v),cs[j]?=some v->w.cell? (a.add j)=some v:=by
 unfold World.cells? at h;split at h
 .refine⟨by simpa using mapM_some_length h,λj v c=>?_⟩;have d:j<n:=by
   have:=mapM_some_length h;have e:=(dJ.1 c).1;simp at this;omega
  have:=mapM_some_get h j j (by simp[d]);rw[this];exact c
 .cases h
theorem VU{e}{a:Addr}(n)(E:0<n):∀(k) (b) (c:Nat->Option (DataW H×List MemPlace)) (f:List Value->Option (DataW H×List MemPlace)),
  (∀cs y,f cs=some y->∃d:e.den,Enc (vT w) e d cs/\pA e d/\jw e d<=β y.1)->
  (∀i,b<=i->i<b+k->∃y cs,w.cells? 0 (a.add (i*n)) n=some cs/\f cs=some y/\c i=some y)->
  ∃(l:List e.den) (cs:List Value),l.length=k/\bO (Enc (vT w) e) l cs/\(∀x∈l,pA e x)/\(∀(j) (v),cs[j]?=some v->w.cell? (a.add (b*n+j))=some v)/\
   cs.length=k*n/\(l.map (jw e)).sum<=((cK k).map λi=>match c (b+i)with|some y=>β y.1|none=>0).sum
 |0,b,c,f,h,he=>⟨[],[],rfl,rfl,by simp,by simp,by simp,by simp⟩
 |k+1,b,c,f,h,he=>by
  obtain⟨y,o,z,A,B⟩:=he b (Xj _) (by omega);obtain⟨d,G,F,C⟩:=h _ _ A;obtain⟨l,cs,q,r,s,t,u,J⟩:=VU n E k (b+1) c f h (λi I K=>he i (by omega) (by omega));obtain⟨p,D⟩:=Ws9 z;refine⟨d::l,o++cs,by simp[q],⟨o,cs,rfl,G,r⟩,λx m=>?_,λj v g=>?_,?_,?_⟩
  .rcases Xq.1 m with rfl|m
   .exact F
   .exact s x m
  .rw[fh]at g;split at g
   .have:=D j v g;rw[Addr.add_add]at this;exact this
   .rename_i ab;have:=t _ v g;rw[p]at this ab;have e:(b+1)*n+(j-n)=b*n+j:=by rw[kR];omega
    rw[e]at this;exact this
  .rw[Xv,p,u,kR];omega
  .rw[List.range_succ_eq_map,bn,bn,EB,EB,EC];simp only[c9,B];have:((λi=>match c (b+i)with|some y=>β y.1|none=>0)∘Nat.succ)= λi=>match c (b+1+i)with|some y=>β y.1|none=>0:=by
    funext i;simp only[Function.comp,Nat.succ_eq_add_one];rw[show b+(i+1)=b+1+i by omega]
   rw[this];omega
theorem Wxu{a:DataW H×List MemPlace->Nat}(xs:List (DataW H×List MemPlace)):((cK xs.length).map λi=>match xs[0+i]? with|some y=>a y|none=>0).sum=(xs.map a).sum:=by
 congr 1;apply List.ext_getElem
 .simp
 .intro i h1 h2;simp at h1;simp[h1]
theorem Wow{t}{ts}(h:ts≠ []):lM (t::ts)= .prod t (lM ts):=by
 cases ts with
 |nil=>exact Wy rfl h
 |cons _ _=>rfl
theorem TV(z:au P T)(L:Bulk β)(f:TypeId->List Value->Option (DataW H×List MemPlace)){cs:List Value}:∀(fs) (off) (j) (h:List (DataW H×List MemPlace)),j≠ []->Au T fs off=some j->
  (∀b∈fs,∀c cs y,Wt T b.2=some c->f b.2 cs=some y->∃d:c.ty.den,Enc (vT w) c.ty d cs/\pA c.ty d/\jw c.ty d<=β y.1)->
  h.length=fs.length->(∀(i:Nat) (b),fs[i]?=some b->f b.2 ((cs.drop b.1).take (P.cellsOf b.2))=h[i]?)->cs.length=off+(lM j).size->
  ∃d:(lM j).den,Enc (vT w) (lM j) d (cs.drop off)/\pA (lM j) d/\jw (lM j) d<=(h.map λy=>β y.1).sum
 | [],off,j,h,r,e,_,_,_,_=>by injection e with e;exact Wy e.symm r
 |(o,ft)::fs,off,j,h,r,e,A,k,q,ck=>by
  cases h with
  |nil=>simp at k
  |cons y h=>
   simp only[Au]at e;split at e
   .rename_i c hl;obtain⟨m,e⟩:=W9 e;simp only[Xh]at m;have K:o=off:=by simpa using m.1
    obtain⟨n,a,rfl⟩:=Xz.1 e;have C:P.cellsOf ft=c.ty.size:=by rw[Mg (z _ _ hl),W4 m.2]
    have v:=q 0 (o,ft) rfl;simp only[OV,C,K]at v;obtain⟨s,l,u,E⟩:=A (o,ft) (Xl ..) c _ y hl v;cases gV:fs with
    |nil=>
     subst gV;simp only[Au]at a;injection a with a;subst a;have O:h= []:=by cases h with
      |nil=>rfl
      |cons _ _=>simp at k
     subst O;have N:(cs.drop off).take c.ty.size=cs.drop off:=wR (by rw[List.length_drop,ck];simp[lM]);rw[N]at l;exact⟨s,l,u,by rw[bn,eL,EB,List.sum_nil,c9];exact E⟩
    |cons g gs=>
     have B:n≠ []:=by
      rw[gV]at a;obtain⟨R,I⟩:=g;simp only[Au]at a;split at a
      .obtain⟨_,a⟩:=W9 a;obtain⟨x,_,rfl⟩:=Xz.1 a;simp
      .cases a
     have p:=Wow (t:=c.ty) B;obtain⟨D,F,G,Q⟩:=TV z L f (cs:=cs) fs (off+c.ty.size) n h B a (λb M=>A b (Xg _ M)) (by simpa using k)
      (λi b J=>by have:=q (i+1) b (by simpa using J);simpa using this) (by rw[ck,p,Ty.size];omega)
     rw[p];refine⟨(s,D),⟨_,_,?_,l,F⟩,⟨u,G⟩,?_⟩
     .rw[←List.drop_drop];exact(List.take_append_drop _ _).symm
     .simp only[jw,bn,EB];omega
   .cases e
theorem MT(E:au P T)(f:Bulk β):∀(n o) (t) (g) (cs:List Value) (x:DataW H×List MemPlace),wi T n t=true->Wt T t=some g->
  DataW.trod enc P w 0 (λ_=>true) true o t cs=some x->∃d:g.ty.den,Enc (vT w) g.ty d cs/\pA g.ty d/\jw g.ty d<=β x.1
 |0,_,_,_,_,_,h,_,_=>by cases h
 |n+1,o,t,g,cs,x,h,Y,z=>by
  have G:=E _ _ Y;simp only[wi,Y]at h;obtain⟨ty,agg,shape⟩:=g;cases shape with
  |basic=>
   have u:=G.und.2;cases ty with
   |int k=>
    obtain⟨m,rfl,rfl,hw⟩:=DataW.trod_int u z;exact⟨m,rfl,hw,f.lit _⟩
   |bool=>
    obtain⟨b,rfl,rfl⟩:=DataW.trod_bool u z;exact⟨b,rfl,trivial,f.lit _⟩
   |str=>
    obtain⟨s,rfl,rfl,hs⟩:=DataW.trod_string u z;refine⟨s.data.toList,by simp[Enc],?_,f.str _⟩;show s.data.toList.length<=maxLen;rw[Array.length_toList];exact hs
   |slice e=>cases h
   |own e=>cases h
   |prod a b=>cases h
  |slice e=>
   simp only[Xh]at h;obtain⟨ha,u,p,L,K⟩:=G.und;simp only at K;subst K;have hp:p.plain=true:=by have:=h.2;rw[L]at this;exact this
   have M:P.cellsOf e=p.ty.size:=by rw[Mg (E _ _ L),W4 hp]
   rcases DataW.trod_slice u z with⟨rfl,rfl⟩|⟨a,B,D,c,F,m,rfl,rfl,rfl,hb,Cp,lH,x5,tV,gm,_⟩
   .exact⟨([]:List p.ty.den),⟨_,rfl,.inl ⟨rfl,rfl⟩⟩,⟨by simp,λx z=>by cases z⟩,by simpa [jw]using f.nil⟩
   .have A:=VU (w:=w) (β:=β) (e:=p.ty) (a:=a) p.ty.size (mE _) B 0 (λi=>c[i]?) (λcs=>DataW.trod enc P w 0 (λ_=>true) true m e cs)
     (λcs y R=>MT E f n m e p cs y h.1 L R) (λi _ C=>by
      rw[cb]at C;have:=tV i C;rw[M]at this;have V:i<c.length:=by omega
      rw[Xr V]at this;obtain⟨cs,J,r⟩:=jP.1 this;exact⟨c[i],cs,J,r,Xr V⟩)
    obtain⟨l,cs,q,O,Q,W,g5,g6⟩:=A;refine⟨l,⟨_,rfl,?_⟩,⟨by rw[q];omega,Q⟩,?_⟩
    .by_cases h0:B=0
     .subst h0;exact .inr (.inr ⟨a,D,rfl,ee q⟩)
     .have xr:0<cs.length:=by rw[g5];exact Nat.mul_pos (by omega) (mE _)
      have uy:=W 0 _ (Xr xr);have uz:a.spot=none:=by
       rw[EW,c9]at uy;have:=World.cell?_spot uy;simpa [Addr.add]using this
      obtain⟨b,S,Z⟩:=a;subst uz;refine .inr (.inl ⟨b,S,D,cs,by rw[q],by rw[q];exact Cp,lH,O,λj v hj=>?_⟩);have:=W j v hj;rw[EW,cb,hZ]at this;exact this
    .have J:=f.slice (c.map (·.1)) (F.map (·.1));have r:((cK B).map λi=>match c[0+i]? with|some y=>β y.1|none=>0).sum=(c.map λy=>β y.1).sum:=by
      rw[←x5];exact Wxu c
     rw[r]at g6;rw[EC]at J;simp only[jw];have h3:(List.map (β∘λx=>x.1) c)=c.map λy=>β y.1:=rfl;rw[h3]at J;show(List.map (jw p.ty) l).sum+1<=_;omega
  |struct fs=>
   simp only[Xh]at h;obtain⟨ha,I,u,X,A2,_⟩:=G.und;have r:=h.2;split at r
   .rename_i U ts Cq;have K:ty=lM (U::ts):=WV r;subst K;obtain⟨xs,m,rfl,rfl,dw,ke,oT⟩:=DataW.trod_struct u z;have M:P.cellsOf t=(lM (U::ts)).size:=by rw[Mg G];rfl
    have A:=TV (w:=w) (P:=P) E f (λt cs=>DataW.trod enc P w 0 (λ_=>true) true m t cs) (cs:=cs) fs 0 (U::ts) xs (by simp) Cq
     (λN kW g cs y wQ R=>MT E f n m N.2 g cs y (bH.1 h.1 N kW) wQ R) (by rw[ke,←X];simp)
     (λi N C=>by
      rw[←X]at C;rw[d5]at C;obtain⟨fl,jM,he⟩:=Xz.1 C;subst he;exact oT i fl (by simpa using jM)) (by rw[dw,M,cb])
    obtain⟨d,q,O,Q⟩:=A;rw[oe]at q;refine⟨d,q,O,eO Q ?_⟩;have:=f.agg (xs.map (·.1));rw[EC]at this;exact this
   .cases r
  |ptr e=>cases h
  |arr m e=>cases h
theorem Dr{G}{w}:∀(t) (d) (vs),Enc G t d vs->WD G w t d vs []
 | .int _,_,_,h=>⟨rfl,h⟩
 | .bool,_,_,h=>⟨rfl,h⟩
 | .str,_,_,h=>⟨rfl,h⟩
 | .slice _,_,_,h=>⟨rfl,h⟩
 | .own _,_,_,h=>h.elim
 | .prod a b,d,vs,⟨c,e,i,f,g⟩=>⟨c,e,[],[],i,rfl,Dr a _ _ f,Dr b _ _ g⟩
def HK:(a:List PTy)->dA a->Prop
 | [],_=>True
 | .v t _::a,d=>pA t d.1/\HK a d.2
 | .box _::_,_=>False
 | .mut _::_,_=>False
 | .clos _ _::_,_=>False
 | .kv _ _::_,_=>False
 | .rp _::_,_=>False
 | .vj _::_,_=>False
 | .boxal _ _::_,_=>False
def Dy:(a:List PTy)->dA a->Nat
 | [],_=>0
 | .v t _::a,d=>jw t d.1+Dy a d.2
 | .box _::_,_=>0
 | .mut _::_,_=>0
 | .clos _ _::_,_=>0
 | .kv _ _::_,_=>0
 | .rp _::_,_=>0
 | .vj _::_,_=>0
 | .boxal _ _::_,_=>0
def AN(P:Program)(T:Tab):List TypeId->List PTy->Bool
 | [],[]=>true
 |t::ts,p::ps=>(match p with
  | .v ty agg=>(match Wt T t with|some te=>decide (te.ty=ty)&&(te.agg==agg)|none=>false)&&wi T 20 t&&P.readableRec t&&Nat.blt t P.types.size&&AN P T ts ps
  | .box _=>false
  | .mut _=>false
  | .clos _ _=>false
  | .kv _ _=>false
  | .rp _=>false
  | .vj _=>false
  | .boxal _ _=>false)
 |_,_=>false
theorem Uf(E:au P T)(L:Bulk β):∀(i:List TypeId) (g:List PTy) (vs:List Value) (C:List (DataW H)) (F:List MemPlace),AN P T i g=true->DataW.TrodAll enc P w 0 (λ_=>true) true i vs C F->
  (∀(j:Nat) (t) (v),i[j]?=some t->vs[j]?=some v->∃o,Value.okWide P w .any o t v)->
  ∃d:dA g,gN (vT w) w g d vs [] []/\HK g d/\Dy g d<=(C.map β).sum
 | [],[],vs,C,F,_,h,_=>by
  obtain⟨rfl,rfl,_⟩:=trodAll_nil h;exact⟨(),⟨rfl,rfl,rfl⟩,trivial,by simp[Dy]⟩
 | [],_::_,_,_,_,h,_,_=>by cases h
 |_::_,[],_,_,_,h,_,_=>by cases h
 |t::i,.box _::g,_,_,_,h,_,_=>by cases h
 |t::i,.mut _::g,_,_,_,h,_,_=>by cases h
 |t::i,.clos _ _::g,_,_,_,h,_,_=>by cases h
 |t::i,.kv _ _::g,_,_,_,h,_,_=>by cases h
 |t::i,.rp _::g,_,_,_,h,_,_=>by cases h
 |t::i,.vj _::g,_,_,_,h,_,_=>by cases h
 |t::i,.boxal _ _::g,_,_,_,h,_,_=>by cases h
 |t::i,.v ty agg::g,vs,C,F,K,h,jF=>by
  obtain⟨v,J,d,uA,p,q,rfl,rfl,rfl,U,X⟩:=trodAll_cons h;simp only[AN,Xh]at K;obtain⟨⟨⟨⟨z,A⟩,h3⟩,h4⟩,V⟩:=K;split at z
  .rename_i te hl;simp only[Xh]at z;have O:te.ty=ty:=WV z.1;have Q:te.agg=agg:=eq_of_beq z.2;subst O Q;obtain⟨y,Z⟩:=U;obtain⟨x,B,I,G⟩:=MT E L 20 y t te _ (d,p) A hl Z;obtain⟨o,s⟩:=jF 0 t v rfl rfl;obtain⟨N,R,S,g3⟩:=Uf E L i g J uA q V X (λj t v W Y=>jF (j+1) t v (by simpa using W) (by simpa using Y));refine⟨(x,N),⟨v,J,[],[],rfl,rfl,?_,R⟩,⟨I,S⟩,?_⟩
   .have f:=(E _ _ hl).und;unfold ez;obtain⟨ty,ag,shape⟩:=te;simp only at B I G⊢;have gt:∀u:Value,u.cells= #[u]->u=v->v.cells.toList= [v]:=λu h e=>by rw[←e,h]
    cases shape with
    |basic=>
     obtain⟨r,f⟩:=f;simp only at r;subst r;simp only[dL,dO];have:v.cells.toList= [v]:=by
      cases ty with
      |int k=>obtain⟨n,rfl⟩:=okWide_int f s;rfl
      |bool=>obtain⟨n,rfl⟩:=okWide_bool f s;rfl
      |str=>obtain⟨n,rfl⟩:=okWide_string f s;rfl
      |slice e=>cases f
      |own e=>cases f
      |prod a b=>cases f
     rw[this]at B;exact Dr _ _ _ B
    |slice e=>
     obtain⟨r,f,_⟩:=f;simp only at r;subst r;simp only[dL,dO];obtain⟨a,l,c,rfl⟩:=okWide_slice f s;exact Dr _ _ _ B
    |struct fs=>
     obtain⟨r,D,f,_⟩:=f;simp only at r;subst r;simp only[W1];obtain⟨M,rfl,_⟩:=okWide_struct f s;exact⟨M.toList,by simp,Dr _ _ _ B⟩
    |ptr e=>simp only[wi,hl]at A;cases A
    |arr m e=>simp only[wi,hl]at A;cases A
   .have G:jw te.ty x<=β d:=G;simp only[Dy,bn,EB];omega
  .cases z
theorem Uk:∀(b:List TypeId) (vs:List Value) (a:List (DataW H)) (c:List MemPlace),DataW.TrodAll enc P w 0 (λ_=>true) true b vs a c->a.length=b.length
 | [],vs,a,c,h=>by obtain⟨_,rfl,_⟩:=trodAll_nil h;rfl
 |t::b,vs,a,c,h=>by
  obtain⟨v,e,d,g,p,q,rfl,rfl,rfl,i,f⟩:=trodAll_cons h;simp[Uk b e g q f]
theorem Ud(l:laidOutB P=true){W W'}(j:Below W.heap.size W W'){m:Nat->Bool}:∀(a:List TypeId) (b:List PTy) (vs:List Value) (f:List (DataW H)) (e:List MemPlace),AN P T a b=true->
  DataW.TrodAll enc P W 0 (λ_=>true) true a vs f e->(∀p∈e,p.block<W.heap.size)->(∀p∈e,m p.block=true)->DataW.TrodAll enc P W' 0 m true a vs f e
 | [],b,vs,f,e,_,h,_,_=>by
  obtain⟨rfl,rfl,rfl⟩:=trodAll_nil h;exact trodAll_mk0
 |t::a,[],_,_,_,h,_,_,_=>by cases h
 |t::a,.box _::b,_,_,_,h,_,_,_=>by cases h
 |t::a,.mut _::b,_,_,_,h,_,_,_=>by cases h
 |t::a,.clos _ _::b,_,_,_,h,_,_,_=>by cases h
 |t::a,.kv _ _::b,_,_,_,h,_,_,_=>by cases h
 |t::a,.rp _::b,_,_,_,h,_,_,_=>by cases h
 |t::a,.vj _::b,_,_,_,h,_,_,_=>by cases h
 |t::a,.boxal _ _::b,_,_,_,h,_,_,_=>by cases h
 |t::a,.v ty agg::b,vs,f,e,k,h,g,gm=>by
  obtain⟨v,n,d,y,p,q,rfl,rfl,rfl,r,w⟩:=trodAll_cons h;simp only[AN,Xh]at k;obtain⟨⟨⟨⟨z,A⟩,s⟩,i⟩,u⟩:=k;have o:t<P.types.size:=by rw[Pf]at i;exact i
  exact⟨p,q,WideElems.Trod_stays l s o r (λx c=>j.same (g x (Xm _ c))) (λx c=>gm x (Xm _ c)),
   Ud l j a b n y q u w (λx c=>g x (Xi _ c)) (λx c=>gm x (Xi _ c)),rfl⟩
theorem Wu3{f:Func}{s:ChangeSpec}{nb fresh handsOn again}{W W'}{c:Array Value}{v:Value}{g h:List (DataW H)}{before pa pv:List MemPlace}
  (k:DataW.Whole enc P f.params.toList s.vars nb W c.toList g h before)
  (o:∀(b) (e:Nat->Bool) (hd),DataW.TrodAll enc P W' b e hd f.resultTypes.toList (v.resultList f.resultTypes.size) (s.fn H (g++h)).results [])
  (l:∀e:Nat->Bool,(∀p∈before,e p.block=true)->DataW.TrodAll enc P W' 0 e true f.params.toList c.toList (s.fn H (g++h)).args pa)
  (q:∀e:Nat->Bool,(∀p∈before,e p.block=true)->DataW.TrodVars enc P W' e s.vars (s.fn H (g++h)).vars pv)
  (i:before=pa++pv) (w:W.keptBut W' (· ∈before)) (z:∀a,a.block<W.heap.size->W'.frozen? a=W.frozen? a)
  (u:∀(j:Nat) (t) (r),f.resultTypes[j]?=some t->(v.resultList f.resultTypes.size)[j]?=some r->Value.okWide P W' .any 0 t r):
  s.post enc P f nb fresh handsOn again W c v W':=by
 have n:∀p∈before,(λb=>decide (b<W.heap.size)) p.block=true:=λp d=>by simpa using k.lt p d
 refine⟨g,h,before,[],pa,pv,k,o _ _ _,l _ n,q _ n,World.keptBut_mono (λp d=>⟨d,?_⟩) w,λ_=>?_⟩
 .rw[i,Xo]at d;exact Or.inr d
 .have ab:=k.lt;obtain⟨_,_,_,_,_,y,x⟩:=k;refine⟨u,_,_,([]++pa)++pv,⟨[]++pa,pv,trodAll_append (l _ (λ_ _=>rfl)) (o _ _ _),q _ (λ_ _=>rfl),rfl,?_,?_⟩,?_⟩
  .intro b off d;have m:MemPlace.cell b off∈before:=by rw[i];simpa using d
   rw[z ⟨b,off,none⟩ (ab _ m)];exact y b off m
  .intro ha;have:=x ha;rw[i]at this;simpa using this
  .intro p d _;rw[i];simpa using d
theorem law_row(Z:au P T)(lq:laidOutB P=true){f}{k}{s:ChangeSpec}(D:s.vars= [])(hs:∀c:List (DataW H),c.length=f.params.toList.length->s.fn H c={results:=[.lit (.bool true)],args:=c})
  {ps} (C:AN P T f.params.toList ps=true) {tb} (I:f.resultTypes= #[tb]) (A:P.underlying tb=some .bool) {run:Nat->dA ps->Option (dI ps×ec [.v .bool false])}
  (Q:∀N,AP P k (Sig.of ps [.v .bool false] (run N))) (hβ:Bulk β) {ok:List (DataW H)->Prop} {M:Nat->Prop} (uD:∀c m,ok c->m<=(c.map β).sum->M m)
  (x7:∀d:dA ps,HK ps d->M (Dy ps d)->∃N o,run N d=some (o,(true,()))) {nb fresh handsOn again}
  (W) (g) (args) (c gs) (before)
  (jF:∀(j:Nat) t v,f.params[j]?=some t->args[j]?=some v->Value.okWide P W .any g t v)
  (u:DataW.Whole enc P f.params.toList s.vars nb W args.toList c gs before) (hk:ok c):
  Calls P k args W λe W'=>∃v,e= .returned v/\s.post enc P f nb fresh handsOn again W args v W':=by
 have x:=u;have L:=u.lt;obtain⟨p,q,r,E,B,uC,bt⟩:=u;rw[D]at E;obtain⟨J,y⟩:=trodVars_none E;subst J y;rw[iN]at B;subst B;obtain⟨d,V,X,Y⟩:=Uf (w:=W) Z hβ f.params.toList ps args.toList c before C r (λj t v hj l=>⟨g,jF j t v (by simpa using hj) (by simpa using l)⟩);obtain⟨N,o,ho⟩:=x7 d X (uD c _ hk Y);have F:=Q N d (o,(true,())) ho (vT W) W args.toList [] [] V List.Pairwise.nil (by simp) (λb o v l=>l);have K:args.toList.toArray=args:=by simp
 rw[K]at F;refine F.mono λe W' ⟨rv,kf,ms,dS,G',G,h⟩=>?_;have i:Below W.heap.size W W':=⟨h.le.os,h.le.tape,h.le.output,h.le.size,λb i=>h.le.whole b i (λo ⟨q,y,_⟩=>by simp at y)⟩;obtain⟨v,ay,n1,n2,R,e2,n,S⟩:=h.res;obtain⟨U,_⟩:=S;subst U;have l:v= .bool true:=by
  unfold ez at n;simp only[dL,dO]at n;have:=n.2;simpa [Enc]using this
 subst l;have oX:vU rv= .bool true:=by rw[R];rfl
 rw[oX]at G;refine⟨.bool true,G,?_⟩;have O:=Uk _ _ _ _ r;have z:=hs (c++ []) (by rw[iN];exact O);refine Wu3 (pa:=before) (pv:=[]) x ?_ ?_ ?_ (by simp) (i.frame _) (λa h=>i.frozen h) (ok_one I rfl (okWide_bool_mk A _))
 .intro b sp hd;rw[z,I];exact trodAll_cons_mk (shut_bool A _) trodAll_mk0
 .intro sp gm;rw[z,iN];exact Ud lq i _ _ _ _ _ C r L gm
 .intro sp gm;rw[z,D];rfl
end
end

def qc{α:Type}(r:α->α->Bool):List α->Bool
 | []=>true
 |x::l=>l.all (r x)&&qc r l
def mZ{α:Type}(cf:α->α->Int)(x y:α):Bool:=decide (cf x y<0)
def nb{α:Type}(cf:α->α->Int)(x y:α):Bool:=mZ cf x y||mZ cf y x
def lz{α:Type}(cf:α->α->Int)(xs:List α):List α:=xs.mergeSort λx y=>!mZ cf y x
def zy{α:Type}(rng:α->Bool)(cf:α->α->Int)(N:Nat)(xs:List α):Option ((List α×Unit)×Unit):=
 bif xs.all rng&&(qc (nb cf) xs&&decide (xs.length<4611686018427387904))then some ((lz cf xs,()),())else none
structure SwoOn{α:Type}(rng:α->Bool)(cf:α->α->Int):Prop where
 irr:∀x,rng x=true->¬cf x x<0
 tr:∀x y z,rng x=true->rng y=true->rng z=true->cf x y<0->cf y z<0->cf x z<0
 nt:∀x y z,rng x=true->rng y=true->rng z=true->¬cf x y<0->¬cf y z<0->¬cf x z<0
theorem WoZ{α}{rng}{cf}{N}{xs}{o:(List α×Unit)×Unit}(h:zy rng cf N xs=some o):
  (∀x∈xs,rng x=true)/\qc (nb cf) xs=true/\xs.length<4611686018427387904/\o=((lz cf xs,()),()):=by
 unfold zy at h;cases hb:xs.all rng&&(qc (nb cf) xs&&decide (xs.length<4611686018427387904))
 .rw[hb]at h;cases h
 .rw[hb]at h;simp only[Wa]at h;injection h with h;simp only[Xh,Wh]at hb;exact⟨bH.1 hb.1,hb.2.1,hb.2.2,h.symm⟩
theorem UW{α}{r}:∀{l:List α},qc r l=true->∀(i j) (hi) (a:j<l.length),i<j->r l[i] l[j]=true
 | [],_,i,_,hi,_,_=>by simp at hi
 |x::l,h,0,j+1,hi,a,tn=>by
  simp only[qc,Xh]at h;exact bH.1 h.1 _ (List.getElem_mem _)
 |x::l,h,i+1,j+1,hi,a,tn=>by
  simp only[qc,Xh]at h;simpa using UW h.2 i j (by simpa using hi) (by simpa using a) (by omega)
def su(k:Int):Bool:=decide (-1000000000<=k)&&decide (k<=1000000000)
def Ek(a:Int×Int×Int):Bool:=su a.1
def cfE(a b:Int×Int×Int):Int:=a.1-b.1
def wo(a:Int×Int×Int):Bool:=su a.1&&su a.2.1
def cfH(a b:Int×Int×Int):Int:=bif a.2.1==b.2.1 then a.1-b.1 else a.2.1-b.2.1
theorem Aa{k}(h:su k=true):-1000000000<=k/\k<=1000000000:=by unfold su at h;simpa using h
theorem WzA:SwoOn Ek cfE:=⟨λx _=>by unfold cfE;omega,λx y z _ _ _=>by unfold cfE;omega,λx y z _ _ _=>by unfold cfE;omega⟩
theorem gY{a b}:cfH a b<0↔(a.2.1<b.2.1\/(a.2.1=b.2.1/\a.1<b.1)):=by
 unfold cfH;by_cases h:a.2.1=b.2.1
 .have:(a.2.1==b.2.1)=true:=by simpa using h
  rw[this];simp only[Wa];omega
 .have:(a.2.1==b.2.1)=false:=by simpa using h
  rw[this];simp only[Wb];omega
theorem WyH{a b}(h:(a.2.1 !=b.2.1)=false):a.1-b.1=cfH a b:=by
 have h:a.2.1=b.2.1:=bne_eq_false_iff_eq.1 h;unfold cfH;rw[beq_iff_eq.2 h];rfl
theorem WyP{a b}(h:(a.2.1 !=b.2.1)=true):a.2.1-b.2.1=cfH a b:=by
 have h:a.2.1≠b.2.1:=bne_iff_ne.1 h;unfold cfH;rw[beq_eq_false_iff_ne.2 h];rfl
theorem WzC:SwoOn wo cfH:=⟨λx _=>by rw[gY];omega,λx y z _ _ _=>by rw[gY,gY,gY];omega,λx y z _ _ _=>by rw[gY,gY,gY];omega⟩
end Go.Sx
