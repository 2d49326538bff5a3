/- The abstract machine, part 3: a reflective interpreter of the program's code over data, with its soundness over the model. -/
import Derived.Test.YtokgfiajefpfoaaGreatEng2
open List renaming mem_cons→Xs,mem_cons_of_mem→Xf,mem_cons_self→Xg,length_append→Xx,getD_eq_getElem?_getD→Xq,getElem?_append→hG,getElem?_cons_zero→N6,getElem?_eq_none→ju,all_eq_true→cq,append_of_mem→Im,mem_append→Xn,range→c7,mem_filter→dA,mem_range→Ik,filter_cons→gy,mem_map→Xz,eq_nil_of_length_eq_zero→Xv,eq_nil_iff_forall_not_mem→V6,nodup_nil→qE,mem_of_getElem?→kC,nodup_cons→cC,nil_append→mx,cons_append→fG,length_filter_le→E7,length_range→Oe,mem_append_left→Xm,mem_append_right→Xh,mem_flatMap→Oi,map_cons→bK,map_map→Ff,map_id→XY,map_congr_left→xS,append_nil→xV,nodup_append→d9,filter_append→BU,prefix_append→XT,map_append→Xw,map_nil→cV,mem_erase_of_ne→XP,length_erase_of_mem→VV,length_pos_of_mem→XL,length_cons→Xu,getElem?_cons_succ→VW,getElem?_eq_some_iff→fe,getElem?_append_right→xQ,getElem?_tail→qD,mapM_cons→Fi,pairwise_singleton→tN,mem_singleton→bH,take_of_length_le→mc,getElem?_eq_getElem→Xp,drop_zero→qC,tail_cons→Fg,getElem?_map→ff,length→Xb,map→xX,sum_cons→Fc
open Nat renaming sub_self→qF,blt_eq→On,le_refl→Xl,zero_add→dj,zero_le→iw,sub_zero→mA,beq→eb,le_trans→jR,add_zero→eL,add_sub_cancel_left→tO,le_of_ble_eq_true→XN,add_mul→lC,zero_mul→Fh
open Option renaming getD_some→V0,bind_some→Xd,bind_eq_some_iff→t8,map_eq_some_iff→dw
open Bool renaming and_eq_true→Xj,not_eq_true'→fg,false_eq_true→jP,or_eq_true→xU
open Array renaming getD_eq_getD_getElem?→E4,getElem?_setIfInBounds→V9,getElem?_eq_getElem→Ij,getElem?_eq_some_iff→xR,replicate→Fe
namespace Go.Sx
set_option linter.unusedVariables false
set_option linter.unusedSimpArgs false
theorem Tm{x y:Nat}{l:List Nat}:y∈H8 x l↔y=x\/y∈l:=by
 unfold H8;cases h:ew x l with
 |true=>
  have:=(kL x l).1 h;simp only[We];exact⟨.inr,λh=>h.elim (λe=>e▸this) id⟩
 |false=>simp
theorem Qn{y:Nat}:∀(m l:List Nat),y∈EE m l↔y∈m\/y∈l
 | [],l=>by simp[EE]
 |x::m,l=>by
  rw[EE,Qn m,Tm,Xs];constructor
  .rintro(h|h|h)
   .exact .inl (.inr h)
   .exact .inl (.inl h)
   .exact .inr h
  .rintro((h|h)|h)
   .exact .inr (.inl h)
   .exact .inl h
   .exact .inr (.inr h)
theorem Me{a:List (List Nat)}{y:Nat}:∀(c l:List Nat),y∈qo a c l↔(∃j∈c,y=j\/y∈a.getD j [])\/y∈l
 | [],l=>by simp[qo]
 |j::c,l=>by
  rw[qo,Me c,Qn,Tm];constructor
  .rintro(⟨k,b,h⟩|h|h|h)
   .exact .inl ⟨k,Xf _ b,h⟩
   .exact .inl ⟨j,Xg ..,.inr h⟩
   .exact .inl ⟨j,Xg ..,.inl h⟩
   .exact .inr h
  .rintro(⟨k,b,h⟩|h)
   .rcases Xs.1 b with rfl|b
    .exact .inr (h.elim (λh=>.inr (.inl h)) .inl)
    .exact .inl ⟨k,b,h⟩
   .exact .inr (.inr (.inr h))
def EH(ops:Array Oper)(S:Nat->Prop):Prop:=∀i o,ops[i]?=some o->S i->∀d∈iu o,S d
theorem Qa{ops:Array Oper}{S:Nat->Prop}(f:EH ops S):∀(l:List Oper) (a:List (List Nat)),(∀(k:Nat) (o:Oper),l[k]?=some o->ops[a.length+k]?=some o)->
  (∀i,S i->∀j∈a.getD i [],S j)->∀i,S i->∀j∈(ik l a).getD i [],S j
 | [],a,_,h=>h
 |o::l,a,m,h=>by
  refine Qa f l _ (λk p d=>?_) (λi g j b=>?_)
  .have:=m (k+1) p (by simpa using d);rw[Xx];have e:a.length+(k+1)=a.length+ [qo a (iu o) []].length+k:=by simp;omega
   rw[←e];exact this
  .rw[Xq,hG]at b;split at b
   .exact h i g j (by rw[Xq];exact b)
   .rename_i ab;by_cases n:i=a.length
    .subst n;simp only[qF,N6,V0]at b;rcases(Me _ _).1 b with⟨k,d,c⟩|b
     .have hSk:=f _ o (m 0 o (by simp)) g k d;rcases c with rfl|c
      .exact hSk
      .exact h k hSk j c
     .cases b
    .have:[qo a (iu o) []][i-a.length]?=none:=ju (by simp;omega);rw[this]at b;cases b
theorem WrD{ops:Array Oper}{S:Nat->Prop}(a:EH ops S){i j:Nat}(h:fm (ik ops.toList []) j i=true)(hi:S i):S j:=
 Qa a ops.toList [] (λk o c=>by simpa using c) (λi _ j b=>by simp at b) i hi j ((kL _ _).1 h)
theorem QE{ops:Array Oper}:∀(l:List Oper) (n:Nat),H7 l n=true->∀(k:Nat) (o:Oper),l[k]?=some o->∀d∈iu o,d<n+k
 | [],_,_,k,o,hk=>by simp at hk
 |o'::l,n,h,k,o,hk=>by
  simp only[H7,Xj,cq]at h;cases k with
  |zero=>
   simp at hk;subst hk;intro e a;have:=h.1 e a;rw[On]at this;omega
  |succ k=>
   have:=QE (ops:=ops) l (n+1) h.2 k o (by simpa using hk);intro e a;have:=this e a;omega
structure Order(ops:Array Oper)(l:List Nat):Prop where
 nodup:l.Nodup
 all:∀i,i<ops.size↔i∈l
 dep:∀p i s,l=p++i::s->∀o,ops[i]?=some o->∀d∈iu o,d∈p
theorem Order.closed{ops:Array Oper}{l:List Nat}(h:Order ops l){p s:List Nat}(e:l=p++s):EH ops (· ∈p):=λi o g f d c=>by
 obtain⟨a,b,rfl⟩:=Im f;have:=h.dep a i (b++s) (by rw[e];simp) o g d c;simp[this]
theorem Order.bef{ops:Array Oper}{l:List Nat}(h:Order ops l){p s:List Nat}{i j:Nat}(e:l=p++s)(a:fm (ik ops.toList []) j i=true)(hi:i∈p):j∈p:=
 WrD (h.closed e) a hi
theorem Order.bef'{ops:Array Oper}{l:List Nat}(h:Order ops l){p s:List Nat}{i j:Nat}(e:l=p++i::s)(b:fm (ik ops.toList []) j i=true)(a:j≠i):j∈p:=by
 have:=h.bef (p:=p++ [i]) (s:=s) (by rw[e];simp) b (by simp);rcases Xn.1 this with h|h
 .exact h
 .simp at h;exact Wi h a
def unl(ops:Array Oper)(a:Array Bool):List Nat:=(c7 ops.size).filter λi=>!a.getD i true
theorem wY{ops:Array Oper}{a:Array Bool}{i:Nat}:i∈unl ops a↔i<ops.size/\a.getD i true=false:=by
 unfold unl;rw[dA,Ik];simp
theorem O6{α:Type}{p q:α->Bool}:∀(l:List α),(∀x∈l,q x=true->p x=true)->(∃x∈l,p x=true/\q x=false)->(l.filter q).length<(l.filter p).length
 | [],_,⟨x,a,_⟩=>by cases a
 |x::l,h,⟨y,b,c,d⟩=>by
  have e:∀(l:List α),(∀x∈l,q x=true->p x=true)->(l.filter q).length<=(l.filter p).length:=by
   intro l
   induction l with
   |nil=>intro _;simp
   |cons x l ih=>
    intro h;have:=ih λx a=>h x (Xf _ a);have a:=h x (Xg ..);rw[gy,gy];cases hqx:q x with
    |true=>rw[a hqx];simpa using this
    |false=>cases p x<;>simp<;>omega
  rw[gy,gy];rcases Xs.1 b with rfl|b
  .rw[c,d];have:=e l λx a=>h x (Xf _ a);simp;omega
  .have:=O6 l (λx a=>h x (Xf _ a)) ⟨y,b,c,d⟩;have a:=h x (Xg ..);cases hqx:q x with
   |true=>rw[a hqx];simpa using this
   |false=>cases p x<;>simp<;>omega
theorem MC{a:Array Bool}{i j:Nat}:(a.setIfInBounds i true).getD j true=(if i=j then true else a.getD j true):=by
 simp only[E4,V9];split
 .split<;>rfl
 .rfl
theorem WsT{a:Array Bool}{i j:Nat}(hi:i<a.size):(a.setIfInBounds i true).getD j false=(if i=j then true else a.getD j false):=by
 simp only[E4,V9];split
 .simp[hi]
 .rfl
theorem WxY{a:Array Bool}{i:Nat}(hi:i<a.size):a.getD i true=a.getD i false:=by
 simp[hi]
theorem SQ{o:Oper}{e:Edge}(b:e∈o.after)(a:Region.binds .any e=true):e.on∈iu o:=
 Xz.2 ⟨e,dA.2 ⟨by simpa using b,a⟩,rfl⟩
theorem SS{ops:Array Oper}(v:∀(k:Nat) (o:Oper),ops[k]?=some o->∀d∈iu o,d<k):∀(fuel t:Nat) (listed:Array Bool),listed.size=ops.size->(unl ops listed).length<=fuel->
  (Region.linearise.go .any ops fuel t listed []).Nodup/\
  (∀i,i∈Region.linearise.go .any ops fuel t listed []↔i∈unl ops listed)/\
  (∀p i s,Region.linearise.go .any ops fuel t listed []=p++i::s->∀o,ops[i]?=some o->∀e∈o.after,Region.binds .any e=true->listed.getD e.on false=true\/e.on∈p)
 |0,t,listed,G,aa=>by
  have:unl ops listed= []:=Xv (by omega);simp only[Region.linearise.go,List.reverse_nil,this];exact⟨by simp,by simp,λp i s h=>by simp at h⟩
 |fuel+1,t,listed,G,aa=>by
  have R:Region.linearise.go .any ops (fuel+1) t listed []=match(Region.ready .any ops listed)[t%(Region.ready .any ops listed).length]? with
   |some i=>Region.linearise.go .any ops fuel (t/(Region.ready .any ops listed).length) (listed.setIfInBounds i true) [i]
   |none=>[]:=rfl
  rw[R];cases hi:(Region.ready .any ops listed)[t%(Region.ready .any ops listed).length]? with
  |none=>
   have B:Region.ready .any ops listed= []:=by
    cases hr:Region.ready .any ops listed with
    |nil=>rfl
    |cons x xs=>
     rw[hr]at hi;have A:t%(x::xs).length<(x::xs).length:=Nat.mod_lt _ (by simp);simp at hi;simp at A;omega
   have P:unl ops listed= []:=by
    have w:∀n i,i<=n->i∉unl ops listed:=by
     intro n
     induction n with
     |zero=>
      intro i M f;obtain⟨a,r⟩:=wY.1 f;have:i∈Region.ready .any ops listed:=by
       rw[mem_ready];refine⟨r,ops[i],Ij a,λe b c=>?_⟩;have:=v i _ (Ij a) e.on (SQ b c);omega
      rw[B]at this;cases this
     |succ n ih=>
      intro i M f;obtain⟨a,r⟩:=wY.1 f;have:i∈Region.ready .any ops listed:=by
       rw[mem_ready];refine⟨r,ops[i],Ij a,λe b c=>?_⟩;have A:=v i _ (Ij a) e.on (SQ b c);have L:=ih e.on (by omega);have u:e.on<ops.size:=by omega
       cases E:listed.getD e.on true with
       |false=>exact Wi (wY.2 ⟨u,E⟩) L
       |true=>rw[←WxY (by omega)];exact E
      rw[B]at this;cases this
    exact V6.2 λi=>w i i (Xl _)
   rw[P];exact⟨qE,λ_=>Iff.rfl,λp i s h=>by simp at h⟩
  |some i=>
   have J:=kC hi;obtain⟨a,o,F,u⟩:=mem_ready.1 J;have I:i<ops.size:=(xR.1 F).1;have K:i∈unl ops listed:=wY.2 ⟨I,a⟩;simp only[];rw[linearise_go_acc,List.reverse_singleton,List.singleton_append];have Q:(unl ops (listed.setIfInBounds i true)).length<=fuel:=by
    have:(unl ops (listed.setIfInBounds i true)).length<(unl ops listed).length:=by
     refine O6 _ (λx _ m=>?_) ⟨i,Ik.2 I,by simpa using a,by rw[MC];simp⟩;rw[MC]at m;split at m
     .simp at m
     .exact m
    omega
   obtain⟨N,D,O⟩:=SS v fuel (t/(Region.ready .any ops listed).length) (listed.setIfInBounds i true) (by simp[G]) Q;have z:∀j,j∈unl ops (listed.setIfInBounds i true)↔j∈unl ops listed/\j≠i:=λj=>by
    rw[wY,wY,MC];constructor
    .rintro⟨y,l⟩;split at l
     .cases l
     .rename_i q;exact⟨⟨y,l⟩,λe=>q e.symm⟩
    .rintro⟨⟨y,l⟩,q⟩;exact⟨y,by rw[Wa (λe=>q e.symm)];exact l⟩
   refine⟨cC.2 ⟨λf=>?_,N⟩,λj=>?_,λp j s e S g C H c=>?_⟩
   .exact((z i).1 ((D i).1 f)).2 rfl
   .rw[Xs,D,z];constructor
    .rintro(rfl|h)
     .exact K
     .exact h.1
    .intro h;by_cases b:j=i
     .exact .inl b
     .exact .inr ⟨h,b⟩
   .cases p with
    |nil=>
     simp only[mx,List.cons.injEq]at e;obtain⟨rfl,_⟩:=e;rw[F]at g;injection g with g;subst g;exact .inl (u C H c)
    |cons x p=>
     simp only[fG,List.cons.injEq]at e;obtain⟨rfl,e⟩:=e;rcases O p j s e S g C H c with h|h
     .rw[WsT (by omega)]at h;split at h
      .rename_i b;exact .inr (by rw[b];simp)
      .exact .inl h
     .exact .inr (Xf _ h)
theorem Wjy{ops:Array Oper}{t:Nat}(l:∀(k:Nat) (o:Oper),ops[k]?=some o->∀d∈iu o,d<k):Order ops (Region.linearise .any ops t):=by
 have n:∀i,i∈unl ops (Fe ops.size false)↔i<ops.size:=λi=>by
  rw[wY];constructor
  .exactλh=>h.1
  .exactλh=>⟨h,by simp[h]⟩
 obtain⟨f,g,j⟩:=SS l ops.size t (Fe ops.size false) (by simp) (by
  have:=E7 (λi=>!(Fe ops.size false).getD i true) (c7 ops.size);rw[Oe]at this;exact this)
 refine⟨f,λi=>by unfold Region.linearise;rw[g,n],λp i s e o m d b=>?_⟩;unfold iu at b;obtain⟨c,a,rfl⟩:=Xz.1 b;obtain⟨a,q⟩:=dA.1 a;rcases j p i s e o m c (by simpa using a) q with h|h
 .exfalso;rw[E4,Array.getElem?_replicate]at h;split at h<;>simp at h
 .exact h
theorem Wkt{ops:Array Oper}{t:Nat}(a:∀(k:Nat) (o:Oper),ops[k]?=some o->∀d∈iu o,d<k):Order ops (Region.schedule true ops t):=by
 unfold Region.schedule;rw[Wb (by simp)];exact Wjy a
def NC(n:Nat)(a:List Nat)(o:Oper):Bool:=match o.dst with
 |some d=>Nat.blt d n&& !ew d a
 |none=>true
def kZ(n:Nat)(d:List Nat):Code->Bool
 | .region _ ops _=>ops.toList.all (NC n d)
 | .seq a b=>kZ n d a&&kZ n d b
 | .cond _ x y=>kZ n d x&&kZ n d y
 | .block _ c=>kZ n d c
 | .loop c=>kZ n d c
 |_=>true
theorem Wpk{nt:Slots}{n:Nat}{a:List Nat}(g:nt.n=n)(f:∀p∈nt.kept,p.1∈a){o:Oper}(h:NC n a o=true):∀d,o.dst=some d->nt.Ok d:=λd c=>by
 unfold NC at h;rw[c]at h;simp only[Xj,fg]at h;refine⟨by have b:=h.1;rw[On]at b;rw[g];exact b,λp i e=>?_⟩;have:=f p i;rw[e]at this;rw[(kL d a).2 this]at h;exact Wi h.2 (by simp)
def Ex.to:Ex->Exit
 | .normal=>.normal
 | .exit id=>.exit id
 | .ret=>.ret
section
variable{w0:World}{F:CS}{nt:Slots}{G0:GH}{P:Program}{T:Tab}{Γ:Ctx}{A:List (Nat×An)}{R:Type}{r:R}
def na(w0:World)(F:CS)(nt:Slots)(G0:GH)(k:St->Option R)(r:R)(K:Act->World->Prop):Prop:=
 ∀st a w G ν,Rel w0 F nt G0 G ν st a w->k st=some r->K a w
theorem Wpn{G:GH}{ν:Nat->Nu}{st:St}{a:Act}{w:World}(e:Rel w0 F nt G0 G ν st a w){ops:Array Oper}{j:Nat}{t:Tmp}(f:(ops[j]?).bind (·.dst)=some t){b:Bool}(c:(Wt st.env t).bind asB=some b):
  a.tmps[t]?=some (.bool b)/\yielded ops a.tmps j=some b:=by
 cases hl:Wt st.env t with
 |none=>simp[hl]at c
 |some x=>
  simp only[hl,Xd]at c;obtain⟨v,d,g⟩:=e.env t x hl;have:=Np x v b g c;subst this;refine⟨d,?_⟩;unfold yielded;rw[f];simp[d]
theorem UJ(m:aO P T)(q:gi P Γ){ops:Array Oper}{o:Oper}(i:∀d,o.dst=some d->nt.Ok d){k:St->Option R}{K:Act->World->Prop}{Q:Exit->Act->World->Prop}(e:na w0 F nt G0 k r K)
  {st:St} {a:Act} {w:World} {G:GH} {ν:Nat->Nu} (g:Rel w0 F nt G0 G ν st a w) (h:rxg T Γ A ops o st k=some r):
  if Region.wanted o (yielded ops a.tmps)then o.wp P a w K Q else K (a.put o.dst undef) w:=by
 unfold rxg at h;have s:∀ai,Rel w0 F nt G0 G ν ai a w->Rel w0 F nt G0 G ν (ai.put o.dst (.tup [])) (a.put o.dst undef) w:=λai c=>
  c.put i ⟨[],rfl,rfl,λj x v D=>by simp at D⟩
 have z:∀b:Bool,AValRel G ν st.nx (one .bool b) (.bool b):=λb=>WV (t:=.bool) (d:=b) (v:=.bool b) rfl;split at h
 .rename_i hg;simp only[Region.wanted,hg,ep];exact NL m q g i h (λai u w' G' y c f=>e _ _ _ _ _ c f)
 .rename_i j want hg;split at h
  .rename_i t ht;split at h
   .rename_i hl;obtain⟨v,n,E⟩:=g.env t _ hl;have H:v=undef:=by
     obtain⟨I,B,C,_⟩:=E;rw[B,Xv C];rfl
    subst H;have p:yielded ops a.tmps j=none:=by
     unfold yielded;rw[ht];simp only[Xd,n];rfl
    simp only[Region.wanted,hg,p];rw[Wa (by simp)];exact e _ _ _ _ _ (s _ g) h
   .rename_i x _ hl;split at h
    .rename_i b hb;obtain⟨n,p⟩:=Wpn g ht (b:=b) (by rw[hl];exact hb);simp only[Region.wanted,hg,p];have l:=g.rebind n (z b);cases b with
     |true=>
      simp only[We]at h;cases want with
      |true=>
       simp only[ep]at h;simp only[beq_self_eq_true,ep];exact NL m q l i h (λai u w' G' y c f=>e _ _ _ _ _ c f)
      |false=>
       simp only[jP,gH]at h;rw[Wa (by simp)];exact e _ _ _ _ _ (s _ l) h
     |false=>
      simp only[Wc]at h;cases want with
      |true=>
       simp only[ep]at h;rw[Wa (by simp)];exact e _ _ _ _ _ (s _ l) h
      |false=>
       simp only[jP,gH]at h;simp only[beq_self_eq_true,ep];exact NL m q l i h (λai u w' G' y c f=>e _ _ _ _ _ c f)
    .cases h
   .cases h
  .cases h
theorem UK(n:aO P T)(q:gi P Γ){ops:Array Oper}:∀(l:List Oper),(∀o∈l,∀d,o.dst=some d->nt.Ok d)->∀{k:St->Option R} {Q:Exit->Act->World->Prop},na w0 F nt G0 k r (Q .normal)->
  na w0 F nt G0 (λst=>rxs T Γ A ops l st k) r (wpList P ops Q l)
 | [],_,k,Q,hK=>λst a w G ν j h=>hK st a w G ν j h
 |o::l,p,k,Q,hK=>λst a w G ν j h=>by
  have x:=UK (ops:=ops) n q l (λo v=>p o (Xf _ v)) hK;have h:rxg T Γ A ops o st (λai=>match opG A o ai with
   |some (c,cX)=>bif c then rxs T Γ A ops l cX k else none
   |none=>none)=some r:=h
  have s:na w0 F nt G0 (λai=>match opG A o ai with
   |some (c,cX)=>bif c then rxs T Γ A ops l cX k else none
   |none=>none) r (wpList P ops Q l):=λu m w1 g i f e=>by
   have e:(match opG A o u with
    |some (c,cX)=>bif c then rxs T Γ A ops l cX k else none
    |none=>none)=some r:=e
   split at e
   .rename_i c ao b;obtain⟨rfl,e⟩:=iy e;have:∃G' z,Rel w0 F nt G0 G' z ao m w1:=by
     unfold opG at b;split at b
     .split at b
      .injection b with b;injection b with _ b;subst b;exact⟨g,i,f⟩
      .exact RP f b
     .injection b with b;injection b with _ b;subst b;exact⟨g,i,f⟩
     .injection b with b;injection b with _ b;subst b;exact⟨g,i,f⟩
     .injection b with b;injection b with _ b;subst b;exact⟨g,i,f⟩
     .injection b with b;injection b with _ b;subst b;exact⟨g,i,f⟩
    obtain⟨t,B,y⟩:=this;exact x ao m w1 t B y e
   .cases e
  have:=UJ n q (p o (Xg ..)) (Q:=Q) s j h;unfold wpList;split
  .rename_i hw;rw[Wb hw]at this;exact .inl this
  .rename_i hw;rw[Wa hw]at this;exact this
end
section
variable{T:Tab}{Γ:Ctx}{A:List (Nat×An)}{ops:Array Oper}
theorem MM{R:Type}(o:Oper)(st:St)(k:St->Option R):rx1 T Γ A o st k=(rx1 T Γ A o st some).bind k:=by
 unfold rx1;rw[D4,D4 o st (λx objs nx=>some _),Option.bind_assoc];rfl
theorem Wvi{R:Type}(o:Oper)(st:St)(k:St->Option R):rxg T Γ A ops o st k=(rxg T Γ A ops o st some).bind k:=by
 unfold rxg;cases o.guard with
 |none=>exact MM o st k
 |some g=>
  obtain⟨j,a⟩:=g;simp only;cases(ops[j]?).bind (·.dst)with
  |none=>rfl
  |some t=>
   simp only;cases Wt st.env t with
   |none=>rfl
   |some x=>
    have c:(match asB x with
      |some b=>bif b
       then(if a then rx1 T Γ A o (st.put (some t) (one .bool true)) k else k ((st.put (some t) (one .bool true)).put o.dst (.tup [])))
       else(if a then k ((st.put (some t) (one .bool false)).put o.dst (.tup []))else rx1 T Γ A o (st.put (some t) (one .bool false)) k)
      |none=>none)=(match asB x with
      |some b=>bif b
       then(if a then rx1 T Γ A o (st.put (some t) (one .bool true)) some else some ((st.put (some t) (one .bool true)).put o.dst (.tup [])))
       else(if a then some ((st.put (some t) (one .bool false)).put o.dst (.tup []))else rx1 T Γ A o (st.put (some t) (one .bool false)) some)
      |none=>none).bind k:=by
     cases asB x with
     |none=>rfl
     |some b=>
      cases b<;>cases a
      .exact MM _ _ _
      .rfl
      .rfl
      .exact MM _ _ _
    cases x with
    |s y=>exact c
    |tup l=>
     cases l with
     |nil=>rfl
     |cons y l=>exact c
theorem SY{R:Type}{o:Oper}{st:St}{k:St->Option R}{r:R}(h:rxg T Γ A ops o st k=some r):∃ai,rxg T Γ A ops o st some=some ai/\k ai=some r:=by
 rw[Wvi]at h;exact t8.1 h
structure Eff(o:Oper)(v:AVal)(pre:ad)(am:Nat)(st ai:St):Prop where
 env:∀t,Wt ai.env t=if o.dst=some t then some v else Wt st.env t
 objs:ai.objs=pre++st.objs
 nx:ai.nx=am
theorem rG(st:St)(dst:Option Tmp)(x:AVal)(t:Nat):Wt (st.put dst x).env t=if dst=some t then some x else Wt st.env t:=by
 cases dst with
 |none=>simp[St.put]
 |some d=>
  simp only[St.put];rw[WW];by_cases h:d=t
  .subst h;simp
  .rw[Wa h,Wa (by simpa using h)]
theorem Gn{st ao:St}{x:Operand}(h:∀t∈NM x,Wt ao.env t=Wt st.env t):ev ao x=ev st x:=by
 cases x with
 |tmp t=>exact h t (by simp[NM])
 |_=>rfl
theorem Ly{st:St}{x:Operand}{v:AVal}:∀(l:List Operand),x∈l->ev st x=some v->∀a∈gc v,a∈rI st l
 | [],h,_,_,_=>by cases h
 |y::l,h,b,a,ce=>by
  simp only[rI];rcases Xs.1 h with rfl|h
  .rw[b];exact Xm _ ce
  .split
   .exact Xh _ (Ly l h b a ce)
   .exact Ly l h b a ce
theorem Pa{st ao:St}:∀(l:List Operand),(∀x∈l,ev ao x=ev st x)->rI ao l=rI st l
 | [],_=>rfl
 |x::l,h=>by simp only[rI,h x (Xg ..),Pa l λy a=>h y (Xf _ a)]
theorem Tr{o:Oper}{st ai ao:St}(h:rx1 T Γ A o st some=some ai)(k:∀x∈aJ o.op,ev ao x=ev st x)
  (r:bL o=true->ao.objs=st.objs/\ao.nx=st.nx) (q:bL o=false->∀d∈mL o st,Wt ao.objs d=Wt st.objs d):
  ∃v a am,Eff o v a am st ai/\(bL o=false->a= []/\am=st.nx)/\
   ∃g,rx1 T Γ A o ao some=some g/\(bL o=true->Eff o v a am ao g)/\(bL o=false->Eff o v [] ao.nx ao g):=by
 unfold rx1 at*;rw[D4]at h;obtain⟨⟨v,objs',am⟩,f,i⟩:=t8.1 h;injection i with i;subst i;cases fA:bL o with
 |true=>
  obtain⟨b,e⟩:=r fA;obtain⟨a,rfl⟩:=WrP o st v objs' am f;refine⟨v,a,am,⟨λt=>rG _ _ _ _,by cases o.dst<;>rfl,by cases o.dst<;>rfl⟩,by simp,?_⟩;have j:rxe T Γ A o ao fd=some (v,a++st.objs,am):=by
   obtain⟨B,C,y⟩:=ao;simp only at b e;subst b e;rw[Wub o (env:=B) (st:=st) fd k];exact f
  refine⟨_,?_,λ_=>⟨λt=>rG (⟨ao.env,a++st.objs,am⟩) o.dst v t,?_,?_⟩,by simp⟩
  .rw[D4,j];rfl
  .rw[b];cases o.dst<;>rfl
  .cases o.dst<;>rfl
 |false=>
  rw[Rz fA]at f;obtain⟨u,j,c⟩:=t8.1 f;injection c with c;have b:u=v:=Wp (λp:Out=>p.1) c;have e:st.objs=objs':=Wp (λp:Out=>p.2.1) c;have m:st.nx=am:=Wp (λp:Out=>p.2.2) c;subst b e m;refine⟨u,[],st.nx,⟨λt=>rG _ _ _ _,by cases o.dst<;>rfl,by cases o.dst<;>rfl⟩,by simp,?_⟩;have n:tL T o ao=some u:=by
   rw[←j];refine WrY fA k λz x w v s d l=>q fA d ?_;unfold mL;rw[z];exact Ly _ w s d l
  refine⟨_,?_,by simp,λ_=>⟨λt=>rG (⟨ao.env,ao.objs,ao.nx⟩) o.dst u t,?_,?_⟩⟩
  .rw[D4,Rz fA,n];rfl
  .cases o.dst<;>rfl
  .cases o.dst<;>rfl
theorem WyS{x:AVal}{b:Bool}(h:asB x=some b):x=one .bool b:=by
 unfold asB at h;split at h
 .injection h with h;subst h;rfl
 .cases h
theorem F9{st:St}{t:Nat}{x:AVal}(h:Wt st.env t=some x)(t':Nat):Wt (st.put (some t) x).env t'=Wt st.env t':=by
 rw[rG];split
 .rename_i e;injection e with e;subst e;exact h.symm
 .rfl
theorem wP(st:St)(d:Option Tmp)(x:AVal):(st.put d x).objs=st.objs:=by cases d<;>rfl
theorem xD(st:St)(d:Option Tmp)(x:AVal):(st.put d x).nx=st.nx:=by cases d<;>rfl
theorem Pr{o:Oper}{st ao:St}(h:∀x∈aJ o.op,ev ao x=ev st x):mL o ao=mL o st:=by
 unfold mL;rw[Pa _ h]
theorem Uj{o:Oper}{st ai ao:St}(h:rxg T Γ A ops o st some=some ai)(M:∀t∈oj ops o,Wt ao.env t=Wt st.env t)
  (E:bL o=true->ao.objs=st.objs/\ao.nx=st.nx) (N:bL o=false->∀z∈mL o st,Wt ao.objs z=Wt st.objs z):
  ∃v a am,Eff o v a am st ai/\(bL o=false->a= []/\am=st.nx)/\
   ∃c,rxg T Γ A ops o ao some=some c/\(bL o=true->Eff o v a am ao c)/\(bL o=false->Eff o v [] ao.nx ao c):=by
 have S:∀x∈aJ o.op,ev ao x=ev st x:=λx f=>Gn λt r=>M t (by
  unfold oj;exact Xm _ (Oi.2 ⟨x,f,r⟩))
 unfold rxg at h⊢;cases hg:o.guard with
 |none=>
  rw[hg]at h;exact Tr h S E N
 |some g=>
  obtain⟨j,d⟩:=g;rw[hg]at h;simp only at h⊢;cases r:(ops[j]?).bind (·.dst)with
  |none=>rw[r]at h;cases h
  |some t=>
   rw[r]at h;simp only at h⊢;have G:Wt ao.env t=Wt st.env t:=M t (by
    unfold oj;refine Xh _ ?_;rw[hg];simp only;rw[r];simp)
   rw[G];cases f:Wt st.env t with
   |none=>rw[f]at h;cases h
   |some x=>
    rw[f]at h;have k:∀(s u:St) (I:St),some (s.put o.dst (.tup []))=some I->(∀t,Wt s.env t=Wt st.env t)->s.objs=st.objs->s.nx=st.nx->(∀t,Wt u.env t=Wt ao.env t)->u.objs=ao.objs->u.nx=ao.nx->
      ∃v a am,Eff o v a am st I/\(bL o=false->a= []/\am=st.nx)/\
       ∃c,some (u.put o.dst (.tup []))=some c/\(bL o=true->Eff o v a am ao c)/\(bL o=false->Eff o v [] ao.nx ao c):=by
     intro s u I F U V W J K L;injection F with F;subst F;refine⟨.tup [],[],st.nx,⟨λt=>?_,by rw[wP,V];rfl,by rw[xD,W]⟩,λ_=>⟨rfl,rfl⟩,_,rfl,λi=>⟨λt=>?_,by rw[wP,K];rfl,by rw[xD,L];exact(E i).2⟩,λ_=>⟨λt=>?_,by rw[wP,K];rfl,by rw[xD,L]⟩⟩
     .rw[rG,U]
     .rw[rG,J]
     .rw[rG,J]
    have m:∀b:Bool,x=one .bool b->rx1 T Γ A o (st.put (some t) (one .bool b)) some=some ai->
      ∃v a am,Eff o v a am st ai/\(bL o=false->a= []/\am=st.nx)/\
       ∃c,rx1 T Γ A o (ao.put (some t) (one .bool b)) some=some c/\(bL o=true->Eff o v a am ao c)/\(bL o=false->Eff o v [] ao.nx ao c):=by
     intro b q h1;subst q;have O:=F9 f;have H:=F9 (st:=ao) (t:=t) (x:=one .bool b) (by rw[G];exact f);have R:∀x∈aJ o.op,ev (st.put (some t) (one .bool b)) x=ev st x:=λx f=>Gn λt' _=>O t';have wO:∀x∈aJ o.op,ev (ao.put (some t) (one .bool b)) x=ev ao x:=λx f=>Gn λt' _=>H t';obtain⟨v,a,am,B,Y,c,Z,C,D⟩:=Tr (ao:=ao.put (some t) (one .bool b)) h1 (λx f=>by rw[wO x f,R x f,S x f])
      (λi=>E i) (λja z X=>N ja z (by rw[←Pr R];exact X))
     refine⟨v,a,am,⟨λt'=>by rw[B.env,O],B.objs,B.nx⟩,Y,c,Z,λi=>⟨λt'=>by rw[(C i).env,H],(C i).objs,(C i).nx⟩,λi=>⟨λt'=>by rw[(D i).env,H],(D i).objs,(D i).nx⟩⟩
    have n:(match asB x with
      |some b=>bif b
       then(if d then rx1 T Γ A o (st.put (some t) (one .bool true)) some else some ((st.put (some t) (one .bool true)).put o.dst (.tup [])))
       else(if d then some ((st.put (some t) (one .bool false)).put o.dst (.tup []))else rx1 T Γ A o (st.put (some t) (one .bool false)) some)
      |none=>none)=some ai->∃v a am,Eff o v a am st ai/\(bL o=false->a= []/\am=st.nx)/\
       ∃c,(match asB x with
      |some b=>bif b
       then(if d then rx1 T Γ A o (ao.put (some t) (one .bool true)) some else some ((ao.put (some t) (one .bool true)).put o.dst (.tup [])))
       else(if d then some ((ao.put (some t) (one .bool false)).put o.dst (.tup []))else rx1 T Γ A o (ao.put (some t) (one .bool false)) some)
      |none=>none)=some c/\(bL o=true->Eff o v a am ao c)/\(bL o=false->Eff o v [] ao.nx ao c):=by
     intro h;cases q:asB x with
     |none=>rw[q]at h;cases h
     |some b=>
      rw[q]at h;have w:=WyS q;have P:∀p,p=b->∀t',Wt (st.put (some t) (one .bool p)).env t'=Wt st.env t':=λp e=>by subst e;exact F9 (by rw[f,w])
      have Q:∀p,p=b->∀t',Wt (ao.put (some t) (one .bool p)).env t'=Wt ao.env t':=λp e=>by subst e;exact F9 (by rw[G,f,w])
      cases b<;>cases d
      .exact m false w h
      .exact k _ _ _ h (P _ rfl) (wP _ _ _) (xD _ _ _) (Q _ rfl) (wP _ _ _) (xD _ _ _)
      .exact k _ _ _ h (P _ rfl) (wP _ _ _) (xD _ _ _) (Q _ rfl) (wP _ _ _) (xD _ _ _)
      .exact m true w h
    cases x with
    |s y=>exact n h
    |tup l=>
     cases l with
     |nil=>exact k st ao ai h (λ_=>rfl) rfl rfl (λ_=>rfl) rfl rfl
     |cons y l=>exact n h
end
structure Rc where
 i:Nat
 v:AVal
 pre:ad
 nx:Nat
 ids:List Nat
 mv:Bool
section
variable{T:Tab}{Γ:Ctx}{A:List (Nat×An)}{ops:Array Oper}
structure StepTo(T:Tab)(Γ:Ctx)(A:List (Nat×An))(ops:Array Oper)(ρ:Rc)(o:Oper)(st ai:St):Prop where
 at_:ops[ρ.i]?=some o
 isM:ρ.mv=bL o
 lk:ρ.mv=false->ρ.ids=mL o st
 run:rxg T Γ A ops o st some=some ai
 env:∀t,Wt ai.env t=if o.dst=some t then some ρ.v else Wt st.env t
 objs:ai.objs=if ρ.mv then ρ.pre++st.objs else st.objs
 nx:ai.nx=if ρ.mv then ρ.nx else st.nx
def xO(T:Tab)(Γ:Ctx)(A:List (Nat×An))(ops:Array Oper):List Rc->St->St->Prop
 | [],st,ai=>st=ai
 |ρ::l,st,ai=>∃o a,StepTo T Γ A ops ρ o st a/\xO T Γ A ops l a ai
theorem Us{i:Nat}{o:Oper}{st ai:St}(hi:ops[i]?=some o)(h:rxg T Γ A ops o st some=some ai):
  ∃ρ:Rc,ρ.i=i/\StepTo T Γ A ops ρ o st ai:=by
 obtain⟨v,b,am,a,c,_⟩:=Uj (ao:=st) h (λ_ _=>rfl) (λ_=>⟨rfl,rfl⟩) (λ_ _ _=>rfl);refine⟨⟨i,v,b,am,mL o st,bL o⟩,rfl,hi,rfl,λ_=>rfl,h,a.env,?_,?_⟩
 .simp only;cases hm:bL o with
  |true=>simpa using a.objs
  |false=>rw[a.objs,(c hm).1];rfl
 .simp only;cases hm:bL o with
  |true=>simpa using a.nx
  |false=>rw[a.nx,(c hm).2];rfl
theorem StepTo.move{ρ:Rc}{o:Oper}{st ai ao:St}(h:StepTo T Γ A ops ρ o st ai)(m:∀t∈oj ops o,Wt ao.env t=Wt st.env t)
  (n:ρ.mv=true->ao.objs=st.objs/\ao.nx=st.nx) (i:ρ.mv=false->∀j∈ρ.ids,Wt ao.objs j=Wt st.objs j):
  ∃cx,StepTo T Γ A ops ρ o ao cx:=by
 obtain⟨v,u,am,k,y,cx,l,f,g⟩:=Uj (ao:=ao) h.run m (λe=>n (by rw[h.isM];exact e)) (λq j r=>i (by rw[h.isM];exact q) j (by rw[h.lk (by rw[h.isM];exact q)];exact r));have p:∀t,o.dst=some t->v=ρ.v:=λt d=>by
  have a:=k.env t;have b:=h.env t;rw[Wb d]at a b;rw[a]at b;injection b
 have w:ρ.mv=false->mL o ao=mL o st:=λ_=>Pr λx s=>Gn λt d=>m t (by
  unfold oj;exact Xm _ (Oi.2 ⟨x,s,d⟩))
 cases e:bL o with
 |true=>
  have c:ρ.mv=true:=by rw[h.isM];exact e
  have f:=f e;obtain⟨z,B⟩:=n c;refine⟨cx,h.at_,h.isM,λi=>(by rw[c]at i;cases i),l,λt=>?_,?_,?_⟩
  .rw[f.env];split
   .rename_i d;rw[p t d]
   .rfl
  .rw[f.objs,c];simp only[ep];have a:=k.objs;have b:=h.objs;rw[c]at b;simp only[ep]at b;rw[a]at b;rw[List.append_cancel_right b]
  .rw[f.nx,c];simp only[ep];have a:=k.nx;have b:=h.nx;rw[c]at b;simp only[ep]at b;rw[←a,b]
 |false=>
  have c:ρ.mv=false:=by rw[h.isM];exact e
  have g:=g e;refine⟨cx,h.at_,h.isM,λi=>by rw[w c];exact h.lk c,l,λt=>?_,?_,?_⟩
  .rw[g.env];split
   .rename_i d;rw[p t d]
   .rfl
  .rw[g.objs,c];rfl
  .rw[g.nx,c];rfl
def H3(a:List Nat)(pre:ad):Prop:=∀b∈a,b∉ss pre
def K5(B:List (List Nat))(x y:Rc):Prop:=
 (x.mv=false->y.mv=true->fm B x.i y.i=true\/H3 x.ids y.pre)/\
 (x.mv=true->y.mv=false->fm B x.i y.i=true\/H3 y.ids x.pre)
theorem DS{α:Type}:∀(l:List Nat) (k:List Nat->α),qb l k=k l
 | [],_=>rfl
 |x::l,k=>by rw[qb,DS l]
theorem RF{α:Type}:∀(l:List (List Nat)) (k:List (List Nat)->α),HK l k=k l
 | [],_=>rfl
 |x::l,k=>by rw[HK,DS,RF l]
theorem PY{a:List Nat}{pre:ad}(h:lu a (ss pre)=true):H3 a pre:=λb c d=>by
 unfold lu at h;have:=cq.1 h b c;rw[(kL b _).2 d]at this;cases this
theorem Wq8(pre objs:ad):NJ objs (pre++objs)=ss pre:=by
 unfold NJ;simp
theorem MD{B:List (List Nat)}{R:Type}{k:St->Option R}{r:R}:∀(l:List Nat) (s t:List (Nat×List Nat)) (st:St),rdx T Γ A ops B l s t st k=some r->
  ∃(c:List Rc) (ai:St),c.map (·.i)=l/\xO T Γ A ops c st ai/\k ai=some r/\c.Pairwise (K5 B)/\
   (∀p∈s,∀ρ∈c,ρ.mv=true->fm B p.1 ρ.i=true\/H3 p.2 ρ.pre)/\
   (∀p∈t,∀ρ∈c,ρ.mv=false->fm B p.1 ρ.i=true\/lu ρ.ids p.2=true)
 | [],s,t,st,h=>⟨[],st,rfl,rfl,h,List.Pairwise.nil,by simp,by simp⟩
 |i::l,s,t,st,h=>by
  simp only[rdx]at h;cases ho:ops[i]? with
  |none=>rw[ho]at h;cases h
  |some o=>
   rw[ho]at h;simp only at h;cases hm:bL o with
   |true=>
    simp only[hm,We]at h;obtain⟨x,z,d⟩:=SY h;rw[DS]at d;obtain⟨q,d⟩:=iy d;obtain⟨ρ,e,f⟩:=Us ho z;have g:ρ.mv=true:=by rw[f.isM];exact hm
    have w:=f.objs;rw[g]at w;simp only[ep]at w;rw[w,Wq8]at q d;obtain⟨c,ai,C,D,E,F,u,v⟩:=MD l _ _ _ d;refine⟨ρ::c,ai,by simp[e,C],⟨o,x,f,D⟩,E,List.Pairwise.cons (λy a=>⟨λn=>(by rw[g]at n;cases n),λ_ j=>?_⟩) F,λp b y a m=>?_,λp b y a j=>?_⟩
    .rcases v (i,ss ρ.pre) (Xg ..) y a j with h|h
     .rw[e];exact .inl h
     .exact .inr (PY h)
    .rcases Xs.1 a with rfl|a
     .have:=cq.1 q p b;rw[xU]at this;rw[e];exact this.imp id PY
     .exact u p b y a m
    .rcases Xs.1 a with rfl|a
     .rw[g]at j;cases j
     .exact v p (Xf _ b) y a j
   |false=>
    simp only[hm,Wc]at h;rw[DS]at h;obtain⟨q,h⟩:=iy h;obtain⟨x,z,d⟩:=SY h;obtain⟨ρ,e,f⟩:=Us ho z;have g:ρ.mv=false:=by rw[f.isM];exact hm
    have G:=f.lk g;rw[←G]at q d;obtain⟨c,ai,C,D,E,F,u,v⟩:=MD l _ _ _ d;refine⟨ρ::c,ai,by simp[e,C],⟨o,x,f,D⟩,E,List.Pairwise.cons (λy a=>⟨λ_ m=>?_,λn=>(by rw[g]at n;cases n)⟩) F,λp b y a m=>?_,λp b y a j=>?_⟩
    .rw[e];exact u (i,ρ.ids) (Xg ..) y a m
    .rcases Xs.1 a with rfl|a
     .rw[g]at m;cases m
     .exact u p (Xf _ b) y a m
    .rcases Xs.1 a with rfl|a
     .have:=cq.1 q p b;rw[xU]at this;rw[e];exact this
     .exact v p b y a j
def gM(ops:Array Oper)(i:Nat):Option Tmp:=(ops[i]?).bind (·.dst)
def km(ops:Array Oper):List Rc->(Nat->Option AVal)->Nat->Option AVal
 | [],e,t=>e t
 |ρ::a,e,t=>km ops a (λb=>if gM ops ρ.i=some b then some ρ.v else e b) t
def eF:List Rc->ad×Nat->ad×Nat
 | [],m=>m
 |ρ::a,m=>eF a (if ρ.mv then(ρ.pre++m.1,ρ.nx)else m)
theorem LD:∀(a:List Rc) (st ai:St),xO T Γ A ops a st ai->(∀t,Wt ai.env t=km ops a (Wt st.env) t)/\(ai.objs,ai.nx)=eF a (st.objs,st.nx)
 | [],st,ai,h=>by cases h;exact⟨λ_=>rfl,rfl⟩
 |ρ::a,st,ai,⟨o,c,b,h⟩=>by
  obtain⟨d,f⟩:=LD a c ai h;have e:(Wt c.env)= λt'=>if gM ops ρ.i=some t' then some ρ.v else Wt st.env t':=funext λt=>by
   rw[b.env];unfold gM;rw[b.at_];rfl
  refine⟨λt=>by rw[d,e];rfl,?_⟩;rw[f,eF];congr 1;rw[b.objs,b.nx];split<;>rfl
theorem Qd:∀(a:List Rc) (ρ:Rc) (b:List Rc) (st ai:St),xO T Γ A ops (a++ρ::b) st ai->∃o c e,xO T Γ A ops a st c/\StepTo T Γ A ops ρ o c e
 | [],ρ,b,st,ai,⟨o,c,d,h⟩=>⟨o,st,c,rfl,d⟩
 |x::a,ρ,b,st,ai,⟨o,c,d,h⟩=>by
  obtain⟨i,j,k,f,g⟩:=Qd a ρ b c ai h;exact⟨i,j,k,⟨o,c,d,f⟩,g⟩
theorem vM:∀(a:List Rc) (m:ad×Nat),eF a m=eF (a.filter (·.mv)) m
 | [],_=>rfl
 |ρ::a,m=>by
  rw[eF,vM a,gy];cases h:ρ.mv with
  |true=>simp only[ep,eF,h]
  |false=>simp only[jP,gH]
theorem Ge:∀(a b:List Rc) (m:ad×Nat),eF (a++b) m=eF b (eF a m)
 | [],_,_=>rfl
 |ρ::a,b,m=>by rw[fG,eF,Ge a b];rfl
theorem ZV{pre objs:ad}{id:Nat}(h:id∉ss pre):Wt (pre++objs) id=Wt objs id:=by
 induction pre with
 |nil=>rfl
 |cons p pre ih=>
  obtain⟨j,a⟩:=p;simp only[ss,bK,Xs,not_or]at h;rw[fG,WW,Wa (λe=>h.1 e.symm)];exact ih h.2
theorem L1{b:Nat}:∀(a:List Rc) (m:ad×Nat),(∀ρ∈a,ρ.mv=true->b∉ss ρ.pre)->Wt (eF a m).1 b=Wt m.1 b
 | [],_,_=>rfl
 |ρ::a,m,h=>by
  rw[eF,L1 a _ λx c=>h x (Xf _ c)];split
  .rename_i hm;exact ZV (h ρ (Xg ..) hm)
  .rfl
def HB(ops:Array Oper):Prop:=∀i j t,gM ops i=some t->gM ops j=some t->i=j
theorem GI{t:Nat}:∀(a:List Rc) (e:Nat->Option AVal),(∀ρ∈a,gM ops ρ.i≠some t)->km ops a e t=e t
 | [],_,_=>rfl
 |ρ::a,e,h=>by
  rw[km,GI a _ λx b=>h x (Xf _ b),Wa (h ρ (Xg ..))]
theorem Ma{t:Nat}(d:HB ops):∀(a:List Rc) (e:Nat->Option AVal),(a.map (·.i)).Nodup->∀ρ∈a,gM ops ρ.i=some t->km ops a e t=some ρ.v
 | [],_,_,_,h,_=>by cases h
 |x::a,e,b,ρ,c,ht=>by
  rw[bK,cC]at b;rw[km];rcases Xs.1 c with rfl|c
  .rw[GI a _ λy g f=>b.1 (by rw[d _ _ _ ht f];exact Xz.2 ⟨y,g,rfl⟩),Wb ht]
  .exact Ma d a _ b.2 ρ c ht
theorem Qg{t:Nat}(g:HB ops){a b:List Rc}{e:Nat->Option AVal}(j:(a.map (·.i)).Nodup)(k:(b.map (·.i)).Nodup)
  (h:∀ρ,gM ops ρ.i=some t->(ρ∈a↔ρ∈b)):km ops a e t=km ops b e t:=by
 by_cases f:∃ρ∈a,gM ops ρ.i=some t
 .obtain⟨ρ,d,c⟩:=f;rw[Ma g a e j ρ d c,Ma g b e k ρ ((h ρ c).1 d) c]
 .rw[GI a e λρ d c=>f ⟨ρ,d,c⟩,GI b e λρ d c=>f ⟨ρ,(h ρ c).2 d,c⟩]
end
theorem Lr{α:Type}{x:α}:∀{a c b d:List α},(a++x::b).Nodup->a++x::b=c++x::d->a=c
 | [],[],_,_,_,_=>rfl
 | [],y::c,b,d,e,h=>by
  simp only[mx,fG,List.cons.injEq]at h;obtain⟨rfl,h⟩:=h;rw[mx,cC]at e;exact Wi (by rw[h];simp) e.1
 |y::a,[],b,d,e,h=>by
  simp only[mx,fG,List.cons.injEq]at h;obtain⟨rfl,h⟩:=h;rw[fG,cC]at e;exact Wi (by simp) e.1
 |y::a,z::c,b,d,e,h=>by
  simp only[fG,List.cons.injEq]at h;obtain⟨rfl,h⟩:=h;rw[fG,cC]at e;rw[Lr e.2 h]
def bE(ops:Array Oper)(i:Nat):Bool:=match ops[i]? with
 |some o=>bL o
 |none=>false
theorem Rel.same{w0:World}{F:CS}{nt:Slots}{G0 G:GH}{ν:Nat->Nu}{st ao:St}{a:Act}{w:World}(h:Rel w0 F nt G0 G ν st a w)
  (d:∀t,Wt ao.env t=Wt st.env t) (e:ao.objs=st.objs) (b:ao.nx=st.nx):Rel w0 F nt G0 G ν ao a w:=
 ⟨h.defers,h.ntm,h.par,λi x c=>by rw[d]at c;rw[b];exact h.env i x c,by rw[e,b];exact h.h,h.gx⟩
theorem Ve:∀(c:List Rc),(c.map (·.i)).Nodup->∃a:Nat->Rc,∀ρ∈c,a ρ.i=ρ
 | [],_=>⟨λi=>⟨i,.tup [],[],0,[],false⟩,by simp⟩
 |ρ::c,h=>by
  rw[bK,cC]at h;obtain⟨a,d⟩:=Ve c h.2;refine⟨λi=>if i=ρ.i then ρ else a i,λx b=>?_⟩;rcases Xs.1 b with rfl|b
  .simp
  .simp only;rw[Wa (λe=>h.1 (by rw[←e];exact Xz.2 ⟨x,b,rfl⟩))];exact d x b
section
variable{w0:World}{F:CS}{nt:Slots}{G0:GH}{P:Program}{T:Tab}{Γ:Ctx}{A:List (Nat×An)}{ops:Array Oper}{Q:Exit->Act->World->Prop}
theorem WtI(hT:aO P T)(hΓ:gi P Γ)(hd:∀o∈ops,∀d,o.dst=some d->nt.Ok d){l L:List Nat}(J:Order ops l)(V:Order ops L)(fD:HB ops)
  (iZ:∀(i:Nat) (o:Oper) (t:Nat),ops[i]?=some o->t∈oj ops o->∀j,gM ops j=some t->j=i\/fm (ik ops.toList []) j i=true\/fm (ik ops.toList []) i j=true)
  (hσ:l.filter (bE ops)=L.filter (bE ops)) {rs:List Rc} {st ai:St} (jB:rs.map (·.i)=L) (my:xO T Γ A ops rs st ai) (cQ:rs.Pairwise (K5 (ik ops.toList [])))
  (hK:∀a w G ν,Rel w0 F nt G0 G ν ai a w->Q .normal a w) {a:Act} {w:World} {G:GH} {ν:Nat->Nu} (hr:Rel w0 F nt G0 G ν st a w):wpOps P ops Q l a w:=by
 have bv:(rs.map (·.i)).Nodup:=by rw[jB];exact V.nodup
 obtain⟨rec,bP⟩:=Ve rs bv;have D:L.map rec=rs:=by
  rw[←jB,Ff]
  conv=>rhs;rw[←XY rs]
  exact xS λρ f=>bP ρ f
 have kn:∀i,i∈l↔i∈L:=λi=>by rw[←J.all,V.all]
 have n:∀i∈L,(rec i).i=i/\rec i∈rs:=λi b=>by
  rw[←jB]at b;obtain⟨ρ,f,rfl⟩:=Xz.1 b;rw[bP ρ f];exact⟨rfl,f⟩
 have fR:∀i∈L,∃pre post o H ao,L=pre++i::post/\xO T Γ A ops (pre.map rec) st H/\StepTo T Γ A ops (rec i) o H ao:=λi b=>by
  obtain⟨pre,post,e⟩:=Im b;have:rs=pre.map rec++rec i::post.map rec:=by rw[←D,e];simp
  rw[this]at my;obtain⟨o,H,ao,h1,M⟩:=Qd _ _ _ _ _ my;exact⟨pre,post,o,H,ao,e,h1,M⟩
 have iJ:∀i∈L,(rec i).mv=bE ops i:=λi b=>by
  obtain⟨pre,post,o,H,ao,e,h1,M⟩:=fR i b;rw[M.isM];have:=M.at_;rw[(n i b).1]at this;unfold bE;rw[this]
 have O:∀(p:List Nat),(∀i∈p,i∈L)->(p.map rec).filter (·.mv)=(p.filter (bE ops)).map rec:=by
  intro p
  induction p with
  |nil=>intro _;rfl
  |cons i p ih=>
   intro h;have:=ih λj c=>h j (Xf _ c);rw[bK,gy,gy,iJ i (h i (Xg ..))];split
   .rw[bK,this]
   .exact this
 have pY:∀(p:List Nat),(∀i∈p,i∈L)->(p.map rec).map (·.i)=p:=by
  intro p h;rw[Ff]
  conv=>rhs;rw[←XY p]
  exact xS λi b=>(n i (h i b)).1
 have fE:∀(p:List Nat),(∀i∈p,i∈L)->∀i∈L,(rec i∈p.map rec↔i∈p):=λp hp i b=>by
  constructor
  .intro h;obtain⟨j,c,e⟩:=Xz.1 h;have:j=i:=by rw[←(n j (hp j c)).1,←(n i b).1,e]
   rw[←this];exact c
  .exactλh=>Xz.2 ⟨i,h,rfl⟩
 have pf:∀i j pre post,L=pre++i::post->j∈post->K5 (ik ops.toList []) (rec i) (rec j):=λi j pre post e c=>by
  have:rs=pre.map rec++rec i::post.map rec:=by rw[←D,e];simp
  rw[this,List.pairwise_append]at cQ;exact(List.pairwise_cons.1 cQ.2.1).1 _ (Xz.2 ⟨j,c,rfl⟩)
 suffices main:∀(s p:List Nat),l=p++s->∀(ao:St) (a:Act) (w:World) (G:GH) (ν:Nat->Nu),Rel w0 F nt G0 G ν ao a w->
   (∀t,Wt ao.env t=km ops (p.map rec) (Wt st.env) t)->(ao.objs,ao.nx)=eF (p.map rec) (st.objs,st.nx)->wpOps P ops Q s a w from
  main l [] rfl st a w G ν hr (λ_=>rfl) rfl
 intro s
 induction s with
 |nil=>
  intro p e ao a w G ν jA he B;rw[xV]at e;subst e;obtain⟨f1,f2⟩:=LD _ _ _ my;have Z:∀i∈l,i∈L:=λi b=>(kn i).1 b;refine hK a w G ν (jA.same (λt=>?_) ?_ ?_)
  .rw[f1,he];refine Qg fD bv (by rw[pY l Z];exact J.nodup) λρ _=>?_;constructor
   .intro f;have b:ρ.i∈L:=by rw[←jB];exact Xz.2 ⟨ρ,f,rfl⟩
    rw[←bP ρ f];exact(fE l Z ρ.i b).2 ((kn _).2 b)
   .intro f;obtain⟨i,b,rfl⟩:=Xz.1 f;exact(n i (Z i b)).2
  .have:eF (l.map rec) (st.objs,st.nx)=eF rs (st.objs,st.nx):=by
    rw[vM,O l Z,hσ,←O L (λi b=>b),←vM,D]
   rw[this,←f2]at B;exact(Wp (·.1) B).symm
  .have:eF (l.map rec) (st.objs,st.nx)=eF rs (st.objs,st.nx):=by
    rw[vM,O l Z,hσ,←O L (λi b=>b),←vM,D]
   rw[this,←f2]at B;exact(Wp (·.2) B).symm
 |cons i s ih=>
  intro p e ao a w G ν jA he B;have R:i∈L:=(kn i).1 (by rw[e];simp);have tx:∀j∈p,j∈L:=λj c=>(kn j).1 (by rw[e];exact Xm _ c);obtain⟨pre,post,o,H,Bc,C,h1,M⟩:=fR i R;have ko:∀j∈pre,j∈L:=λj c=>by rw[C];exact Xm _ c
  have vz:ops[i]?=some o:=by have:=M.at_;rw[(n i R).1]at this;exact this
  obtain⟨g1,g2⟩:=LD _ _ _ h1;have nO:=J.nodup;have nP:=V.nodup;rw[e]at nO;rw[C]at nP;have U:i∉p:=λh=>(d9.1 nO).2.2 i h i (Xg ..) rfl;have kq:i∉pre:=λh=>(d9.1 nP).2.2 i h i (Xg ..) rfl;have pZ:∀t∈oj ops o,Wt ao.env t=Wt H.env t:=λt ht=>by
   rw[he,g1];refine Qg fD (by rw[pY p tx];exact(d9.1 nO).1) (by rw[pY pre ko];exact(d9.1 nP).1) λρ E=>?_;have W:∀j∈L,gM ops j=some t->(j∈p↔j∈pre):=λj c wC=>by
    rcases iZ i o t vz ht j wC with rfl|g|g
    .exact⟨λh=>Wi h U,λh=>Wi h kq⟩
    .by_cases p8:j=i
     .subst p8;exact⟨λh=>Wi h U,λh=>Wi h kq⟩
     .exact⟨λ_=>V.bef' C g p8,λ_=>J.bef' e g p8⟩
    .exact⟨λh=>Wi (J.bef e g h) U,λh=>Wi (V.bef C g h) kq⟩
   constructor
   .intro f;obtain⟨j,c,rfl⟩:=Xz.1 f;have tz:=tx j c;rw[(n j tz).1]at E;exact Xz.2 ⟨j,(W j tz E).1 c,rfl⟩
   .intro f;obtain⟨j,c,rfl⟩:=Xz.1 f;have tz:=ko j c;rw[(n j tz).1]at E;exact Xz.2 ⟨j,(W j tz E).2 c,rfl⟩
  have nQ:eF (p.map rec) (st.objs,st.nx)=eF ((p.filter (bE ops)).map rec) (st.objs,st.nx):=by rw[vM,O p tx]
  have pg:eF (pre.map rec) (st.objs,st.nx)=eF ((pre.filter (bE ops)).map rec) (st.objs,st.nx):=by rw[vM,O pre ko]
  obtain⟨Bd,h3⟩:=M.move (ao:=ao) pZ (λfA=>by
   have rK:bE ops i=true:=by rw[←iJ i R];exact fA
   have:p.filter (bE ops)=pre.filter (bE ops):=by
    have q:=hσ;rw[e,C,BU,BU,gy,gy,Wb rK,Wb rK]at q;refine Lr ?_ q;have:=J.nodup.filter (bE ops);rw[e,BU,gy,Wb rK]at this;exact this
   rw[nQ,this,←pg,←g2]at B;exact⟨Wp (·.1) B,Wp (·.2) B⟩) (λja id ce=>by
   have q:(p.filter (bE ops))<+:l.filter (bE ops):=by rw[e,BU];exact XT _ _
   have q2:(pre.filter (bE ops))<+:l.filter (bE ops):=by rw[hσ,C,BU];exact XT _ _
   have wu:ao.objs=(eF ((p.filter (bE ops)).map rec) (st.objs,st.nx)).1:=by rw[←nQ,←B]
   have vu:H.objs=(eF ((pre.filter (bE ops)).map rec) (st.objs,st.nx)).1:=by rw[←pg,←g2]
   rw[wu,vu];rcases List.prefix_or_prefix_of_prefix q q2 with⟨X,I⟩|⟨X,I⟩
   .
    rw[←I,Xw,Ge];refine(L1 _ _ λρ f N=>?_).symm;obtain⟨m,S,rfl⟩:=Xz.1 f;have jC:m∈pre:=(dA.1 (by rw[←I];exact Xh _ S:m∈pre.filter (bE ops))).1;have p9:m∉p:=λaG=>by
     have wQ:bE ops m=true:=(dA.1 (by rw[←I];exact Xh _ S:m∈pre.filter (bE ops))).2;have Y:(pre.filter (bE ops)).Nodup:=(d9.1 nP).1.filter _;rw[←I]at Y;exact(d9.1 Y).2.2 m (dA.2 ⟨aG,wQ⟩) m S rfl
    obtain⟨u,v,eu⟩:=Im jC;have hf:=pf m i u (v++i::post) (by rw[C,eu];simp) (by simp);rcases hf.2 N ja with g|g
    .rw[(n m (ko m jC)).1,(n i R).1]at g;exact Wi (J.bef' e g (λhc=>kq (hc▸jC))) p9
    .exact g id ce
   .rw[←I,Xw,Ge];refine L1 _ _ λρ f N=>?_;obtain⟨m,S,rfl⟩:=Xz.1 f;have y7:m∈p.filter (bE ops):=by rw[←I];exact Xh _ S
    have nR:m∈p:=(dA.1 y7).1;have p9:m∉pre:=λaG=>by
     have wQ:bE ops m=true:=(dA.1 y7).2;have Y:(p.filter (bE ops)).Nodup:=(d9.1 nO).1.filter _;rw[←I]at Y;exact(d9.1 Y).2.2 m (dA.2 ⟨aG,wQ⟩) m S rfl
    have y8:=tx m nR;have qa:m∈post:=by
     rw[C]at y8;rcases Xn.1 y8 with h|h
     .exact Wi h p9
     .rcases Xs.1 h with h|h
      .exact Wi (h▸nR) U
      .exact h
    have hf:=pf i m pre post C qa;rcases hf.1 ja N with g|g
    .rw[(n m (tx m nR)).1,(n i R).1]at g;exact Wi (J.bef e g nR) U
    .exact g id ce)
  have Be:∀d,o.dst=some d->nt.Ok d:=hd o (Array.mem_of_getElem? vz);have vA:=UJ (F:=F) (G0:=G0) (w0:=w0) hT hΓ Be (Q:=Q) (k:=some) (r:=Bd) (K:=wpOps P ops Q s) (λBf a' w' G' ν' hr4 h4=>by
   injection h4 with h4;subst h4;refine ih (p++ [i]) (by rw[e];simp) Bf a' w' G' ν' hr4 (λt=>?_) ?_
   .rw[h3.env];have hv:km ops ((p++ [i]).map rec) (Wt st.env) t=if gM ops i=some t then some (rec i).v else km ops (p.map rec) (Wt st.env) t:=by
     rw[Xw];have gen:∀(x:List Rc) (y:Rc) (e:Nat->Option AVal),km ops (x++ [y]) e t=if gM ops y.i=some t then some y.v else km ops x e t:=by
      intro x
      induction x with
      |nil=>intro y e;rfl
      |cons z x ih=>intro y e;rw[fG,km,ih];rfl
     rw[List.map_singleton,gen,(n i R).1]
    rw[hv,he];have:gM ops i=o.dst:=by unfold gM;rw[vz];rfl
    rw[this]
   .rw[Xw,Ge,←B];simp only[bK,cV,eF];rw[h3.objs,h3.nx];split<;>rfl) jA h3.run
  rw[wpOps_cons];unfold wpOp;rw[vz];simp only;split
  .rename_i hw;rw[Wb hw]at vA;exact .inl vA
  .rename_i hw;rw[Wa hw]at vA;exact vA
end
theorem Qc:∀{l:List (Nat×Nat)},fL (l.map (·.1))=true->∀p∈l,∀q∈l,p.1=q.1->p=q
 | [],_,p,d,_,_,_=>by cases d
 |x::l,h,p,d,q,f,e=>by
  have c:=(Gi _).1 h;simp only[bK,fL,Xj]at h;rw[bK,cC]at c;rcases Xs.1 d with b|b
  .rcases Xs.1 f with a|a
   .rw[b,a]
   .exact Wi (Xz.2 ⟨q,a,by rw[←e,b]⟩) c.1
  .rcases Xs.1 f with a|a
   .exact Wi (Xz.2 ⟨p,b,by rw[e,a]⟩) c.1
   .exact Qc h.2 p b q a e
theorem Qj:∀(l:List Oper) (n k:Nat) (o:Oper) (d:Nat),l[k]?=some o->o.dst=some d->(d,n+k)∈rT l n
 | [],_,k,o,d,h,_=>by simp at h
 |x::l,n,k,o,d,h,hd=>by
  cases k with
  |zero=>
   simp at h;subst h;simp only[rT,hd];exact Xg ..
  |succ k=>
   have:=Qj l (n+1) k o d (by simpa using h) hd;have e:n+(k+1)=n+1+k:=by omega
   rw[e];simp only[rT];split
   .exact Xf _ this
   .exact this
theorem Pe{ops:Array Oper}{B:List (List Nat)}{D:List (Nat×Nat)}:∀(l:List Oper) (n:Nat),Hx ops B D l n=true->∀(k:Nat) (o:Oper),l[k]?=some o->∀t∈oj ops o,∀p∈D,p.1=t->
  p.2=n+k\/fm B p.2 (n+k)=true\/fm B (n+k) p.2=true
 | [],_,_,k,o,h=>by simp at h
 |x::l,n,h,k,o,hk=>by
  simp only[Hx,Xj]at h;cases k with
  |zero=>
   simp at hk;subst hk;intro t b p a e;have:=cq.1 (cq.1 h.1 t b) p a;simp only[xU,fg]at this;rcases this with((h1|h1)|h1)|h1
   .rw[e]at h1;simp at h1
   .exact .inl (by simpa using h1)
   .exact .inr (.inl h1)
   .exact .inr (.inr h1)
  |succ k=>
   have:=Pe l (n+1) h.2 k o (by simpa using hk);have e:n+(k+1)=n+1+k:=by omega
   rw[e];exact this
structure RegOk(ops:Array Oper):Prop where
 back:∀(k:Nat) (o:Oper),ops[k]?=some o->∀d∈iu o,d<k
 one:HB ops
 slots:∀(i:Nat) (o:Oper) (t:Nat),ops[i]?=some o->t∈oj ops o->∀j,gM ops j=some t->j=i\/fm (ik ops.toList []) j i=true\/fm (ik ops.toList []) i j=true
theorem LR{ops:Array Oper}{j t:Nat}(h:gM ops j=some t):(t,j)∈rT ops.toList 0:=by
 unfold gM at h;obtain⟨o,b,a⟩:=t8.1 h;have:=Qj ops.toList 0 j o t (by simpa using b) a;rw[dj]at this;exact this
theorem Wru{ops:Array Oper}(h:NR ops (ik ops.toList [])=true):RegOk ops:=by
 simp only[NR,Xj]at h;obtain⟨⟨c,d⟩,f⟩:=h;refine⟨λk o b e g=>?_,λi j t l a=>?_,λi o t b m j a=>?_⟩
 .have:=QE (ops:=ops) ops.toList 0 c k o (by simpa using b) e g;omega
 .have:=Qc d _ (LR l) _ (LR a) rfl;exact Wp (·.2) this
 .have:=Pe ops.toList 0 f i o (by simpa using b) t m _ (LR a) rfl;simpa using this
theorem Qe{ops:Array Oper}:∀(l done:List Nat),oH ops l done=true->done.Nodup->(∀i∈done,i<ops.size)->
  (done++l).Nodup/\(∀i∈done++l,i<ops.size)/\(done++l).length=ops.size/\(∀p i s,l=p++i::s->∀o,ops[i]?=some o->∀d∈iu o,d∈done++p)
 | [],done,h,g,ab=>by
  simp only[oH]at h;exact⟨by simpa using g,by simpa using ab,by simpa using h,λp i s e=>by simp at e⟩
 |x::l,done,h,g,ab=>by
  simp only[oH,Xj,fg]at h;obtain⟨⟨k,f⟩,u⟩:=h;have w:x∉done:=λv=>by rw[(kL x done).2 v]at k;cases k
  cases ho:ops[x]? with
  |none=>rw[ho]at f;cases f
  |some o=>
   rw[ho]at f;have z:x<ops.size:=(xR.1 ho).1;obtain⟨n,q,r,t⟩:=Qe l (x::done) u (cC.2 ⟨w,g⟩) (λi b=>by
    rcases Xs.1 b with rfl|b
    .exact z
    .exact ab i b)
   have j:List.Perm (x::done++l) (done++x::l):=by simpa using(List.perm_middle (a:=x) (l₁:=done) (l₂:=l)).symm
   refine⟨j.nodup_iff.1 n,λi b=>q i (j.mem_iff.2 b),by rw[←j.length_eq];exact r,λp i s e A c d m=>?_⟩;cases p with
   |nil=>
    simp only[mx,List.cons.injEq]at e;obtain⟨rfl,_⟩:=e;rw[ho]at c;injection c with c;subst c;have:=cq.1 f d m;simpa using(kL d done).1 this
   |cons y p=>
    simp only[fG,List.cons.injEq]at e;obtain⟨rfl,e⟩:=e;have:=t p i s e A c d m;simp only[fG,Xs,Xn]at this⊢;rcases this with h|h|h
    .exact .inr (.inl h)
    .exact .inl h
    .exact .inr (.inr h)
theorem Wpz{l:List Nat}{n:Nat}(s:l.Nodup)(o:∀i∈l,i<n)(t:l.length=n):∀i,i<n->i∈l:=by
 intro i r;refine Classical.byContradiction λh=>?_;have p:(i::l).Nodup:=cC.2 ⟨h,s⟩;have q:∀j∈i::l,j∈c7 n:=λj c=>by
  rw[Ik];rcases Xs.1 c with rfl|c
  .exact r
  .exact o j c
 have d:∀(a b:List Nat),a.Nodup->(∀x∈a,x∈b)->a.length<=b.length:=by
  intro a
  induction a with
  |nil=>intro b _ _;simp
  |cons x a ih=>
   intro b f g;rw[cC]at f;have m:x∈b:=g x (Xg ..);have:=ih (b.erase x) f.2 λy k=>(XP (λe=>f.1 (by rw[←e];exact k))).2 (g y (Xf _ k));rw[VV m]at this;have u:=XL m;simp;omega
 have:=d _ _ p q;rw[Oe,Xu]at this;omega
theorem Wpq{ops:Array Oper}{l:List Nat}(h:oH ops l []=true):Order ops l:=by
 obtain⟨a,b,c,f⟩:=Qe l [] h qE (by simp);rw[mx]at a b c;exact⟨a,λi=>⟨Wpz a b c i,b i⟩,λp i s e o j d g=>by simpa using f p i s e o j d g⟩
theorem Qb:∀(l:List Oper) (n i:Nat),i∈sq l n↔n<=i/\∃o,l[i-n]?=some o/\bL o=true
 | [],n,i=>by simp[sq]
 |o::l,n,i=>by
  have g:=Qb l (n+1) i;have j:(n<=i/\∃a,(o::l)[i-n]?=some a/\bL a=true)↔(i=n/\bL o=true)\/(n+1<=i/\∃a,l[i-(n+1)]?=some a/\bL a=true):=by
   by_cases d:i=n
   .subst d;constructor
    .rintro⟨_,a,b,c⟩;rw[qF]at b;injection b with b;subst b;exact .inl ⟨rfl,c⟩
    .rintro(⟨_,h⟩|⟨h,_⟩)
     .exact⟨Xl _,o,by rw[qF];rfl,h⟩
     .omega
   .constructor
    .rintro⟨f,a,b,c⟩;have e:i-n=(i-(n+1))+1:=by omega
     rw[e,VW]at b;exact .inr ⟨by omega,a,b,c⟩
    .rintro(⟨h,_⟩|⟨f,a,b,c⟩)
     .exact Wi h d
     .have e:i-n=(i-(n+1))+1:=by omega
      exact⟨by omega,a,by rw[e,VW];exact b,c⟩
  rw[j,←g];simp only[sq];cases hm:bL o with
  |true=>simp
  |false=>simp
theorem WoC{ops:Array Oper}{i:Nat}:i∈sq ops.toList 0↔bE ops i=true:=by
 rw[Qb];unfold bE;simp only[iw,true_and,mA,Array.getElem?_toList];cases ops[i]? with
 |none=>simp
 |some o=>simp
theorem Sb{B:List (List Nat)}:∀(σ rem:List Nat) (n:Nat),σ.length<=n->σ.Nodup->(∀i,i∈rem↔i∈σ)->(∀p m s,σ=p++m::s->∀a∈m::s,fm B a m=false)->σ∈xN B n rem
 | [],rem,n,d,c,b,hb=>by
  have:rem= []:=V6.2 λi l=>by have:=(b i).1 l;cases this
  subst this;cases n<;>simp[xN]
 |m::s,rem,0,d,_,_,_=>by simp at d
 |m::s,rem,n+1,d,c,b,hb=>by
  have g:m∈rem:=(b m).2 (Xg ..);rw[cC]at c;cases kM:rem with
  |nil=>rw[kM]at g;cases g
  |cons x xs=>
   rw[←kM];have r:xN B (n+1) rem=(rem.filter λm=>rem.all λa=>!fm B a m).flatMap λm=>(xN B n (rem.filter λx=>!eb x m)).map (m:: ·):=by rw[kM];rfl
   rw[r];refine Oi.2 ⟨m,dA.2 ⟨g,cq.2 λa o=>?_⟩,Xz.2 ⟨s,?_,rfl⟩⟩
   .rw[hb [] m s rfl a ((b a).1 o)];rfl
   .refine Sb s _ n (by simpa using d) c.2 (λi=>?_) (λp q t e=>hb (m::p) q t (by rw[e];rfl));rw[dA,b,Xs];constructor
    .rintro⟨f,k⟩;rcases f with rfl|f
     .simp at k
     .exact f
    .intro h;refine⟨.inr h,?_⟩;have j:i≠m:=λe=>c.1 (e▸h);cases cS:eb i m with
     |false=>rfl
     |true=>exact Wi (Nat.eq_of_beq_eq_true cS) j
theorem UV:∀(l m:List Nat),eqN l m=true->l=m
 | [],[],_=>rfl
 | [],_::_,h=>by cases h
 |_::_,[],h=>by cases h
 |i::l,j::m,h=>by
  simp only[eqN,Xj]at h;have:i=j:=by simpa using h.1
  rw[this,UV l m h.2]
theorem Wu5{α:Type}{a b:Option α}{r:α}(h:dg a b=some r):a=some r/\b=some r:=by
 unfold dg at h;split at h
 .rename_i e;exact⟨h,e▸h⟩
 .cases h
section
variable{w0:World}{F:CS}{nt:Slots}{G0:GH}{P:Program}{T:Tab}{Γ:Ctx}{A:List (Nat×An)}{R:Type}{r:R}
theorem SC{ops:Array Oper}{B:List (List Nat)}{st:St}{k:St->Option R}:∀(l:List (List Nat)),EY T Γ A ops B st k l=some r->∀σ∈l,∃L,oH ops L []=true/\L.filter (λi=>ew i σ)=σ/\rdx T Γ A ops B L [] [] st k=some r
 | [],_,σ,hσ=>by cases hσ
 |τ::l,h,σ,hσ=>by
  have one:qb (Hv ops.toList B ops.size [] τ) (λL=>bif oH ops L []&&eqN (L.filter λi=>ew i τ) τ then rdx T Γ A ops B L [] [] st k else none)=some r->∃L,oH ops L []=true/\L.filter (λi=>ew i τ)=τ/\rdx T Γ A ops B L [] [] st k=some r:=λh=>by
   rw[DS]at h;obtain⟨a,h⟩:=iy h;simp only[Xj]at a;exact⟨_,a.1,UV _ _ a.2,h⟩
  cases l with
  |nil=>
   simp only[EY]at h;rcases Xs.1 hσ with rfl|hσ
   .exact one h
   .cases hσ
  |cons x l=>
   have h:dg (qb (Hv ops.toList B ops.size [] τ) (λL=>bif oH ops L []&&eqN (L.filter λi=>ew i τ) τ then rdx T Γ A ops B L [] [] st k else none)) (EY T Γ A ops B st k (x::l))=some r:=h;obtain⟨b,c⟩:=Wu5 h;rcases Xs.1 hσ with rfl|hσ
   .exact one b
   .exact SC (x::l) c σ hσ
theorem Wv6(hM:P.follows .mixedOrders=true)(hT:aO P T)(hΓ:gi P Γ){id:Nat}{ops:Array Oper}(C:∀o∈ops,∀d,o.dst=some d->nt.Ok d){k:St->Option R}{Q:Exit->Act->World->Prop}(hK:na w0 F nt G0 k r (Q .normal)):
  na w0 F nt G0 (λst=>NS T Γ A ops st k) r ((Code.region id ops true).wp P Q):=λst a w G ν q h=>by
 simp only[NS,RF]at h;obtain⟨qc,h⟩:=iy h;have B:=Wru qc;refine wp_region_draw λt=>?_;rw[hM];have f:Order ops (Region.schedule true ops t):=Wkt B.back;generalize Region.schedule true ops t=l at f;have hσ:l.filter (bE ops)∈xN (ik ops.toList []) ops.size (sq ops.toList 0):=by
  refine Sb _ _ _ ?_ (f.nodup.filter _) (λi=>?_) (λp m s e n jc=>?_)
  .refine jR (E7 _ _) ?_;have V:l.length<=(c7 ops.size).length:=by
    have S:∀(a b:List Nat),a.Nodup->(∀x∈a,x∈b)->a.length<=b.length:=by
     intro a
     induction a with
     |nil=>intro b _ _;simp
     |cons x a ih=>
      intro b U W;rw[cC]at U;have tA:x∈b:=W x (Xg ..);have:=ih (b.erase x) U.2 λy hy=>(XP (λe=>U.1 (by rw[←e];exact hy))).2 (W y (Xf _ hy));rw[VV tA]at this;have dC:=XL tA;simp;omega
    exact S _ _ f.nodup λx Z=>Ik.2 ((f.all x).2 Z)
   rw[Oe]at V;exact V
  .rw[WoC,dA];constructor
   .intro h;refine⟨(f.all i).1 ?_,h⟩;unfold bE at h;split at h
    .rename_i o J;exact(xR.1 J).1
    .cases h
   .exactλh=>h.2
  .cases hb:fm (ik ops.toList []) n m with
   |false=>rfl
   |true=>
    exfalso;have jd:m∈l:=(dA.1 (by rw[e];simp:m∈l.filter (bE ops))).1;obtain⟨u,v,M⟩:=Im jd;have I:n∈u++ [m]:=f.bef (p:=u++ [m]) (s:=v) (by rw[M];simp) hb (by simp);have y9:bE ops m=true:=(dA.1 (by rw[e];simp:m∈l.filter (bE ops))).2;have K:=f.nodup.filter (bE ops);have e2:l.filter (bE ops)=u.filter (bE ops)++m::v.filter (bE ops):=by rw[M,BU,gy,Wb y9]
    have Bg:p=u.filter (bE ops):=by
     refine Lr (b:=s) (d:=v.filter (bE ops)) (x:=m) ?_ ?_
     .rw[←e];exact K
     .rw[←e,e2]
    rcases Xs.1 jc with rfl|hm's
    .
     have:=f.bef (p:=u++ [n]) (s:=v) (by rw[M];simp) hb (by simp);have bN:EH ops (λj=>j∈u\/(j=n/\False)):=λi o J D d C=>by
      rcases D with D|⟨_,O⟩
      .exact .inl (f.closed (p:=u) (s:=n::v) M i o J D d C)
      .exact O.elim
     have z:∀(j i:Nat),fm (ik ops.toList []) j i=true->j<i:=λj i p8=>by
      have qd:EH ops (λx=>x<i\/(x=i)):=λx o J Z d C=>by
       have:d<x:=B.back x o J d C;omega
      refine Classical.byContradiction λhn=>?_;have ab:∀(l:List Oper) (c:List (List Nat)),(∀(k:Nat) (o:Oper),l[k]?=some o->ops[c.length+k]?=some o)->(∀i,∀j∈c.getD i [],j<i)->∀i,∀j∈(ik l c).getD i [],j<i:=by
       intro l
       induction l with
       |nil=>intro c _ h;exact h
       |cons o l ih=>
        intro c f h;refine ih _ (λk o' E=>?_) (λi j g=>?_)
        .have:=f (k+1) o' (by simpa using E);rw[Xx];have e:c.length+(k+1)=c.length+ [qo c (iu o) []].length+k:=by simp;omega
         rw[←e];exact this
        .rw[Xq,hG]at g;split at g
         .exact h i j (by rw[Xq];exact g)
         .by_cases he:i=c.length
          .subst he;simp only[qF,N6,V0]at g;rcases(Me _ _).1 g with⟨k,E,N⟩|g
           .have rD:k<c.length:=B.back c.length o (f 0 o (by simp)) k E;rcases N with rfl|N
            .exact rD
            .have:=h k j N;omega
           .cases g
          .have:[qo c (iu o) []][i-c.length]?=none:=ju (by simp;omega);rw[this]at g;cases g
      exact hn (ab ops.toList [] (λk o E=>by simpa using E) (λi j g=>by simp at g) i j ((kL _ _).1 p8))
     have:=z n n hb;omega
    .
     have H:n∈p:=by
      rw[Bg];rcases Xn.1 I with h|h
      .refine dA.2 ⟨h,?_⟩;exact(dA.1 (by rw[e];simp[hm's]:n∈l.filter (bE ops))).2
      .simp at h;subst h;rw[e]at K;have:=(cC.1 (d9.1 K).2.1).1;exact Wi hm's this
     rw[e]at K;exact(d9.1 K).2.2 n H n (Xf _ hm's) rfl
 obtain⟨L,g1,g2,g3⟩:=SC _ h _ hσ;have X:=Wpq g1;obtain⟨rs,ai,q1,q2,q3,q4,_,_⟩:=MD _ _ _ _ g3;have O:l.filter (bE ops)=L.filter (bE ops):=by
  rw[←g2];refine List.filter_congr λi D=>?_;cases Y:bE ops i with
  |true=>exact(kL _ _).2 (dA.2 ⟨(f.all i).1 ((X.all i).2 D),Y⟩)
  |false=>
   cases he:ew i (l.filter (bE ops))with
   |false=>rfl
   |true=>
    have:=(dA.1 ((kL _ _).1 he)).2;rw[Y]at this;cases this
 have bn:Rel w0 F nt G0 G ν st a {w with drawn:=w.drawn+1}:=⟨q.defers,q.ntm,q.par,q.env,?_,q.gx⟩
 .exact WtI hT hΓ C f X B.one B.slots O q1 q2 q4 (λa w G ν q=>hK ai a w G ν q q3) bn
 .exact q.h.drew
end
section
variable{w0:World}{F:CS}{nt:Slots}{G0:GH}{P:Program}{T:Tab}{Γ:Ctx}{A:List (Nat×An)}{R:Type}{r:R}
theorem xI(t:P.follows .mixedOrders=true)(l:aO P T)(q:gi P Γ){n:Nat}{s:List Nat}(u:nt.n=n)(z:∀p∈nt.kept,p.1∈s){g:Nat->List Ghost}{N:Nat}:∀(c:Code),kZ n s c=true->∀{k:Ex->St->Option R} {Q:Exit->Act->World->Prop},
  (∀e,na w0 F nt G0 (k e) r (Q e.to))->na w0 F nt G0 (λst=>sx T Γ g N c st k) r (c.wp P Q)
 | .skip,_,k,Q,hK=>λst a w G ν f h=>wp_skip (hK .normal st a w G ν f h)
 | .exit id,_,k,Q,hK=>λst a w G ν f h=>wp_exit (hK (.exit id) st a w G ν f h)
 | .ret,_,k,Q,hK=>λst a w G ν f h=>wp_ret (hK .ret st a w G ν f h)
 | .region id ops draw,j,k,Q,hK=>λst a w G ν f h=>by
  have I:na w0 F nt G0 (λai=>match lL (g id) ai with|some (c,cX)=>bif c then k .normal cX else none|none=>none) r (Q .normal):=λai H w' G' K A i=>by
   simp only at i;split at i
   .rename_i c cX hg;obtain⟨rfl,i⟩:=iy i;obtain⟨E,L,B⟩:=DX _ _ _ _ _ A hg;exact hK .normal _ _ _ _ _ B i
   .cases i
  have J:∀o∈ops,∀d,o.dst=some d->nt.Ok d:=λo C=>Wpk u z (cq.1 j o (by simpa using C));cases draw with
  |true=>exact Wv6 t l q J I st a w G ν f h
  |false=>exact wp_region_list (UK l q ops.toList (λo C=>J o (by simpa using C)) I st a w G ν f h)
 | .seq x y,j,k,Q,hK=>λst a w G ν f h=>by
  simp only[kZ,Xj]at j;refine wp_seq (xI t l q u z x j.1 (Q:=Exit.then (y.wp P Q) Q) (λe=>?_) st a w G ν f h);cases e with
  |normal=>exact xI t l q u z y j.2 hK
  |exit id=>exact hK (.exit id)
  |ret=>exact hK .ret
 | .cond c x y,j,k,Q,hK=>λst a w G ν f h=>by
  simp only[kZ,Xj]at j;simp only[sx]at h;split at h
  .rename_i b hb;cases hv:ev st c with
   |none=>simp[hv]at hb
   |some v=>
    simp only[hv,Xd]at hb;have M:=Np v _ b (WU f c v hv) hb;refine wp_cond M ?_;cases b with
    |true=>exact xI t l q u z x j.1 hK st a w G ν f h
    |false=>exact xI t l q u z y j.2 hK st a w G ν f h
  .cases h
 | .block id c,j,k,Q,hK=>λst a w G ν f h=>by
  simp only[kZ]at j;refine wp_block (xI t l q u z c j (Q:=Exit.inBlock id Q) (λe=>?_) st a w G ν f h);cases e with
  |normal=>exact hK .normal
  |exit cz=>
   intro ai H w' G' K A i;simp only[Ex.to,Exit.inBlock];split
   .rename_i he;simp only[he,ep]at i;exact hK .normal _ _ _ _ _ A i
   .rename_i he;simp only[he,gH]at i;exact hK (.exit cz) _ _ _ _ _ A i
  |ret=>exact hK .ret
 | .loop c,j,k,Q,hK=>λst a w G ν f h=>by
  simp only[kZ]at j;refine wp_loop_rounds N ?_;have D:∀(m:Nat),na w0 F nt G0 (λst=>xH (By (g (xg c)) λst k=>sx T Γ g N c st k) m st k) r (Code.rounds P c Q m):=by
   intro m
   induction m with
   |zero=>intro st a w G ν f h;cases h
   |succ m ih=>
    intro st a w G ν f h;rw[rounds_succ];have h:sx T Γ g N c st (λe ai=>match e with
     | .normal=>match lL (g (xg c)) ai with
      |some (b,cX)=>bif b then xH (By (g (xg c)) λst k=>sx T Γ g N c st k) m cX k else none
      |none=>none
     | .exit id=>k (.exit id) ai
     | .ret=>k .ret ai)=some r:=by
     rw[←h];simp only[xH,By];congr 1
    refine xI t l q u z c j (Q:=Exit.then (Code.rounds P c Q m) Q) (λe=>?_) st a w G ν f h;cases e with
    |normal=>
     intro ai H w' G' K A i;simp only at i;split at i
     .rename_i b cX hg;obtain⟨rfl,i⟩:=iy i;obtain⟨E,L,B⟩:=DX _ _ _ _ _ A hg;exact ih _ _ _ _ _ B i
     .cases i
    |exit id=>exact hK (.exit id)
    |ret=>exact hK .ret
  have h:(match lL (g (xg c)) st with
   |some (b,ai)=>bif b then xH (By (g (xg c)) λst k=>sx T Γ g N c st k) N ai k else none
   |none=>none)=some r:=h
  split at h
  .rename_i b ai hg;obtain⟨rfl,h⟩:=iy h;obtain⟨E,L,B⟩:=DX _ _ _ _ _ f hg;exact D N _ _ _ _ _ B h
  .cases h
 | .scope ..,_,k,Q,hK=>λst a w G ν f h=>by cases h
 | .label ..,_,k,Q,hK=>λst a w G ν f h=>by cases h
 | .goto ..,_,k,Q,hK=>λst a w G ν f h=>by cases h
 | .rangeFunc ..,_,k,Q,hK=>λst a w G ν f h=>by cases h
 | .refuse ..,_,k,Q,hK=>λst a w G ν f h=>by cases h
end
section
variable{w0:World}{F:CS}{nt:Slots}{G0 G G':GH}{ν:Nat->Nu}{φ:Nat->CS}{objs:ad}{nx am:Nat}{st ai:St}{a:Act}{w w':World}{P:Program}{T:Tab}{Γ:Ctx}
theorem PJ:∀(xs:List AVal) (j i:Nat),Wt (Bn j xs) i=if j<=i then xs[i-j]? else none
 | [],j,i=>by simp[Bn,Wt]
 |x::xs,j,i=>by
  simp only[Bn];rw[WW,PJ xs (j+1) i];by_cases h:j=i
  .subst h;simp
  .by_cases h2:j<=i
   .have h3:j+1<=i:=by omega
    rw[Wa h,Wb h3,Wb h2,show i-j=(i-(j+1))+1 by omega];rfl
   .rw[Wa h,Wa h2,Wa (by omega)]
theorem QF:∀(l:List Nat),ET (fS l)=l
 | []=>rfl
 |i::l=>by
  show i::ET (fS l)=i::l;rw[QF l]
theorem PX:∀(b:List PTy) (d:c6 b) (objs:ad) (nx n:Nat),BA b n=true->∃a,a.length=n/\(WZ b d objs nx).1.take n=fS a
 |_,_,_,_,0,_=>⟨[],rfl,rfl⟩
 | [],_,_,_,_+1,h=>by cases h
 | .v _ _::_,_,_,_,_+1,h=>by cases h
 | .mut _::_,_,_,_,_+1,h=>by cases h
 | .clos _ _::_,_,_,_,_+1,h=>by cases h
 | .kv _ _::_,_,_,_,_+1,h=>by cases h
 | .rp _::_,_,_,_,_+1,h=>by cases h
 | .vj _::_,_,_,_,_+1,h=>by cases h
 | .boxal _ _::_,_,_,_,_+1,h=>by cases h
 | .box t::b,d,objs,nx,n+1,h=>by
  obtain⟨a,c,e⟩:=PX b d.2 ((nx,.box (unfold t d.1 (nx+1)).1)::((unfold t d.1 (nx+1)).2.1++objs)) (unfold t d.1 (nx+1)).2.2 n h;refine⟨nx::a,by simp[c],?_⟩;simp only[WZ,List.take_succ_cons,e];rfl
theorem rb:∀(k:List PTy) (d:c6 k) (vs:List Value) (A:List Pc) (L:List Nu) (objs:ad) (nx am:Nat),ic k=true->iU G w k d vs A L->At ν φ nx A->nx+A.length<=am->
  (WZ k d objs nx).2.2=nx+A.length/\
  (∀i q,Wt (WZ k d objs nx).2.1 i=some q->(nx<=i/\i<nx+A.length/\fc G ν am w i (φ i) q)\/Wt objs i=some q)/\
  (WZ k d objs nx).1.length=vs.length/\∀(j:Nat) (x:AVal) (v:Value),(WZ k d objs nx).1[j]?=some x->vs[j]?=some v->AValRel G ν am x v
 | [],d,vs,A,L,objs,nx,am,_,⟨l,y,J⟩,_,_=>by
  subst l y;exact⟨rfl,λi q h=>.inr h,rfl,λj x v h=>by simp[WZ]at h⟩
 | .v t agg::k,d,vs,A,L,objs,nx,am,z,⟨v,B,n1,m,l,y,J,K⟩,p,hx=>by
  subst y;obtain⟨Q,Z⟩:=Nd J;have N:=iQ _ _ _ _ Z;have M:(n1++m).length=t.owns+m.length:=by rw[Xx,N]
  obtain⟨_,V⟩:=kP t d.1 nx Q n1 Z p.left;obtain⟨D,E,F,C⟩:=rb k d.2 B m L ((unfold t d.1 nx).2.1++objs) (nx+t.owns) am z K (p.right N) (by omega);simp only[WZ,kK];refine⟨by rw[D,M];omega,λi q R=>?_,by rw[l];simp[F],λj x u c a=>?_⟩
  .rcases E i q R with⟨H,O,r⟩|g
   .exact .inl ⟨by omega,by omega,r⟩
   .rcases WS g with g|g
    .obtain⟨H,O,e,xs,rfl,r⟩:=V i q g;exact .inl ⟨H,by omega,r⟩
    .exact .inr g
  .rw[l]at a;cases j with
   |zero=>simp at c a;subst c a;exact MB J p.left (by omega)
   |succ j=>exact C j x u (by simpa using c) (by simpa using a)
 | .kv t agg::k,d,vs,A,L,objs,nx,am,z,⟨v,B,n1,m,S,l,y,_,J,K⟩,p,hx=>by
  subst y;obtain⟨Q,Z⟩:=Nd J;have N:=iQ _ _ _ _ Z;have M:(n1++m).length=t.owns+m.length:=by rw[Xx,N]
  obtain⟨_,V⟩:=kP t d.1 nx Q n1 Z p.left;obtain⟨D,E,F,C⟩:=rb k d.2 B m S ((unfold t d.1 nx).2.1++objs) (nx+t.owns) am z K (p.right N) (by omega);simp only[WZ,kK];refine⟨by rw[D,M];omega,λi q R=>?_,by rw[l];simp[F],λj x u c a=>?_⟩
  .rcases E i q R with⟨H,O,r⟩|g
   .exact .inl ⟨by omega,by omega,r⟩
   .rcases WS g with g|g
    .obtain⟨H,O,e,xs,rfl,r⟩:=V i q g;exact .inl ⟨H,by omega,r⟩
    .exact .inr g
  .rw[l]at a;cases j with
   |zero=>simp at c a;subst c a;exact MB J p.left (by omega)
   |succ j=>exact C j x u (by simpa using c) (by simpa using a)
 | .box t::k,d,vs,A,L,objs,nx,am,z,⟨b,o,B,n1,m,S,l,y,J,⟨Q,af,aG,Y⟩,h6⟩,p,hx=>by
  subst y;have N:=iQ _ _ _ _ Y;have M:((⟨d4 b o,rng b o t.size⟩:Pc)::(n1++m)).length=1+t.owns+m.length:=by rw[Xu,Xx,N];omega
  obtain⟨f,P⟩:ν nx=d4 b o/\φ nx=rng b o t.size:=by have:=p 0 _ rfl;simpa using this
  have I:At ν φ (nx+1) (n1++m):=p.right (n1:=[⟨d4 b o,rng b o t.size⟩]) rfl;obtain⟨c1,V⟩:=kP t d.1 (nx+1) Q n1 Y I.left;have X:=vT t d.1 (nx+1);obtain⟨D,E,F,C⟩:=rb k d.2 B m S ((nx,.box (unfold t d.1 (nx+1)).1)::((unfold t d.1 (nx+1)).2.1++objs)) (nx+1+t.owns) am z h6 (I.right N) (by omega);simp only[WZ,kK];refine⟨by rw[D,M];omega,λi q R=>?_,by rw[l];simp[F],λj x u c a=>?_⟩
  .rcases E i q R with⟨H,O,r⟩|g
   .exact .inl ⟨by omega,by omega,r⟩
   .rw[WW]at g;split at g
    .rename_i e;subst e;injection g with g;subst g;exact .inl ⟨Xl _,by omega,b,Q,by rw[f];rfl,by rw[f,X];exact af,by rw[f];exact aG,c1 am (by omega),by rw[f,X,P];exactλ_ _ hh=>hh⟩
    .rcases WS g with g|g
     .obtain⟨H,O,e,xs,rfl,r⟩:=V i q g;exact .inl ⟨by omega,by omega,r⟩
     .exact .inr g
  .rw[l]at a;cases j with
   |zero=>
    simp at c a;subst c a;exact⟨⟨by omega,b,by rw[f];rfl,by rw[f];rfl⟩,rfl⟩
   |succ j=>exact C j x u (by simpa using c) (by simpa using a)
 | .vj _::_,_,_,_,_,_,_,_,_,h,_,_=>h.elim
 | .boxal t lf::k,d,vs,A,L,objs,nx,am,z,⟨b,o,b',W,B,n1,m,S,l,y,J,⟨Q,af,aG,Y⟩,K,h5,h7,h6⟩,p,hx=>by
  subst y;have N:=iQ _ _ _ _ Y;have M:((⟨d4 b o,rng b o t.size⟩:Pc)::(n1++m)).length=1+t.owns+m.length:=by rw[Xu,Xx,N];omega
  obtain⟨f,P⟩:ν nx=d4 b o/\φ nx=rng b o t.size:=by have:=p 0 _ rfl;simpa using this
  have I:At ν φ (nx+1) (n1++m):=p.right (n1:=[⟨d4 b o,rng b o t.size⟩]) rfl;obtain⟨c1,V⟩:=kP t d.1 (nx+1) Q n1 Y I.left;have X:=vT t d.1 (nx+1);have tD:lf<n1.length:=(fe.1 K).1;have U:ν (nx+1+lf)=W.nu:=(I.left lf W K).1;obtain⟨D,E,F,C⟩:=rb k d.2.2 B m S ((nx,.box (unfold t d.1 (nx+1)).1)::((unfold t d.1 (nx+1)).2.1++objs)) (nx+1+t.owns) am z h6 (I.right N) (by omega);simp only[WZ,kK];refine⟨by rw[D,M];omega,λi q R=>?_,by rw[l];simp[F],λj x u c a=>?_⟩
  .rcases E i q R with⟨H,O,r⟩|g
   .exact .inl ⟨by omega,by omega,r⟩
   .rw[WW]at g;split at g
    .rename_i e;subst e;injection g with g;subst g;exact .inl ⟨Xl _,by omega,b,Q,by rw[f];rfl,by rw[f,X];exact af,by rw[f];exact aG,c1 am (by omega),by rw[f,X,P];exactλ_ _ hh=>hh⟩
    .rcases WS g with g|g
     .obtain⟨H,O,e,xs,rfl,r⟩:=V i q g;exact .inl ⟨by omega,by omega,r⟩
     .exact .inr g
  .rw[l]at a
   match j with
   |0=>
    simp at c a;subst c a;exact⟨⟨by omega,b,by rw[f];rfl,by rw[f];rfl⟩,rfl⟩
   |1=>
    simp at c a;subst c a;exact⟨⟨by omega,by rw[U];exact h7,b',by rw[U];exact h5,by rw[U];rfl⟩,rfl⟩
   |j+2=>exact C j x u (by simpa using c) (by simpa using a)
 | .rp t::k,d,vs,A,L,objs,nx,am,z,⟨b,o,Q,B,l,y,J,K⟩,p,hx=>by
  obtain⟨D,E,F,C⟩:=rb k d.2 B A L objs nx am z K p hx;simp only[WZ];refine⟨D,E,by rw[l];simp[F],λj x u c a=>?_⟩;rw[l]at a;cases j with
  |zero=>
   simp at c a;subst c a;exact⟨⟨b,o,Q,by rw[eL],y,J⟩,rfl⟩
  |succ j=>exact C j x u (by simpa using c) (by simpa using a)
 | .mut e::k,d,vs,A,L,objs,nx,am,z,⟨W,B,m,S,l,y,J,K,h5⟩,p,hx=>by
  subst y;have M:(W::m).length=1+m.length:=by rw[Xu];omega
  obtain⟨f,P⟩:ν nx=W.nu/\φ nx=W.fp:=by have:=p 0 _ rfl;simpa using this
  obtain⟨D,E,F,C⟩:=rb k d.2 B m S ((nx,.arr e d.1)::objs) (nx+1) am z h5 (p.right (n1:=[W]) rfl) (by omega);simp only[WZ];refine⟨by rw[D,M];omega,λi q R=>?_,by rw[l];simp[F],λj x u c a=>?_⟩
  .rcases E i q R with⟨H,O,r⟩|g
   .exact .inl ⟨by omega,by omega,r⟩
   .rw[WW]at g;split at g
    .rename_i e;subst e;injection g with g;subst g;refine .inl ⟨Xl _,by omega,?_⟩;show aF w (WF G w _) _ (ν nx) d.1 (φ nx);rw[f,P];exact K
    .exact .inr g
  .rw[l]at a;cases j with
   |zero=>
    simp at c a;subst c a;exact⟨⟨by omega,by rw[f]⟩,Em _⟩
   |succ j=>exact C j x u (by simpa using c) (by simpa using a)
 | .clos g n::k,d,vs,A,L,objs,nx,am,z,⟨T,B,l,y,J,K⟩,p,hx=>by
  simp only[ic,Xj]at z;obtain⟨D,E,F,C⟩:=rb k d (T++B) A L objs nx am z.2 K p hx;obtain⟨ids,H,O⟩:=PX k d objs nx n z.1;simp only[WZ];rw[O,QF];have M:(WZ k d objs nx).1.length=n+B.length:=by rw[F,Xx,y]
  have qe:∀(j i:Nat),ids[j]?=some i->(WZ k d objs nx).1[j]?=some (AVal.s (.one (.ptr i 0))):=λj i c=>by
   have ab:j<n:=by rw[←H];exact(fe.1 c).1
   have:((WZ k d objs nx).1.take n)[j]?=some (.s (.one (.ptr i 0))):=by rw[O];simp[fS,c]
   rw[List.getElem?_take,Wb ab]at this;exact this
  refine⟨D,E,by rw[l];simp[M],λj x u c a=>?_⟩;rw[l]at a;cases j with
  |zero=>
   simp at c a;subst c a;refine⟨⟨T,rfl,by rw[y,H],λj i u c a=>?_⟩,rfl⟩;have ab:j<T.length:=(fe.1 a).1;obtain⟨⟨q1,q2⟩,q3⟩:=C j _ u (qe j i c) (by rw[List.getElem?_append_left ab];exact a);exact⟨q1,q3,q2⟩
  |succ j=>
   have bw:(WZ k d objs nx).1[n+j]?=some x:=by
    rw[←List.getElem?_drop];simpa using c
   exact C (n+j) x u bw (by rw[xQ (by omega),y,tO];simpa using a)
theorem rf:∀(a:List PTy) (d:c6 a) (vs:List Value) (j:List Pc) (i:List Nu),iU G w a d vs j i->vs.length<=fX a
 | [],d,vs,j,i,⟨c,_,_⟩=>by rw[c];exact Xl _
 | .v t agg::a,d,vs,j,i,⟨v,k,r,p,c,l,m,f⟩=>by rw[c,Xu];have:=rf a _ _ _ _ f;simp only[fX];omega
 | .box t::a,d,vs,j,i,⟨b,o,k,r,p,q,c,l,m,f,u⟩=>by rw[c,Xu];have:=rf a _ _ _ _ u;simp only[fX];omega
 | .mut e::a,d,vs,j,i,⟨z,k,p,q,c,l,m,f,s⟩=>by rw[c,Xu];have:=rf a _ _ _ _ s;simp only[fX];omega
 | .clos g n::a,d,vs,j,i,⟨x,k,c,l,m,f⟩=>by rw[c,Xu];have:=rf a _ _ _ _ f;simp at this;simp only[fX];omega
 | .kv t agg::a,d,vs,j,i,⟨v,k,r,p,q,c,l,C,m,f⟩=>by rw[c,Xu];have:=rf a _ _ _ _ f;simp only[fX];omega
 | .rp t::a,d,vs,j,i,⟨b,o,D,k,c,l,m,f⟩=>by rw[c,Xu];have:=rf a _ _ _ _ f;simp only[fX];omega
 | .vj _::_,_,_,_,_,h=>h.elim
 | .boxal t lf::a,d,vs,j,i,⟨b,o,A,z,k,r,p,q,c,l,m,f,s,u,B,y⟩=>by rw[c,Xu,Xu];have:=rf a _ _ _ _ y;simp only[fX];omega
def xE(i:Nat)(vs:List Value):List (Nat×Value):=match vs with
 |v::_=>[(i,v)]
 | []=>[]
def WO:List PTy->Nat->Nat->List Value->List (Nat×Value)
 | [],_,_,_=>[]
 |_::ps,i,k+1,vs=>WO ps i k vs
 | .v _ _::ps,i,0,vs=>WO ps (i+1) 0 vs.tail
 | .box _::ps,i,0,vs=>xE i vs++WO ps (i+1) 0 vs.tail
 | .mut _::ps,i,0,vs=>xE i vs++WO ps (i+1) 0 vs.tail
 | .clos _ n::ps,i,0,vs=>xE i vs++WO ps (i+1) n vs.tail
 | .kv _ _::ps,i,0,vs=>xE i vs++WO ps (i+1) 0 vs.tail
 | .rp _::ps,i,0,vs=>WO ps (i+1) 0 vs.tail
 | .vj _::ps,i,0,vs=>WO ps (i+1) 0 vs.tail
 | .boxal _ _::ps,i,0,vs=>xE i vs++WO ps (i+2) 0 vs.tail.tail
theorem nX{i:Nat}{vs:List Value}{p:Nat×Value}(h:p∈xE i vs):p.1=i/\vs[0]?=some p.2:=by
 unfold xE at h;split at h
 .simp at h;subst h;exact⟨rfl,rfl⟩
 .cases h
theorem W5:∀(a:List PTy) (i k:Nat) (vs:List Value),∀p∈WO a i k vs,p.1∈lN a i k
 | [],_,_,_,p,h=>by simp[WO]at h
 | .v _ _::a,i,k+1,vs,p,h=>W5 a i k vs p h
 | .box _::a,i,k+1,vs,p,h=>W5 a i k vs p h
 | .mut _::a,i,k+1,vs,p,h=>W5 a i k vs p h
 | .clos _ _::a,i,k+1,vs,p,h=>W5 a i k vs p h
 | .v _ _::a,i,0,vs,p,h=>W5 a (i+1) 0 vs.tail p h
 | .box _::a,i,0,vs,p,h=>by
  simp only[WO]at h;rcases Xn.1 h with h|h
  .rw[(nX h).1];exact Xg ..
  .exact Xf _ (W5 a (i+1) 0 vs.tail p h)
 | .mut _::a,i,0,vs,p,h=>by
  simp only[WO]at h;rcases Xn.1 h with h|h
  .rw[(nX h).1];exact Xg ..
  .exact Xf _ (W5 a (i+1) 0 vs.tail p h)
 | .clos _ n::a,i,0,vs,p,h=>by
  simp only[WO]at h;rcases Xn.1 h with h|h
  .rw[(nX h).1];exact Xg ..
  .exact Xf _ (W5 a (i+1) n vs.tail p h)
 | .kv _ _::a,i,k+1,vs,p,h=>W5 a i k vs p h
 | .kv _ _::a,i,0,vs,p,h=>by
  simp only[WO]at h;rcases Xn.1 h with h|h
  .rw[(nX h).1];exact Xg ..
  .exact Xf _ (W5 a (i+1) 0 vs.tail p h)
 | .rp _::a,i,k+1,vs,p,h=>W5 a i k vs p h
 | .rp _::a,i,0,vs,p,h=>W5 a (i+1) 0 vs.tail p h
 | .vj _::a,i,k+1,vs,p,h=>W5 a i k vs p h
 | .vj _::a,i,0,vs,p,h=>W5 a (i+1) 0 vs.tail p h
 | .boxal _ _::a,i,k+1,vs,p,h=>W5 a i k vs p h
 | .boxal _ _::a,i,0,vs,p,h=>by
  simp only[WO]at h;rcases Xn.1 h with h|h
  .rw[(nX h).1];exact Xg ..
  .exact Xf _ (W5 a (i+2) 0 vs.tail.tail p h)
theorem WY:∀(a:List PTy) (i k:Nat) (vs:List Value),∀p∈WO a i k vs,i<=p.1/\vs[p.1-i]?=some p.2
 | [],_,_,_,p,h=>by simp[WO]at h
 | .v _ _::a,i,k+1,vs,p,h=>WY a i k vs p h
 | .box _::a,i,k+1,vs,p,h=>WY a i k vs p h
 | .mut _::a,i,k+1,vs,p,h=>WY a i k vs p h
 | .clos _ _::a,i,k+1,vs,p,h=>WY a i k vs p h
 | .v _ _::a,i,0,vs,p,h=>by
  obtain⟨c,b⟩:=WY a (i+1) 0 vs.tail p h;refine⟨by omega,?_⟩;rw[show p.1-i=(p.1-(i+1))+1 by omega,←qD];exact b
 | .box _::a,i,0,vs,p,h=>by
  simp only[WO]at h;rcases Xn.1 h with h|h
  .obtain⟨c,b⟩:=nX h;rw[c];exact⟨Xl _,by rw[qF];exact b⟩
  .obtain⟨c,b⟩:=WY a (i+1) 0 vs.tail p h;refine⟨by omega,?_⟩;rw[show p.1-i=(p.1-(i+1))+1 by omega,←qD];exact b
 | .mut _::a,i,0,vs,p,h=>by
  simp only[WO]at h;rcases Xn.1 h with h|h
  .obtain⟨c,b⟩:=nX h;rw[c];exact⟨Xl _,by rw[qF];exact b⟩
  .obtain⟨c,b⟩:=WY a (i+1) 0 vs.tail p h;refine⟨by omega,?_⟩;rw[show p.1-i=(p.1-(i+1))+1 by omega,←qD];exact b
 | .clos _ n::a,i,0,vs,p,h=>by
  simp only[WO]at h;rcases Xn.1 h with h|h
  .obtain⟨c,b⟩:=nX h;rw[c];exact⟨Xl _,by rw[qF];exact b⟩
  .obtain⟨c,b⟩:=WY a (i+1) n vs.tail p h;refine⟨by omega,?_⟩;rw[show p.1-i=(p.1-(i+1))+1 by omega,←qD];exact b
 | .kv _ _::a,i,k+1,vs,p,h=>WY a i k vs p h
 | .kv _ _::a,i,0,vs,p,h=>by
  simp only[WO]at h;rcases Xn.1 h with h|h
  .obtain⟨c,b⟩:=nX h;rw[c];exact⟨Xl _,by rw[qF];exact b⟩
  .obtain⟨c,b⟩:=WY a (i+1) 0 vs.tail p h;refine⟨by omega,?_⟩;rw[show p.1-i=(p.1-(i+1))+1 by omega,←qD];exact b
 | .rp _::a,i,k+1,vs,p,h=>WY a i k vs p h
 | .rp _::a,i,0,vs,p,h=>by
  obtain⟨c,b⟩:=WY a (i+1) 0 vs.tail p h;refine⟨by omega,?_⟩;rw[show p.1-i=(p.1-(i+1))+1 by omega,←qD];exact b
 | .vj _::a,i,k+1,vs,p,h=>WY a i k vs p h
 | .vj _::a,i,0,vs,p,h=>by
  obtain⟨c,b⟩:=WY a (i+1) 0 vs.tail p h;refine⟨by omega,?_⟩;rw[show p.1-i=(p.1-(i+1))+1 by omega,←qD];exact b
 | .boxal _ _::a,i,k+1,vs,p,h=>WY a i k vs p h
 | .boxal _ _::a,i,0,vs,p,h=>by
  simp only[WO]at h;rcases Xn.1 h with h|h
  .obtain⟨c,b⟩:=nX h;rw[c];exact⟨Xl _,by rw[qF];exact b⟩
  .obtain⟨c,b⟩:=WY a (i+2) 0 vs.tail.tail p h;refine⟨by omega,?_⟩;rw[show p.1-i=(p.1-(i+2))+1+1 by omega,←qD,←qD];exact b
def Ez(a:Array Value):ResultVar->Sem Value
 | .tmp t=>pure (a.getD t undef)
 | .cell b t=>do loadVar t (←asAddr (a.getD b undef))
theorem MV(m:aO P T)(f:Rel w0 F nt G0 G ν st a w):∀(l:List ResultVar) (xs:List AVal),mU T st l=some xs->
  ∃e:List Value,(l.mapM (Ez a.tmps)).run P w= .ok e w/\e.length=xs.length/\
   ∀(j:Nat) (x:AVal) (v:Value),xs[j]?=some x->e[j]?=some v->AValRel G ν st.nx x v
 | [],xs,h=>by
  simp only[mU]at h;injection h with h;subst h;exact⟨[],by simp,rfl,λj x v d=>by simp at d⟩
 | .tmp t::l,xs,h=>by
  simp only[mU]at h;split at h
  .rename_i x vv h1 h2;injection h with h;subst h;obtain⟨e,g,i,k⟩:=MV m f l vv h2;obtain⟨v,o,r⟩:=f.env t x h1;refine⟨v::e,?_,by simp[i],λj y u d c=>?_⟩
   .have cR:a.tmps.getD t undef=v:=by simp[E4,o]
    simp only[Fi,Sem.run_bind,Ez,Sem.run_pure,Result.andThen_ok,g,cR]
   .cases j with
    |zero=>simp at d c;subst d c;exact r
    |succ j=>exact k j y u (by simpa using d) (by simpa using c)
  .cases h
 | .cell b t::l,xs,h=>by
  simp only[mU]at h;split at h
  .rename_i x vv h1 h2;injection h with h;subst h;obtain⟨e,g,i,k⟩:=MV m f l vv h2;cases hb:Wt st.env b with
   |none=>simp[hb]at h1
   |some y=>
    simp only[hb,Xd]at h1;obtain⟨v,o,r⟩:=f.env b y hb;obtain⟨u,c,s⟩:=Pj m f.h r h1;refine⟨u::e,?_,by simp[i],λj z q d n=>?_⟩
    .have cR:a.tmps.getD b undef=v:=by simp[E4,o]
     unfold Instr.loadAt at c;rw[Sem.run_bind]at c;obtain⟨p,rfl⟩:∃p,v= .pointer (some p):=by
      unfold Instr.sureAddr at c;split at c
      .exact⟨_,rfl⟩
      .simp[stuck]at c
     simp only[Instr.sureAddr,Sem.run_pure,Result.andThen_ok]at c;have A:(asAddr (.pointer (some p))).run P w= .ok p w:=rfl;simp only[Fi,Sem.run_bind,Ez,Sem.run_pure,Result.andThen_ok,cR,A,c,g]
    .cases j with
     |zero=>simp at d n;subst d n;exact s
     |succ j=>exact k j z q (by simpa using d) (by simpa using n)
  .cases h
theorem F5(h:HR w0 F G ν φ objs nx w)(I:GLe G G'):∀(B:List PTy) (xs:List AVal) (vs:List Value) (A:Outs (d7 B)),vs.length=xs.length->
  (∀(j:Nat) (x:AVal) (v:Value),xs[j]?=some x->vs[j]?=some v->AValRel G ν nx x v)->Lent G' w φ objs A.lent->A.moved.Nodup->gI B xs objs=some A->
  ∃W,qi G' w B A.d vs W/\Sep (fps W)/\(∀q∈W,CS.le q.fp (FromL φ objs A.moved))/\(∀i∈A.moved,Live objs i)
 | [],xs,vs,A,g,z,s,D,c=>by
  simp only[gI]at c;split at c
  .injection c with c;subst c;have ka:vs= []:=Xv (by simpa using g);exact⟨[],⟨ka,rfl⟩,List.Pairwise.nil,by simp,by simp⟩
  .cases c
 | .v t agg::B,xs,vs,A,g,z,s,D,c=>by
  simp only[gI]at c;split at c
  .rename_i x xs;split at c
   .rename_i d m l A' h1 h2;injection c with c;subst c
    match vs,g with
    |v::vs,g=>
     cases hc:cellsOf agg x with
     |none=>simp[hc]at h1
     |some cs=>
      simp[hc]at h1;obtain⟨P,Q,R⟩:=d9.1 D;obtain⟨n1,H,J,p,K,_⟩:=Hy h I (z 0 x v rfl rfl) (s.mono (λi a=>Xm _ a)) P hc h1;obtain⟨C,L,M,r,N⟩:=F5 h I B xs vs A' (by simpa using g) (λj y u k O=>z (j+1) y u (by simpa using k) (by simpa using O)) (s.mono (λi a=>Xh _ a)) Q h2;refine⟨n1++C,⟨v,vs,n1,C,rfl,rfl,H,L⟩,oh h J M p r (λi a k=>R i a i k rfl),λq e=>?_,λi a=>?_⟩
      .rcases Xn.1 e with e|e
       .exactλb o f=>FromL.mono (λi a=>Xm _ a) b o (p q e b o f)
       .exactλb o f=>FromL.mono (λi a=>Xh _ a) b o (r q e b o f)
      .rcases Xn.1 a with a|a
       .exact K i a
       .exact N i a
   .cases c
  .cases c
 | .box t::B,xs,vs,A,g,z,s,D,c=>by
  simp only[gI]at c;split at c
  .rename_i id xs;split at c
   .rename_i cs Y;split at c
    .rename_i d m l A' h1 h2;injection c with c;subst c
     match vs,g with
     |v::vs,g=>
      obtain⟨k0,P⟩:=cC.1 D;obtain⟨Q,R,k4⟩:=d9.1 P;obtain⟨⟨_,b,V,rfl⟩,_⟩:=z 0 _ v rfl rfl;have T:Live objs id:=⟨_,Y,by simp⟩;obtain⟨b'',n,S,af,aG,E,U⟩:fc G ν nx w id (φ id) (.box cs):=h.ob _ _ Y;rw[V]at S;injection S with S;subst S;obtain⟨n1,H,J,p,K,_⟩:=iz h I t cs n d m l E (s.mono (λi a=>Xm _ a)) Q h1;have Z:cs.length=t.size:=by rw[←E.1];exact WN _ _ _ _ H
      obtain⟨C,L,M,r,N⟩:=F5 h I B xs vs A' (by simpa using g) (λj y u k O=>z (j+1) y u (by simpa using k) (by simpa using O)) (s.mono (λi a=>Xh _ a)) R h2;rw[Z]at af U;refine⟨⟨d4 b ((ν id).off+0),rng b ((ν id).off+0) t.size⟩::(n1++C),⟨b,(ν id).off+0,vs,n1,C,rfl,rfl,⟨n,af,aG,H⟩,L⟩,?_,λq e=>?_,λi a=>?_⟩
      .refine oh h (n1:=[⟨d4 b ((ν id).off+0),rng b ((ν id).off+0) t.size⟩]) (m:=[id]) (l:=m++A'.moved) (tN _ _) (oh h J M p r (λi a k=>k4 i a i k rfl)) (λq e=>?_) (λq e=>?_) (λi a k=>k0 (by rw[←bH.1 a];exact k))
       .rw[bH.1 e];exactλb o f=>⟨id,by simp,T,U b o f⟩
       .rcases Xn.1 e with e|e
        .exactλb o f=>FromL.mono (λi a=>Xm _ a) b o (p q e b o f)
        .exactλb o f=>FromL.mono (λi a=>Xh _ a) b o (r q e b o f)
      .rcases Xs.1 e with rfl|e
       .exactλb o f=>⟨id,by simp,T,U b o f⟩
       .rcases Xn.1 e with e|e
        .exactλb o f=>FromL.mono (λi a=>Xf _ (Xm _ a)) b o (p q e b o f)
        .exactλb o f=>FromL.mono (λi a=>Xf _ (Xh _ a)) b o (r q e b o f)
      .rcases Xs.1 a with rfl|a
       .exact T
       .rcases Xn.1 a with a|a
        .exact K i a
        .exact N i a
    .cases c
   .cases c
  .cases c
 | .mut _::_,_,_,_,_,_,_,_,h=>by simp only[gI]at h;cases h
 | .clos _ _::_,_,_,_,_,_,_,_,h=>by simp only[gI]at h;cases h
 | .kv _ _::_,_,_,_,_,_,_,_,h=>by simp only[gI]at h;cases h
 | .rp _::_,_,_,_,_,_,_,_,h=>by simp only[gI]at h;cases h
 | .vj t::B,xs,vs,A,g,z,s,D,c=>by
  simp only[gI]at c;split at c
  .rename_i cs xs;split at c
   .rename_i bN;split at c
    .rename_i d m l A' h1 h2;injection c with c;subst c
     match vs,g with
     |v::vs,g=>
      obtain⟨P,Q,R⟩:=d9.1 D;obtain⟨n,rfl,E⟩:=z 0 _ v rfl rfl;obtain⟨n1,H,J,p,K,_⟩:=iz h I t (cs.take t.size) (n.take t.size) d m l (E.take t.size) (s.mono (λi a=>Xm _ a)) P h1;obtain⟨C,L,M,r,N⟩:=F5 h I B xs vs A' (by simpa using g) (λj y u k O=>z (j+1) y u (by simpa using k) (by simpa using O)) (s.mono (λi a=>Xh _ a)) Q h2;have Z:n.length=t.size+1:=by rw[E.1,bN]
      have X:t.size<n.length:=by omega
      have e0:n=n.take t.size++ [n[t.size]]:=by
       rw[←List.take_succ_eq_append_getElem X,mc (by omega)]
      have ho:=(E.2 t.size (cs[t.size]'(by omega)) n[t.size] (Xp (by omega)) (Xp X)).2;refine⟨n1++C,⟨n.take t.size,n[t.size],vs,n1,C,by rw[←e0],ho,rfl,H,L⟩,oh h J M p r (λi a k=>R i a i k rfl),λq e=>?_,λi a=>?_⟩
      .rcases Xn.1 e with e|e
       .exactλb o f=>FromL.mono (λi a=>Xm _ a) b o (p q e b o f)
       .exactλb o f=>FromL.mono (λi a=>Xh _ a) b o (r q e b o f)
      .rcases Xn.1 a with a|a
       .exact K i a
       .exact N i a
    .cases c
   .cases c
  .cases c
 | .boxal _ _::_,_,_,_,_,_,_,_,h=>by simp only[gI]at h;cases h
theorem WpE{p:PTy}{a:List PTy}{k:Nat}(h:BA (p::a) (k+1)=true):(∃t,p= .box t)/\BA a k=true:=by
 cases p with
 |box t=>exact⟨⟨t,rfl⟩,h⟩
 |_=>cases h
theorem D8(d:Rel w0 F nt G0 G ν st a w){i:Nat}{u:Value}(c:a.tmps[i]?=some u):(Wt st.env i).getD (.tup [])= .tup []\/AValRel G ν st.nx ((Wt st.env i).getD (.tup [])) u:=by
 cases he:Wt st.env i with
 |none=>exact .inl rfl
 |some y=>
  obtain⟨v,b,e⟩:=d.env i y he;rw[c]at b;injection b with b;subst b;exact .inr e
theorem pD{wb:World}{Gb:GH}(y:Rel w0 F nt G0 G ν st a w):∀(f:List PTy) (d:c6 f) (vs:List Value) (A:List Pc) (z:List Nu) (i k:Nat),iU Gb wb f d vs A z->ic f=true->BA f k=true->k<=vs.length->
  (∀p∈WO f i k (vs.drop k),a.tmps[p.1]?=some p.2)->(WG f i k st).length+k=vs.length/\
  ∀(j:Nat) (x:AVal) (v:Value),(WG f i k st)[j]?=some x->vs[k+j]?=some v->x= .tup []\/AValRel G ν st.nx x v
 | [],d,vs,A,z,i,k,⟨m,_,_⟩,_,_,N,_=>by
  subst m;have:k=0:=by simpa using N
  subst this;exact⟨rfl,λj x v c=>by simp[WG]at c⟩
 |p::f,d,vs,A,z,i,k+1,h,q,S,N,hp=>by
  obtain⟨⟨t,rfl⟩,Q⟩:=WpE S;obtain⟨b,o,r,L,C,H,m,D,J,B,K⟩:=h;subst m;have T:ic f=true:=q;obtain⟨I,s⟩:=pD y f d.2 r C H i k K T Q (by simpa using N) (by simpa [WO]using hp);refine⟨by simp only[WG,Xu];omega,λj x v c P=>s j x v (by simpa [WG]using c) ?_⟩;rw[show k+1+j=(k+j)+1 by omega]at P;simpa using P
 | .v t agg::f,d,vs,A,z,i,0,⟨v,r,L,C,m,D,J,B⟩,q,_,_,hp=>by
  subst m;obtain⟨I,s⟩:=pD y f d.2 r C z (i+1) 0 B q (by cases f<;>rfl) (iw _) (by simpa [WO]using hp);refine⟨by simp only[WG,Xu];omega,λj x u c l=>?_⟩;cases j with
  |zero=>simp[WG]at c;exact .inl c.symm
  |succ j=>exact s j x u (by simpa [WG]using c) (by simpa using l)
 | .rp t::f,d,vs,A,z,i,0,⟨b,o,Y,r,m,D,J,B⟩,q,_,_,hp=>by
  subst m;obtain⟨I,s⟩:=pD y f d.2 r A z (i+1) 0 B q (by cases f<;>rfl) (iw _) (by simpa [WO]using hp);refine⟨by simp only[WG,Xu];omega,λj x u c l=>?_⟩;cases j with
  |zero=>simp[WG]at c;exact .inl c.symm
  |succ j=>exact s j x u (by simpa [WG]using c) (by simpa using l)
 | .box t::f,d,vs,A,z,i,0,⟨b,o,r,L,C,H,m,D,J,B,K⟩,q,_,_,hp=>by
  subst m;simp only[WO,qC,Fg]at hp;obtain⟨I,s⟩:=pD y f d.2 r C H (i+1) 0 K q (by cases f<;>rfl) (iw _) (λp E=>hp p (Xh _ (by simpa using E)));refine⟨by simp only[WG,Xu];omega,λj x u c l=>?_⟩;cases j with
  |zero=>
   simp[WG]at c l;subst c l;exact D8 y (hp (i,_) (Xm _ (Xg ..)))
  |succ j=>exact s j x u (by simpa [WG]using c) (by simpa using l)
 | .vj _::_,_,_,_,_,_,_,h,_,_,_,_=>h.elim
 | .boxal t lf::f,d,vs,A,z,i,0,⟨b,o,V,U,r,L,C,H,m,D,J,B,O,K,W,R⟩,q,_,_,hp=>by
  subst m;simp only[WO,qC,Fg]at hp;obtain⟨I,s⟩:=pD y f d.2.2 r C H (i+2) 0 R q (by cases f<;>rfl) (iw _) (λp E=>hp p (Xh _ (by simpa using E)));refine⟨by simp only[WG,Xu];omega,λj x u c l=>?_⟩
  match j with
  |0=>
   simp[WG]at c l;subst c l;exact D8 y (hp (i,_) (Xm _ (Xg ..)))
  |1=>simp[WG]at c;exact .inl c.symm
  |j+2=>exact s j x u (by simpa [WG]using c) (by simpa using l)
 | .mut e::f,d,vs,A,z,i,0,⟨U,r,C,H,m,D,J,B,O⟩,q,_,_,hp=>by
  subst m;simp only[WO,qC,Fg]at hp;obtain⟨I,s⟩:=pD y f d.2 r C H (i+1) 0 O q (by cases f<;>rfl) (iw _) (λp E=>hp p (Xh _ (by simpa using E)));refine⟨by simp only[WG,Xu];omega,λj x u c l=>?_⟩;cases j with
  |zero=>
   simp[WG]at c l;subst c l;exact D8 y (hp (i,_) (Xm _ (Xg ..)))
  |succ j=>exact s j x u (by simpa [WG]using c) (by simpa using l)
 | .clos g n::f,d,vs,A,z,i,0,⟨M,r,m,D,J,B⟩,q,_,_,hp=>by
  subst m;simp only[ic,Xj]at q;simp only[WO,qC,Fg]at hp;obtain⟨I,s⟩:=pD y f d (M++r) A z (i+1) n B q.2 q.1 (by simp[D]) (λp E=>hp p (Xh _ (by rw[List.drop_left' D]at E;exact E)));refine⟨by simp only[WG,Xu];simp at I;omega,λj x u c l=>?_⟩;cases j with
  |zero=>
   simp[WG]at c l;subst c l;exact D8 y (hp (i,_) (Xm _ (Xg ..)))
  |succ j=>exact s j x u (by simpa [WG]using c) (by rw[xQ (by omega),D,tO];simpa using l)
 | .kv t agg::f,d,vs,A,z,i,0,⟨v,r,L,C,H,m,D,X,J,B⟩,q,_,_,hp=>by
  subst m;simp only[WO,qC,Fg]at hp;obtain⟨I,s⟩:=pD y f d.2 r C H (i+1) 0 B q (by cases f<;>rfl) (iw _) (λp E=>hp p (Xh _ (by simpa using E)));refine⟨by simp only[WG,Xu];omega,λj x u c l=>?_⟩;cases j with
  |zero=>
   simp[WG]at c l;subst c l;exact D8 y (hp (i,_) (Xm _ (Xg ..)))
  |succ j=>exact s j x u (by simpa [WG]using c) (by simpa using l)
theorem Sr{G G':GH}{wb w:World}{nu tE:Nu}{e:Ty}{xs m:List e.den}{S S':CS}(d:aF wb (WF G wb e) e.size nu xs S)(f:aF w (WF G' w e) e.size tE m S')(c:nu.hdr=tE.hdr):aF w (WF G' w e) e.size nu m S':=by
 unfold Nu.hdr at c;cases hb:tE.blk with
 |none=>
  cases cS:nu.blk with
  |some b=>simp[hb,cS]at c
  |none=>
   have n:=q7 d cS;have i:=q7 f hb;refine⟨by rw[i,←d.1,n],d.2.1,?_⟩;simp only[cS];exact i
 |some b=>
  cases cS:nu.blk with
  |none=>simp[hb,cS]at c
  |some b'=>
   simp only[hb,cS]at c;injection c with a j k;injection a with a;injection a with a l _;have g:=d.2.1;have h:=f.2.1;have:nu=tE:=by
    obtain⟨o,p,q,r,s⟩:=nu;obtain⟨t,u,v,x,y⟩:=tE;simp only at hb cS a j k l g h;subst hb cS a j k l;rw[g,h]
   rw[this];exact f
theorem Gq{G G':GH}{wb w:World}:∀(t:Ty) (k d:t.den) (us:List Value) (n1 j:List Pc),WF G wb t k us n1->WF G' w t d us j->∃o,WF G' w t d us o/\nus o=nus n1/\fps o=fps j
 | .own e,k,d,us,n1,j,⟨y,f,m,n⟩,⟨x,i,c,l⟩=>by
  subst f i;have D:y.nu.hdr=x.nu.hdr:=by rw[m]at c;simpa using c
  exact⟨[⟨y.nu,x.fp⟩],⟨_,rfl,m,Sr n l D⟩,rfl,rfl⟩
 | .prod a b,k,d,us,n1,j,⟨P,Q,L,M,f,m,n,C⟩,⟨N,O,J,K,i,c,l,B⟩=>by
  have E:=WN a _ _ _ n;have F:=WN a _ _ _ l;obtain⟨H,I⟩:=List.append_inj (f.symm.trans i) (by rw[E,F]);subst H I m c;obtain⟨p,z,q,r⟩:=Gq a _ _ _ _ _ n l;obtain⟨s,A,u,v⟩:=Gq b _ _ _ _ _ C B;exact⟨p++s,⟨_,_,p,s,f,rfl,z,A⟩,by unfold nus at q u⊢;rw[Xw,Xw,q,u],by unfold fps at r v⊢;rw[Xw,Xw,r,v]⟩
 | .int _,k,d,us,n1,j,h,g=>by obtain⟨f,_⟩:=h;obtain⟨i,c⟩:=g;subst f i;exact⟨[],⟨rfl,c⟩,rfl,rfl⟩
 | .bool,k,d,us,n1,j,h,g=>by obtain⟨f,_⟩:=h;obtain⟨i,c⟩:=g;subst f i;exact⟨[],⟨rfl,c⟩,rfl,rfl⟩
 | .str,k,d,us,n1,j,h,g=>by obtain⟨f,_⟩:=h;obtain⟨i,c⟩:=g;subst f i;exact⟨[],⟨rfl,c⟩,rfl,rfl⟩
 | .slice _,k,d,us,n1,j,h,g=>by obtain⟨f,_⟩:=h;obtain⟨i,c⟩:=g;subst f i;exact⟨[],⟨rfl,c⟩,rfl,rfl⟩
theorem Wtj{G G':GH}{wb w:World}{t:Ty}{a:Bool}{f d:t.den}{v:Value}{n1 n2:List Pc}(h:fC G wb t a f v n1)(g:fC G' w t a d v n2):∃c e,WF G' w t d c e/\nus e=nus n1/\fps e=fps n2:=by
 unfold fC at h g;split at h
 .rename_i ha;rw[Wb ha]at g;obtain⟨c,j,k⟩:=h;obtain⟨vC,b,i⟩:=g;have:c=vC:=by
   rw[j]at b;injection b with b;have:=Wp Array.toList b;simpa using this
  subst this;exact⟨c,Gq _ _ _ _ _ _ k i⟩
 .rename_i ha;rw[Wa ha]at g;exact⟨_,Gq _ _ _ _ _ _ h g⟩
structure OOk(G':GH)(φ:Nat->CS)(objs:ad)(w:World)(ps:List PTy)(B:OutK (dv ps))(ks:List Nu)(kf:List CS)(ms:List Pc):Prop where
 outs:jz G' w ps B.d ks kf ms
 sepk:Sep kf
 sepm:Sep (fps ms)
 kf:∀S∈kf,CS.le S (FromL φ objs B.kept)
 ms:∀q∈ms,CS.le q.fp (FromL φ objs B.moved)
theorem Ig(h:HR w0 F G ν φ objs nx w){k1 a:List CS}{m l:List Nat}(d:Sep k1)(e:Sep a)(b:∀S∈k1,CS.le S (FromL φ objs m))(c:∀S∈a,CS.le S (FromL φ objs l))(f:∀i∈m,i∉l):Sep (k1++a):=
 Nq d e (A:=FromL φ objs m) (B:=FromL φ objs l) b c (FromL.disj h f)
theorem Pq{wb:World}{Gb:GH}(N:GLe G G')(h:HR w0 F G ν φ objs nx w){t:Ty}{C:List PTy}{id b o:Nat}{cs:List Cell}{n:t.den}{m l:List Nat}{A:OutK (dv C)}{V:List Nu}{r:List CS}{s:List Pc}
  (R:CellRel G ν nx (.ptr id 0) (.pointer (some ⟨b,o,none⟩))) (z:Wt objs id=some (.box cs)) (M:aY t cs objs=some (n,m,l)) (P:Lent G' w φ objs l) (O:(id::A.kept).Nodup) (Q:(m++A.moved).Nodup) (e:OOk G' φ objs w C A V r s):
  ∃j,oy G' w t n b o j/\Sep (rng b o t.size::r)/\Sep (fps (j++s))/\(∀S∈rng b o t.size::r,CS.le S (FromL φ objs (id::A.kept)))/\(∀q∈j++s,CS.le q.fp (FromL φ objs (m++A.moved))):=by
 obtain⟨_,X,E,d⟩:=R;injection d with d;injection d with d;injection d with d W _;subst d W;have J:Live objs id:=⟨_,z,by simp⟩;obtain⟨I,D,k,af,H,u,y⟩:fc G ν nx w id (φ id) (.box cs):=h.ob _ _ z;rw[E]at k;injection k with k;subst k;obtain⟨k1,Y⟩:=cC.1 O;obtain⟨T,Z,U⟩:=d9.1 Q;obtain⟨j,v,K,x,_⟩:=iz h N t cs D n m l u P T M;have L:cs.length=t.size:=by rw[←u.1];exact WN _ _ _ _ v
 rw[L]at af y;have B:CS.le (rng b ((ν id).off+0) t.size) (FromL φ objs [id]):=λb o c=>⟨id,by simp,J,y b o c⟩;refine⟨j,⟨D,af,H,v⟩,?_,oh h K e.sepm x e.ms (λi a p=>U i a i p rfl),λS f=>?_,λq g=>?_⟩
 .exact Ig h (k1:=[rng b ((ν id).off+0) t.size]) (m:=[id]) (tN _ _) e.sepk (λS f=>by rw[bH.1 f];exact B) e.kf (λi a p=>k1 (by rw[←bH.1 a];exact p))
 .rcases Xs.1 f with rfl|f
  .exactλb o c=>FromL.mono (λi a=>by rw[bH.1 a];exact Xg ..) b o (B b o c)
  .exactλb o c=>FromL.mono (λi a=>Xf _ a) b o (e.kf S f b o c)
 .rcases Xn.1 g with g|g
  .exactλb o c=>FromL.mono (λi a=>Xm _ a) b o (x q g b o c)
  .exactλb o c=>FromL.mono (λi a=>Xh _ a) b o (e.ms q g b o c)
theorem qZ{wb:World}{Gb:GH}(M:GLe G G')(h:HR w0 F G ν φ objs nx w):∀(k:List PTy) (d:c6 k) (vs:List Value) (P:List Pc) (L:List Nu) (xs:List AVal) (B:OutK (dv k)),iU Gb wb k d vs P L->xs.length=vs.length->
  (∀(j:Nat) (x:AVal) (v:Value),xs[j]?=some x->vs[j]?=some v->x= .tup []\/AValRel G ν nx x v)->Lent G' w φ objs B.lent->B.kept.Nodup->B.moved.Nodup->eN k xs objs=some B->
  ∃z C,OOk G' φ objs w k B L z C
 | [],d,vs,P,L,xs,B,⟨_,_,s⟩,_,_,_,_,_,a=>by
  simp only[eN]at a;injection a with a;subst a;exact⟨[],[],⟨s,rfl,rfl⟩,List.Pairwise.nil,List.Pairwise.nil,by simp,by simp⟩
 | .v t agg::k,d,vs,P,L,xs,B,⟨v,K,n1,R,E,T,Q,O⟩,r,p,D,s,H,a=>by
  subst E;simp only[eN]at a;cases hA:eN k xs.tail objs with
  |none=>simp[hA]at a
  |some A=>
   simp[hA]at a;subst a
   match xs,r with
   |x::xs,r=>
    obtain⟨z,C,c⟩:=qZ M h k d.2 K R L xs A O (by simpa using r) (λj y u f q=>p (j+1) y u (by simpa using f) (by simpa using q)) D s H hA;exact⟨z,C,c.outs,c.sepk,c.sepm,c.kf,c.ms⟩
 | .rp t::k,d,vs,P,L,xs,B,⟨b,o,Y,K,E,T,Q,O⟩,r,p,D,s,H,a=>by
  subst E;simp only[eN]at a;cases hA:eN k xs.tail objs with
  |none=>simp[hA]at a
  |some A=>
   simp[hA]at a;subst a
   match xs,r with
   |x::xs,r=>
    obtain⟨z,C,c⟩:=qZ M h k d.2 K P L xs A O (by simpa using r) (λj y u f q=>p (j+1) y u (by simpa using f) (by simpa using q)) D s H hA;exact⟨z,C,c.outs,c.sepk,c.sepm,c.kf,c.ms⟩
 | .box t::k,d,vs,P,L,xs,B,⟨b,o,K,n1,R,N,E,T,Q,O,h6⟩,r,p,D,s,H,a=>by
  subst E;simp only[eN]at a;split at a
  .rename_i id xs;split at a
   .rename_i cs W;split at a
    .rename_i dd m l A g1 g2;injection a with a;subst a;have U:=((p 0 _ _ rfl rfl).resolve_left (λe=>by cases e)).1;obtain⟨z,C,c⟩:=qZ M h k d.2 K R N xs A h6 (by simpa using r) (λj y u f q=>p (j+1) y u (by simpa using f) (by simpa using q)) (D.mono λj f=>Xh _ f) (cC.1 s).2 (d9.1 H).2.1 g2;obtain⟨X,e1,e2,e3,e4,e5⟩:=Pq (wb:=wb) (Gb:=Gb) M h U W g1 (D.mono λj f=>Xm _ f) s H c;exact⟨_,X++C,⟨b,o,N,z,X,C,Q,rfl,rfl,e1,c.outs⟩,e2,e3,e4,e5⟩
    .cases a
   .cases a
  .cases a
 | .vj _::_,_,_,_,_,_,_,h,_,_,_,_,_,_=>h.elim
 | .boxal t lf::k,d,vs,P,L,xs,B,⟨b,o,b',pc,K,n1,R,N,E,T,Q,O,h5,h6,h7,h8⟩,r,p,D,s,H,a=>by
  subst E;simp only[eN]at a;split at a
  .rename_i id y xs;split at a
   .rename_i cs W;split at a
    .rename_i dd m l A g1 g2;injection a with a;subst a;have U:=((p 0 _ _ rfl rfl).resolve_left (λe=>by cases e)).1;obtain⟨z,C,c⟩:=qZ M h k d.2.2 K R N xs A h8 (by simpa using r) (λj y u f q=>p (j+2) y u (by simpa using f) (by simpa using q)) (D.mono λj f=>Xh _ f) (cC.1 s).2 (d9.1 H).2.1 g2;obtain⟨X,e1,e2,e3,e4,e5⟩:=Pq (wb:=wb) (Gb:=Gb) M h U W g1 (D.mono λj f=>Xm _ f) s H c;exact⟨_,X++C,⟨b,o,N,z,X,C,Q,rfl,rfl,e1,c.outs⟩,e2,e3,e4,e5⟩
    .cases a
   .cases a
  .cases a
 | .mut e::k,d,vs,P,L,xs,B,⟨pc,K,R,N,E,T,Q,O,h5⟩,r,p,D,s,H,a=>by
  subst E;simp only[eN]at a;split at a
  .rename_i id xs;split at a
   .rename_i e' ys W;split at a
    .rename_i dd A g1 g2;injection a with a;subst a;obtain⟨kN,hd⟩:=kQ g1;subst kN;simp only at hd;subst hd;obtain⟨⟨_,U⟩,_⟩:=(p 0 _ _ rfl rfl).resolve_left (λe=>by cases e);have bc:Live objs id:=⟨_,W,by simp⟩;have aM:aF w (WF G w e') e'.size (ν id) ys (φ id):=h.ob _ _ W;have gE:=v6 M (Same.refl _ w) (λ_ _ V=>V) aM;obtain⟨k1,k2⟩:=cC.1 s;obtain⟨z,C,c⟩:=qZ M h k d.2 K R N xs A h5 (by simpa using r) (λj y u f q=>p (j+1) y u (by simpa using f) (by simpa using q)) D k2 H g2;refine⟨φ id::z,C,⟨⟨pc.nu,φ id⟩,N,z,Q,rfl,Sr O gE U,c.outs⟩,?_,c.sepm,λS I=>?_,c.ms⟩
     .exact Ig h (k1:=[φ id]) (m:=[id]) (tN _ _) c.sepk (λS I=>by rw[bH.1 I];exact FromL.one (by simp) bc) c.kf (λi J f=>k1 (by rw[←bH.1 J];exact f))
     .rcases Xs.1 I with rfl|I
      .exact FromL.one (Xg ..) bc
      .exactλb o V=>FromL.mono (λi J=>Xf _ J) b o (c.kf S I b o V)
    .cases a
   .cases a
  .cases a
 | .clos g n::k,d,vs,P,L,xs,B,⟨cvs,K,E,T,Q,O⟩,r,p,D,s,H,a=>by
  subst E;simp only[eN]at a;split at a
  .rename_i g' caps xs;split at a
   .rename_i hc;obtain⟨rfl,bN⟩:=hc;cases hA:eN k (fS caps++xs) objs with
    |none=>simp[hA]at a
    |some A=>
     simp[hA]at a;subst a;obtain⟨⟨Y,wR,wS,Bj⟩,_⟩:=(p 0 _ _ rfl rfl).resolve_left (λe=>by cases e);have ll:Y=cvs:=by
      injection wR with _ _ wR;have:=Wp Array.toList wR;simpa using this.symm
     subst ll;obtain⟨z,C,c⟩:=qZ M h k d (Y++K) P L (fS caps++xs) A O (by simp[fS,wS];simpa using r) (λj y u f q=>by
      rw[hG]at f q;simp only[fS,List.length_map]at f;rw[wS]at q;split at f
      .rename_i ab;rw[Wb ab]at q;rw[ff]at f;obtain⟨id,ce,rfl⟩:=dw.1 f;obtain⟨q1,q3,q2⟩:=Bj _ id u ce q;exact .inr ⟨⟨q1,q2⟩,q3⟩
      .rename_i ab;rw[Wa ab]at q;exact p (j-caps.length+1) y u (by simpa using f) (by simpa using q)) D s H hA
     exact⟨z,C,c.outs,c.sepk,c.sepm,c.kf,c.ms⟩
   .cases a
  .cases a
 | .kv t agg::k,d,vs,P,L,xs,B,⟨v,K,n1,R,N,E,T,lm,Q,O⟩,r,p,D,s,H,a=>by
  subst E;simp only[eN]at a;split at a
  .rename_i x xs;split at a
   .rename_i dd m l A g1 g2;split at a
    .rename_i iL;injection a with a;subst a;cases hc:cellsOf agg x with
     |none=>simp[hc]at g1
     |some cs=>
      simp[hc]at g1;obtain⟨k1,k2,k3⟩:=d9.1 s;have U:=(p 0 _ _ rfl rfl).resolve_left (λe=>by subst e;cases hc);have bV:Lent G' w φ objs l:=D.mono λj f=>Xm _ f;obtain⟨_,_,_,_,q4,_⟩:=Hy h M U bV k1 hc g1;obtain⟨v1,_⟩:=RL h M U bV hc g1 iL;obtain⟨Y,Z,r1,r2,r3⟩:=Wtj Q v1;obtain⟨z,C,c⟩:=qZ M h k d.2 K R N xs A O (by simpa using r) (λj y u f q=>p (j+1) y u (by simpa using f) (by simpa using q)) (D.mono λj f=>Xh _ f) k2 H g2;have gp:∀S∈fps Z,CS.le S (FromL φ objs m):=λS I=>by
       rw[r3,M6]at I;obtain⟨i,J,rfl⟩:=Xz.1 I;exact FromL.one J (q4 i J)
      have gs:Sep (fps Z):=by
       rw[r3,M6];refine List.pairwise_map.2 (k1.imp_of_mem λ{i j} J f aH=>?_)
       exactλb o E T=>aH (h.inj i j b o (q4 i J) (q4 j f) E T)
      refine⟨fps Z++z,C,⟨Z,N,z,Y,by rw[lm,r2],rfl,r1,c.outs⟩,Ig h gs c.sepk gp c.kf (λi J f=>k3 i J i f rfl),c.sepm,λS I=>?_,c.ms⟩;rcases Xn.1 I with I|I
      .exactλb o V=>FromL.mono (λi J=>Xm _ J) b o (gp S I b o V)
      .exactλb o V=>FromL.mono (λi J=>Xh _ J) b o (c.kf S I b o V)
    .cases a
   .cases a
  .cases a
end
section
variable{P:Program}{T:Tab}{Γ:Ctx}
theorem Wvv{e:Sig}{d:c6 e.ps}{G:GH}{w:World}{vs:List Value}{ns:List Pc}{J:List Nu}{n:Nat}(hn:fX e.ps<=n)(T:ic e.ps=true)(C:iU G w e.ps d vs ns J)(Y:Sep (fps ns))
  (B:∀q∈ns,∀b s,q.fp b s->G b s=none/\b<w.heap.size) (W:∀b o v,G b o=some v->w.cell? ⟨b,o,none⟩=some v):
  ∃ν,Rel w (Of ns) ⟨n,WO e.ps 0 0 vs⟩ G G ν {env:=Bn 0 (WZ e.ps d [] 0).1,objs:=(WZ e.ps d [] 0).2.1,nx:=(WZ e.ps d [] 0).2.2}
   {tmps:=vs.toArray++Fe (n-vs.toArray.size) undef,defers:=[]} w:=by
 obtain⟨ν,X⟩:∃ν:Nat->Nu,ν= λi=>((nus ns)[i]?).getD ⟨none,0,0,0,0⟩:=⟨_,rfl⟩;obtain⟨φ,I⟩:∃φ:Nat->CS,φ= λi=>((fps ns)[i]?).getD (λ_ _=>False):=⟨_,rfl⟩;have y:At ν φ 0 ns:=λj K F=>by
  have P:(nus ns)[j]?=some K.nu:=by unfold nus;rw[ff,F];rfl
  have Q:(fps ns)[j]?=some K.fp:=by unfold fps;rw[ff,F];rfl
  rw[X,I];simp only[dj,P,Q];exact⟨rfl,rfl⟩
 obtain⟨u,D,U,V⟩:=rb (ν:=ν) (φ:=φ) e.ps d vs ns J [] 0 (0+ns.length) T C y (Xl _);have pJ:=rf _ _ _ _ _ C;have S:∀a,Live (WZ e.ps d [] 0).2.1 a->a<ns.length:=λa ⟨ob,A,_⟩=>by
  rcases D a ob A with⟨_,h,_⟩|h
  .simpa using h
  .cases h
 have l:∀a b o,φ a b o->∃q,ns[a]?=some q/\(fps ns)[a]?=some q.fp/\q.fp b o:=λa b o c=>by
  rw[I]at c
  try simp only at c
  cases hq:ns[a]? with
  |none=>
   have:(fps ns)[a]?=none:=by unfold fps;rw[ff,hq];rfl
   rw[this]at c;exact c.elim
  |some q=>
   have:(fps ns)[a]?=some q.fp:=by unfold fps;rw[ff,hq];rfl
   rw[this]at c;exact⟨q,rfl,this,c⟩
 have L:∀(i:Nat) (v:Value),vs[i]?=some v->(vs.toArray++Fe (n-vs.toArray.size) undef)[i]?=some v:=λi v E=>by
  have t:=(fe.1 E).1;rw[Array.getElem?_append_left (by simpa using t)];simpa using E
 refine⟨ν,rfl,by simp;omega,λp c=>?_,λi x r=>?_,⟨φ,?_⟩,λ_ _ _ z=>z,λ_ _ _ z=>.inl z⟩
 .obtain⟨_,f⟩:=WY _ _ _ _ p c;exact L _ _ (by simpa using f)
 .simp only at r;rw[PJ]at r;simp only[iw,ep,mA]at r;have t:=(fe.1 r).1;rw[U]at t;have H:=Xp t;refine⟨_,L i _ H,?_⟩;have:=V i x _ r H;simp only[u];exact this
 .exact{
   g:=W
   ob:=λa ob A=>by
    rcases D a ob A with⟨_,_,h⟩|h
    .simp only[u];exact h
    .cases h
   gf:=λa b o m c=>by
    obtain⟨q,k,_,f⟩:=l a b o c;exact(B q (kC k) b o f).1
   inj:=λa O b o m Z c R=>by
    obtain⟨q,_,k,f⟩:=l a b o c;obtain⟨q',_,M,N⟩:=l O b o R;exact Hu Y k M f N
   own:=λa b o m c=>by
    obtain⟨q,k,_,f⟩:=l a b o c;exact .inr ⟨q,kC k,f⟩
   lt:=λa m=>by simp only[u];have:=S a m;omega
   bl:=λa b o m c=>by
    obtain⟨q,k,_,f⟩:=l a b o c;exact(B q (kC k) b o f).2
   le:=WLe.refl _ w}
theorem WsO(hT:aO P T){f:Func}{k:Sig}{d:c6 k.ps}{G:GH}{w:World}{vs:List Value}{H:List Pc}{K:List Nu}{n:Nat}(gg:ic k.ps=true)(U:iU G w k.ps d vs H K)
  {st:St} {a:Act} {w':World} {M:GH} {ν:Nat->Nu} (E:Rel w (Of H) ⟨n,WO k.ps 0 0 vs⟩ G M ν st a w') {xs:List AVal} (hx:mU T st f.results.toList=some xs)
  {A:Outs (d7 k.rs)} (hA:gI k.rs xs st.objs=some A) {B:OutK (dv k.ps)} (hB:eN k.ps (WG k.ps 0 0 st) st.objs=some B)
  (N:fL (B.kept++(B.moved++A.moved))=true) (O:lu (A.lent++B.lent) (B.kept++(B.moved++A.moved))=true):
  ∃z J L I G',(results f a.tmps).run P w'= .ok (xA z) w'/\After k (B.d,A.d) G w H K z J L I G' w':=by
 have N:=(Gi _).1 N;have O:=Rs O;obtain⟨φ,m⟩:=E.h;have R:=m.addG_le (A.lent++B.lent);have X:=m.addG_w (A.lent++B.lent);have W:Lent (lT M w' (FromL φ st.objs (A.lent++B.lent))) w' φ st.objs (A.lent++B.lent):=λid Y hl=>(L3 _).mono (FromL.one Y hl);obtain⟨k1,k2,k3⟩:=d9.1 N;obtain⟨k4,k5,k6⟩:=d9.1 k2;obtain⟨z,wT,wU,wV⟩:=MV hT E _ xs hx;obtain⟨I,q1,q2,Q,q4⟩:=F5 m R k.rs xs z A wU wV (W.mono λi c=>Xm _ c) k5 hA;obtain⟨iZ,Z⟩:=pD E k.ps d vs H K 0 0 U gg (by cases k.ps<;>rfl) (iw _) (by simpa using E.par);obtain⟨J,L,t⟩:=qZ R m k.ps d vs H K _ B U iZ (λj x v y F=>Z j x v y (by simpa using F)) (W.mono λi c=>Xh _ c) k1 k4 hB;have gG:∀S∈J++fps (L++I),CS.le S (FromL φ st.objs (B.kept++(B.moved++A.moved))):=λS s=>by
  rcases Xn.1 s with s|s
  .exactλb o p=>FromL.mono (λi c=>Xm _ c) b o (t.kf S s b o p)
  .obtain⟨q,r,rfl⟩:=Xz.1 s;rcases Xn.1 r with r|r
   .exactλb o p=>FromL.mono (λi c=>Xh _ (Xm _ c)) b o (t.ms q r b o p)
   .exactλb o p=>FromL.mono (λi c=>Xh _ (Xh _ c)) b o (Q q r b o p)
 refine⟨z,J,L,I,lT M w' (FromL φ st.objs (A.lent++B.lent)),?_,?_⟩
 .show(do let vs←f.results.mapM (Ez a.tmps);pure (if h:vs.size=1 then vs[0]else .tuple vs):Sem Value).run P w'=_;have jB:(f.results.mapM (Ez a.tmps)).run P w'= .ok z.toArray w':=by
   rw[Array.mapM_eq_mapM_toList,Sem.run_map,wT];rfl
  rw[Sem.run_bind,jB];simp only[Result.andThen_ok,Sem.run_pure];congr 1;unfold xA
  match z with
  | []=>rfl
  | [v]=>rfl
  |u::v::l=>simp
 .exact{
   res:=q1
   outs:=t.outs
   sep:=by
    refine Ig m t.sepk (oh m t.sepm q2 t.ms Q (λi c y=>k6 i c i y rfl)) t.kf (l:=B.moved++A.moved) (λS s=>?_) (λi c y=>k3 i c i y rfl);obtain⟨q,r,rfl⟩:=Xz.1 s;rcases Xn.1 r with r|r
    .exactλb o p=>FromL.mono (λi c=>Xm _ c) b o (t.ms q r b o p)
    .exactλb o p=>FromL.mono (λi c=>Xh _ c) b o (Q q r b o p)
   own:=λS s b e p=>by
    obtain⟨i,c,C,D⟩:=gG S s b e p;refine⟨?_,(m.own i b e C D).symm,m.bl i b e C D⟩;rw[rH (λ⟨j,y,h3,h4⟩=>by
     have:=m.inj i j b e C h3 D h4;subst this;exact O _ y c)]
    exact m.gf i b e C D
   gx:=by
    refine⟨λb o v F=>R b o v (E.gx.le b o v F),λb e v F=>?_⟩;by_cases V:FromL φ st.objs (A.lent++B.lent) b e
    .obtain⟨j,y,C,D⟩:=V;exact .inr (m.own j b e C D)
    .rw[rH V]at F;exact E.gx.new b e v F
   g:=X
   le:=m.le}
theorem Wyi(Z:P.follows .mixedOrders=true)(F:aO P T)(hΓ:gi P Γ){f:Func}{k:FuncId}{c:Code}(hf:P.funcs[k]?=some f)(H:f.body=some c){sg:Sig}(Q:kZ f.ntmps (lN sg.ps 0 0) c=true)(E:ic sg.ps=true)
  (hn:fX sg.ps<=f.ntmps) {r:Nat->List Ghost} (h:∀d o,sg.run d=some o->∃N,den T Γ r N sg f d some=some o):xK P k sg:=by
 intro d o R G w C z K D kO S hg;obtain⟨N,j⟩:=h d o R;unfold den at j;simp only[H]at j;obtain⟨ν,U⟩:=Wvv hn E D kO S hg;split at j
 case h_2=>cases j
 rename_i c' b st0 y M;injection y with y;subst y;obtain⟨rfl,j⟩:=iy j;obtain⟨O,ν0',hr⟩:=DX _ _ _ _ _ U M;refine calls_of_wp hf H ?_
 suffices g:∀e,na w (Of z) ⟨f.ntmps,WO sg.ps 0 0 C⟩ G (K3 T sg f.results.toList some e) o (bodyPost P f (λe w'=>∃l p q m G',e= .returned (xA l)/\After sg o G w z K l p q m G' w') e.to)from
  xI (nt:=⟨f.ntmps,WO sg.ps 0 0 C⟩) Z F hΓ (n:=f.ntmps) rfl (W5 sg.ps 0 0 C) c Q g _ _ _ _ _ hr j
 intro e st a w' G1 ν1 J g;have I:(∃i,mU T st f.results.toList=some i/\∃A B,gI sg.rs i st.objs=some A/\eN sg.ps (WG sg.ps 0 0 st) st.objs=some B/\fL (B.kept++(B.moved++A.moved))=true/\lu (A.lent++B.lent) (B.kept++(B.moved++A.moved))=true/\(B.d,A.d)=o)->
   a.defers= []/\∃v,(results f a.tmps).run P w'= .ok v w'/\∃l p q m G',Ending.returned v= .returned (xA l)/\After sg o G w z K l p q m G' w':=by
  rintro⟨i,x,A,B,s,t,V,W,rfl⟩;obtain⟨l,p,q,m,G',X,Y⟩:=WsO F (f:=f) E D J x s t V W;exact⟨J.defers,_,X,l,p,q,m,G',rfl,Y⟩
 have L:(match mU T st f.results.toList with
   |some i=>match gI sg.rs i st.objs,eN sg.ps (WG sg.ps 0 0 st) st.objs with
    |some A,some B=>if fL (B.kept++(B.moved++A.moved))&&lu (A.lent++B.lent) (B.kept++(B.moved++A.moved))then some (B.d,A.d)else none
    |_,_=>none
   |none=>none)=some o->(∃i,mU T st f.results.toList=some i/\∃A B,gI sg.rs i st.objs=some A/\eN sg.ps (WG sg.ps 0 0 st) st.objs=some B/\fL (B.kept++(B.moved++A.moved))=true/\lu (A.lent++B.lent) (B.kept++(B.moved++A.moved))=true/\(B.d,A.d)=o):=λg=>by
  split at g
  .rename_i i x;split at g
   .rename_i A B s t;obtain⟨u,g⟩:=j6 g;simp only[Xj]at u;injection g with g;exact⟨i,x,A,B,s,t,u.1,u.2,g⟩
   .cases g
  .cases g
 cases e with
 |normal=>exact I (L g)
 |ret=>exact I (L g)
 |exit id=>cases g
end
def zv1:Value->Value->Bool
 | .int k n,.int k' n'=>decide (k=k')&&decide (n=n')
 | .bool b,.bool b'=>b==b'
 | .string s,.string s'=>match s.data.toList,s'.data.toList with
  | [],[]=>true
  |_,_=>false
 | .slice none 0 0,.slice none 0 0=>true
 | .pointer none,.pointer none=>true
 |_,_=>false
theorem Wwy(x y:Value)(h:zv1 x y=true):x=y:=by
 unfold zv1 at h;split at h
 .simp only[Xj,Wg]at h;obtain⟨rfl,rfl⟩:=h;rfl
 .have:=eq_of_beq h;subst this;rfl
 .rename_i s s';split at h
  .rename_i e1 e2;have:s=s':=by
    cases s with|mk a=>cases s' with|mk b=>
    congr 1;apply Array.ext';simp only at e1 e2;rw[e1,e2]
   rw[this]
  .cases h
 .rfl
 .rfl
 .cases h
def H9:List Value->List Value->Bool
 | [],[]=>true
 |x::l,y::m=>zv1 x y&&H9 l m
 |_,_=>false
theorem QX:∀(l m:List Value),H9 l m=true->l=m
 | [],[],_=>rfl
 | [],_::_,h=>by cases h
 |_::_,[],h=>by cases h
 |x::l,y::m,h=>by
  simp only[H9,Xj]at h;rw[Wwy x y h.1,QX l m h.2]
def GG:List Field->List (Nat×TypeId)->Bool
 | [],[]=>true
 |f::l,p::m=>eb f.offset p.1&&eb f.type p.2&&(f.name != "_")&&GG l m
 |_,_=>false
def NP(P:Program)(T:Tab)(t:TypeId)(a:TE):Bool:=match a.shape with
 | .basic=>!a.agg&&(match a.ty with
  | .int k=>match P.underlying t with|some (.int k')=>decide (k'=k)|_=>false
  | .bool=>match P.underlying t with|some .bool=>true|_=>false
  | .str=>match P.underlying t with|some .string=>true|_=>false
  |_=>false)
 | .slice e=>!a.agg&&(match P.underlying t with|some (.slice e')=>eb e' e|_=>false)&&(match Wt T e with|some eQ=>decide (a.ty= .slice eQ.ty)|none=>false)
 | .struct fs=>a.agg&&(match P.underlying t with|some (.struct fields)=>GG fields.toList fs|_=>false)&& !P.stoodInHeld t&& !P.eqGuardType P.depth t
 | .ptr e=>!a.agg&&(match P.underlying t with|some (.pointer e')=>eb e' e|_=>false)
 | .arr n e=>a.agg&&(match P.underlying t with|some (.array n' e')=>eb n' n&&eb e' e|_=>false)&&(match Wt T e with|some eQ=>decide (eQ.ty=a.ty)&&eQ.plain|none=>false)
def Nm(P:Program)(t:TypeId)(a:TE):Bool:=match P.info? t with
 |some i=>match i.zero with
  |some z=>eb i.size a.size&&H9 z.cells.toList a.cells&&Nat.ble i.bytes 4096
  |none=>false
 |none=>false
def EG(P:Program)(T:Tab):Tab->Bool
 | []=>true
 |(t,te)::l=>NP P T t te&&Nm P t te&&EG P T l
theorem OY:∀(l:List Field) (m:List (Nat×TypeId)),GG l m=true→l.map (λf=>(f.offset,f.type))=m∧∀f∈l,f.name≠ "_"
 | [],[],_=>⟨rfl,by simp⟩
 | [],_::_,h=>by cases h
 |_::_,[],h=>by cases h
 |f::l,p::m,h=>by
  simp only[GG,Xj,bne_iff_ne,ne_eq]at h;obtain⟨⟨⟨b,c⟩,d⟩,e⟩:=h;obtain⟨i,j⟩:=OY l m e;have b:f.offset=p.1:=by simpa using b
  have c:f.type=p.2:=by simpa using c
  refine⟨by rw[bK,i,b,c],λg a=>?_⟩;rcases Xs.1 a with a|a
  .subst a;exact d
  .exact j g a
theorem WpI{P:Program}{T:Tab}{t:TypeId}{te:TE}(h:NP P T t te=true)(hi:Nm P t te=true):TEok P T t te:=by
 obtain⟨C,q,shape⟩:=te;refine⟨?_,?_⟩
 .unfold NP at h;cases shape with
  |basic=>
   simp only[Xj,fg]at h⊢;refine⟨h.1,?_⟩;have h:=h.2;cases C with
   |int k=>
    simp only at h⊢;split at h
    .rename_i k' j;simp only[Wg]at h;rw[j,h]
    .cases h
   |bool=>
    simp only at h⊢;split at h
    .assumption
    .cases h
   |str=>
    simp only at h⊢;split at h
    .assumption
    .cases h
   |slice e=>cases h
   |own e=>cases h
   |prod a b=>cases h
  |slice e=>
   simp only[Xj,fg]at h⊢;obtain⟨⟨l,c⟩,d⟩:=h;refine⟨l,?_,?_⟩
   .split at c
    .rename_i e' j;rw[j];have:e'=e:=by simpa using c
     rw[this]
    .cases c
   .split at d
    .rename_i o p;exact⟨o,p,by simpa using d⟩
    .cases d
  |struct fs=>
   simp only[Xj,fg]at h⊢;obtain⟨⟨⟨l,c⟩,d⟩,v⟩:=h;refine⟨l,?_⟩;split at c
   .rename_i g j;obtain⟨w,x⟩:=OY _ _ c;exact⟨g,j,w,λf y=>x f (by simpa using y),d,v⟩
   .cases c
  |ptr e=>
   simp only[Xj,fg]at h⊢;refine⟨h.1,?_⟩;have h:=h.2;split at h
   .rename_i e' j;rw[j];have:e'=e:=by simpa using h
    rw[this]
   .cases h
  |arr n e=>
   simp only[Xj]at h⊢;obtain⟨⟨l,c⟩,d⟩:=h;refine⟨l,?_,?_⟩
   .split at c
    .rename_i n' e' j;simp only[Xj]at c;have r:n'=n:=by simpa using c.1
     have s:e'=e:=by simpa using c.2
     rw[j,r,s]
    .cases c
   .split at d
    .rename_i o p;simp only[Xj,Wg]at d;refine⟨o,p,d.1,λm f A=>?_⟩;have:=d.2;unfold TE.plain at this;rw[A]at this;cases this
    .cases d
 .unfold Nm at hi;split at hi
  .rename_i i u;split at hi
   .rename_i z B;simp only[Xj]at hi;obtain⟨⟨l,c⟩,d⟩:=hi;exact⟨i,z,u,by simpa using l,B,QX _ _ c,XN d⟩
   .cases hi
  .cases hi
theorem WzF{P:Program}{T:Tab}(h:EG P T T=true):aO P T:=by
 have c:∀l,EG P T l=true->∀t te,Wt l t=some te->TEok P T t te:=by
  intro l
  induction l with
  |nil=>intro _ t te a;cases a
  |cons p l ih=>
   intro b t te a;obtain⟨f,d⟩:=p;simp only[EG,Xj]at b;rw[WW]at a;split at a
   .rename_i e;subst e;injection a with a;subst a;exact WpI b.1.1 b.1.2
   .exact ih b.2 t te a
 exact c T h
theorem Uw{P:Program}:gi P []:=λk a h=>by cases h
theorem Wwh{P:Program}{Γ:Ctx}{k:FuncId}{b:Sig}(f:xK P k b)(d:Ea P k)(h:gi P Γ):gi P ((k,b)::Γ):=λk' c a=>by
 simp only[Wt]at a;split at a
 .rename_i e;have:k=k':=by simpa using e
  subst this;injection a with a;subst a;exact⟨f,d⟩
 .exact h k' c a
def qq(f:Func):Bool:=f.body.isSome&& !(f.name== "runtime.NumGoroutine")
theorem DR{P:Program}{k:FuncId}{f:Func}(a:P.funcs[k]?=some f)(h:qq f=true):Ea P k:=by
 simp only[qq,Xj,fg]at h;refine⟨f,a,?_,h.2⟩;cases hb:f.body with
 |none=>rw[hb]at h;cases h.1
 |some c=>rfl
def Ew(f:Func)(a:List PTy):Bool:=match f.body with
 |some c=>kZ f.ntmps (lN a 0 0) c&&Nat.ble (fX a) f.ntmps&&ic a
 |none=>false
theorem Wsm{P:Program}{T:Tab}{Γ:Ctx}(e:P.follows .mixedOrders=true)(g:aO P T)(j:gi P Γ){f:Func}{k:FuncId}(i:P.funcs[k]?=some f){sg:Sig}(a:Ew f sg.ps=true){b:Nat->List Ghost}
  (h:∀d o,sg.run d=some o->∃N,den T Γ b N sg f d some=some o):xK P k sg:=by
 unfold Ew at a;split at a
 .rename_i c hb;simp only[Xj]at a;exact Wyi e g j i hb a.1.1 a.2 (XN a.1.2) h
 .cases a
def xb:Code->List Code
 | .seq a b=>xb a++xb b
 | .cond _ a b=>xb a++xb b
 | .block _ c=>xb c
 | .loop c=>c::xb c
 |_=>[]
def UH(f:Func):Code:=match f.body with
 |some c=>c
 |none=>.skip
def Tx(f:Func)(i:Nat):Code:=(xb (UH f)).getD i .skip
noncomputable def xL{R:Type}(T:Tab)(Γ:Ctx)(d:Nat->List Ghost)(N:Nat):Code->List Nat->(Ex->St->Option R)->Ex->St->Option R
 | .seq a b,p,k=>match p with
  |0::p=>xL T Γ d N a p λe ai=>match e with
   | .normal=>sx T Γ d N b ai k
   | .exit id=>k (.exit id) ai
   | .ret=>k .ret ai
  |_::p=>xL T Γ d N b p k
  | []=>k
 | .cond _ x y,p,k=>match p with
  |0::p=>xL T Γ d N x p k
  |_::p=>xL T Γ d N y p k
  | []=>k
 | .block id c,p,k=>match p with
  |_::p=>xL T Γ d N c p λe ai=>match e with
   | .exit cz=>if cz=id then k .normal ai else k (.exit cz) ai
   | .normal=>k .normal ai
   | .ret=>k .ret ai
  | []=>k
 |_,_,k=>k
def ZJ{R:Type}(a:List Ghost)(L:St->(Ex->St->Option R)->Option R)(K:Ex->St->Option R):Ex->St->Option R:=λe st=>match e with
 | .normal=>match lL a st with
  |some (c,ai)=>bif c then L ai K else none
  |none=>none
 | .exit id=>K (.exit id) st
 | .ret=>K .ret st
abbrev vI(x:Int):AVal:=.s (.one (.val (.int .i64) x))
abbrev vB(x:Bool):AVal:=.s (.one (.val .bool x))
abbrev vV(t:Ty)(x:t.den):AVal:=.s (.one (.val t x))
abbrev vO(i:Nat):AVal:=.s (.one (.own i))
abbrev vP(i o:Nat):AVal:=.s (.one (.ptr i o))
abbrev Qs(s:Sig):=dv s.ps×d7 s.rs
structure Fn where
 F:Func
 a:Nat->List Ghost
 s:Nat->Sig
 c:Nat->Ctx
def WL:Nat->List Ghost:=λ_=>[]
def cd:Nat->Ctx:=λ_=>[]
noncomputable def lpM{R:Type}(T:Tab)(Γ:Ctx)(a:Nat->List Ghost)(N:Nat)(F:Func)(i k n:Nat)(st:St)(K:Ex->St->Option R):Option R:=xH (By (a k) λst k=>sx T Γ a N (Tx F i) st k) n st K
noncomputable def cxF(T:Tab)(Γ:Ctx)(a:Nat->List Ghost)(N:Nat)(b:Sig)(F:Func)(p:List Nat):Ex->St->Option (Qs b):=xL (R:=Qs b) T Γ a N (UH F) p (K3 T b F.results.toList some)
noncomputable def cxL{R:Type}(T:Tab)(Γ:Ctx)(a:Nat->List Ghost)(N:Nat)(F:Func)(i k:Nat)(p:List Nat)(n:Nat)(K:Ex->St->Option R):Ex->St->Option R:=xL T Γ a N (Tx F i) p (ZJ (a k) (lpM T Γ a N F i k n) K)
section
open Go.ChangeShapes Go.WideShapes Go.ChangeAt Go.RowKit
def p6:(t:Ty)->t.den->Prop
 | .int k,n=>(Lit.int k n).wf=true
 | .bool,_=>True
 | .str,s=>Xb s<=maxLen
 | .slice e,l=>Xb l<=maxLen/\∀x,List.Mem x l->p6 e x
 | .own _,_=>False
 | .prod a b,d=>p6 a d.1/\p6 b d.2
def kc:(t:Ty)->t.den->Nat
 | .int _,_=>1
 | .bool,_=>1
 | .str,s=>Xb s+1
 | .slice e,l=>(xX (kc e) l).sum+1
 | .own _,_=>0
 | .prod a b,d=>kc a d.1+kc b d.2
structure Bulk{H:Type}(β:DataW H->Nat):Prop where
 lit:∀l,1<=β (.lit l)
 str:∀s,s.length+1<=β (.lit (.string s))
 nil:1<=β .nil
 slice:∀es sp,(es.map β).sum+1<=β (.slice es sp)
 agg:∀ps,(ps.map β).sum<=β (.agg ps)
def BC(T:Tab):List (Nat×TypeId)->Nat->Option (List Ty)
 | [],_=>some []
 |(o,ft)::fs,off=>match Wt T ft with
  |some te=>bif eb o off&&te.plain then(BC T fs (off+te.ty.size)).map (te.ty:: ·)else none
  |none=>none
def lQ:List Ty->Ty
 | []=>.bool
 | [t]=>t
 |t::ts=>.prod t (lQ ts)
def xF(T:Tab):Nat->TypeId->Bool
 |0,_=>false
 |n+1,t=>match Wt T t with
  |some te=>match te.shape with
   | .basic=>match te.ty with
    | .int _=>true
    | .bool=>true
    | .str=>true
    | .slice _=>false
    | .own _=>false
    | .prod _ _=>false
   | .slice e=>xF T n e&&(match Wt T e with|some eQ=>eQ.plain|none=>false)
   | .struct fs=>fs.all (λf=>xF T n f.2)&&(match BC T fs 0 with
    |some (t::ts)=>decide (te.ty=lQ (t::ts))
    |_=>false)
   | .ptr _=>false
   | .arr _ _=>false
  |none=>false
section
variable{P:Program}{T:Tab}{H:Type}{enc:TypeId×Value->H}{β:DataW H->Nat}{w:World}
theorem LN{t:TypeId}{a:TE}(h:TEok P T t a):P.cellsOf t=a.size:=by
 obtain⟨i,z,b,c,_⟩:=h.info;unfold Program.cellsOf;rw[b];exact c
def xB(w:World):GH:=λb o=>w.cell? ⟨b,o,none⟩
theorem Wtb{b:Nat}{a:Addr}{n:Nat}{cs:List Value}(h:w.cells? b a n=some cs):cs.length=n/\∀(j:Nat) (v:Value),cs[j]?=some v->w.cell? (a.add j)=some v:=by
 unfold World.cells? at h;split at h
 .refine⟨by simpa using mapM_some_length h,λj v c=>?_⟩;have d:j<n:=by
   have:=mapM_some_length h;have e:=(fe.1 c).1;simp at this;omega
  have:=mapM_some_get h j j (by simp[d]);rw[this];exact c
 .cases h
theorem Te{e:Ty}{a:Addr}(n:Nat)(F:0<n):∀(k:Nat) (b:Nat) (c:Nat->Option (DataW H×List MemPlace)) (f:List Value->Option (DataW H×List MemPlace)),
  (∀cs y,f cs=some y->∃d:e.den,Enc (xB w) e d cs/\p6 e d/\kc e d<=β y.1)->
  (∀i,b<=i->i<b+k->∃y cs,w.cells? 0 (a.add (i*n)) n=some cs/\f cs=some y/\c i=some y)->
  ∃(l:List e.den) (cs:List Value),l.length=k/\b4 (Enc (xB w) e) l cs/\(∀x∈l,p6 e x)/\(∀(j:Nat) (v:Value),cs[j]?=some v->w.cell? (a.add (b*n+j))=some v)/\
   cs.length=k*n/\(l.map (kc e)).sum<=((c7 k).map λi=>match c (b+i)with|some y=>β y.1|none=>0).sum
 |0,b,c,f,h,he=>⟨[],[],rfl,rfl,by simp,by simp,by simp,by simp⟩
 |k+1,b,c,f,h,he=>by
  obtain⟨y,o,A,B,C⟩:=he b (Xl _) (by omega);obtain⟨d,q,G,D⟩:=h _ _ B;obtain⟨l,cs,r,s,t,u,z,I⟩:=Te n F k (b+1) c f h (λi K J=>he i (by omega) (by omega));obtain⟨p,E⟩:=Wtb A;refine⟨d::l,o++cs,by simp[r],⟨o,cs,rfl,q,s⟩,λx m=>?_,λj v g=>?_,?_,?_⟩
  .rcases Xs.1 m with rfl|m
   .exact G
   .exact t x m
  .rw[hG]at g;split at g
   .have:=E j v g;rw[Addr.add_add]at this;exact this
   .rename_i ab;have:=u _ v g;rw[p]at this ab;have e:(b+1)*n+(j-n)=b*n+j:=by rw[lC];omega
    rw[e]at this;exact this
  .rw[Xx,p,z,lC];omega
  .rw[List.range_succ_eq_map,bK,bK,Fc,Fc,Ff];simp only[eL,C];have:((λi=>match c (b+i)with|some y=>β y.1|none=>0)∘Nat.succ)= λi=>match c (b+1+i)with|some y=>β y.1|none=>0:=by
    funext i;simp only[Function.comp,Nat.succ_eq_add_one];rw[show b+(i+1)=b+1+i by omega]
   rw[this];omega
theorem Wyh{a:DataW H×List MemPlace->Nat}(xs:List (DataW H×List MemPlace)):((c7 xs.length).map λi=>match xs[0+i]? with|some y=>a y|none=>0).sum=(xs.map a).sum:=by
 congr 1;apply List.ext_getElem
 .simp
 .intro i h1 h2;simp at h1;simp[h1]
theorem WoT{t:Ty}{a:List Ty}(h:a≠ []):lQ (t::a)= .prod t (lQ a):=by
 cases a with
 |nil=>exact Wi rfl h
 |cons _ _=>rfl
theorem Qi(u:aO P T)(M:Bulk β)(f:TypeId->List Value->Option (DataW H×List MemPlace)){cs:List Value}:∀(k:List (Nat×TypeId)) (off:Nat) (j:List Ty) (h:List (DataW H×List MemPlace)),j≠ []->BC T k off=some j->
  (∀b∈k,∀c cs y,Wt T b.2=some c->f b.2 cs=some y->∃d:c.ty.den,Enc (xB w) c.ty d cs/\p6 c.ty d/\kc c.ty d<=β y.1)->
  h.length=k.length->(∀(i:Nat) (b:Nat×TypeId),k[i]?=some b->f b.2 ((cs.drop b.1).take (P.cellsOf b.2))=h[i]?)->cs.length=off+(lQ j).size->
  ∃d:(lQ j).den,Enc (xB w) (lQ j) d (cs.drop off)/\p6 (lQ j) d/\kc (lQ j) d<=(h.map λy=>β y.1).sum
 | [],off,j,h,p,e,_,_,_,_=>by injection e with e;exact Wi e.symm p
 |(o,ft)::k,off,j,h,p,e,v,l,B,cu=>by
  cases h with
  |nil=>simp at l
  |cons y h=>
   simp only[BC]at e;split at e
   .rename_i c hl;obtain⟨n,e⟩:=iy e;simp only[Xj]at n;have L:o=off:=by simpa using n.1
    obtain⟨C,a,rfl⟩:=dw.1 e;have D:P.cellsOf ft=c.ty.size:=by rw[LN (u _ _ hl),W9 n.2]
    have s:=B 0 (o,ft) rfl;simp only[N6,D,L]at s;obtain⟨q,m,r,F⟩:=v (o,ft) (Xg ..) c _ y hl s;cases fN:k with
    |nil=>
     subst fN;simp only[BC]at a;injection a with a;subst a;have Q:h= []:=by cases h with
      |nil=>rfl
      |cons _ _=>simp at l
     subst Q;have O:(cs.drop off).take c.ty.size=cs.drop off:=mc (by rw[List.length_drop,cu];simp[lQ]);rw[O]at m;exact⟨q,m,r,by rw[bK,cV,Fc,List.sum_nil,eL];exact F⟩
    |cons g gs=>
     have z:C≠ []:=by
      rw[fN]at a;obtain⟨S,J⟩:=g;simp only[BC]at a;split at a
      .obtain⟨_,a⟩:=iy a;obtain⟨x,_,rfl⟩:=dw.1 a;simp
      .cases a
     have A:=WoT (t:=c.ty) z;obtain⟨E,G,I,R⟩:=Qi u M f (cs:=cs) k (off+c.ty.size) C h z a (λb N=>v b (Xf _ N)) (by simpa using l)
      (λi b K=>by have:=B (i+1) b (by simpa using K);simpa using this) (by rw[cu,A,Ty.size];omega)
     rw[A];refine⟨(q,E),⟨_,_,?_,m,G⟩,⟨r,I⟩,?_⟩
     .rw[←List.drop_drop];exact(List.take_append_drop _ _).symm
     .simp only[kc,bK,Fc];omega
   .cases e
theorem Mu(E:aO P T)(f:Bulk β):∀(n o:Nat) (t:TypeId) (g:TE) (cs:List Value) (x:DataW H×List MemPlace),xF T n t=true->Wt T t=some g->
  DataW.trod enc P w 0 (λ_=>true) true o t cs=some x->∃d:g.ty.den,Enc (xB w) g.ty d cs/\p6 g.ty d/\kc g.ty d<=β x.1
 |0,_,_,_,_,_,h,_,_=>by cases h
 |n+1,o,t,g,cs,x,h,Y,z=>by
  have G:=E _ _ Y;simp only[xF,Y]at h;obtain⟨ty,agg,shape⟩:=g;cases shape with
  |basic=>
   have u:=G.und.2;cases ty with
   |int k=>
    obtain⟨m,rfl,rfl,hw⟩:=DataW.trod_int u z;exact⟨m,rfl,hw,f.lit _⟩
   |bool=>
    obtain⟨b,rfl,rfl⟩:=DataW.trod_bool u z;exact⟨b,rfl,trivial,f.lit _⟩
   |str=>
    obtain⟨s,rfl,rfl,hs⟩:=DataW.trod_string u z;refine⟨s.data.toList,by simp[Enc],?_,f.str _⟩;show s.data.toList.length<=maxLen;rw[Array.length_toList];exact hs
   |slice e=>cases h
   |own e=>cases h
   |prod a b=>cases h
  |slice e=>
   simp only[Xj]at h;obtain⟨ha,u,p,L,K⟩:=G.und;simp only at K;subst K;have hp:p.plain=true:=by have:=h.2;rw[L]at this;exact this
   have M:P.cellsOf e=p.ty.size:=by rw[LN (E _ _ L),W9 hp]
   rcases DataW.trod_slice u z with⟨rfl,rfl⟩|⟨a,B,D,c,F,m,rfl,rfl,rfl,hb,Br,mj,wX,rz,li,_⟩
   .exact⟨([]:List p.ty.den),⟨_,rfl,.inl ⟨rfl,rfl⟩⟩,⟨by simp,λx z=>by cases z⟩,by simpa [kc]using f.nil⟩
   .have A:=Te (w:=w) (β:=β) (e:=p.ty) (a:=a) p.ty.size (mH _) B 0 (λi=>c[i]?) (λcs=>DataW.trod enc P w 0 (λ_=>true) true m e cs)
     (λcs y R=>Mu E f n m e p cs y h.1 L R) (λi _ C=>by
      rw[dj]at C;have:=rz i C;rw[M]at this;have V:i<c.length:=by omega
      rw[Xp V]at this;obtain⟨cs,J,r⟩:=t8.1 this;exact⟨c[i],cs,J,r,Xp V⟩)
    obtain⟨l,cs,q,O,Q,X,g5,g6⟩:=A;refine⟨l,⟨_,rfl,?_⟩,⟨by rw[q];omega,Q⟩,?_⟩
    .by_cases h0:B=0
     .subst h0;exact .inr (.inr ⟨a,D,rfl,Xv q⟩)
     .have vo:0<cs.length:=by rw[g5];exact Nat.mul_pos (by omega) (mH _)
      have tG:=X 0 _ (Xp vo);have tH:a.spot=none:=by
       rw[Fh,eL]at tG;have:=World.cell?_spot tG;simpa [Addr.add]using this
      obtain⟨b,S,Z⟩:=a;subst tH;refine .inr (.inl ⟨b,S,D,cs,by rw[q],by rw[q];exact Br,mj,O,λj v hj=>?_⟩);have:=X j v hj;rw[Fh,dj,jI]at this;exact this
    .have J:=f.slice (c.map (·.1)) (F.map (·.1));have r:((c7 B).map λi=>match c[0+i]? with|some y=>β y.1|none=>0).sum=(c.map λy=>β y.1).sum:=by
      rw[←wX];exact Wyh c
     rw[r]at g6;rw[Ff]at J;simp only[kc];have h3:(xX (β∘λx=>x.1) c)=c.map λy=>β y.1:=rfl;rw[h3]at J;show(xX (kc p.ty) l).sum+1<=_;omega
  |struct fs=>
   simp only[Xj]at h;obtain⟨ha,I,u,W,ze,_⟩:=G.und;have r:=h.2;split at r
   .rename_i U ts mC;have K:ty=lQ (U::ts):=Wx r;subst K;obtain⟨xs,m,rfl,rfl,bN,kG,nl⟩:=DataW.trod_struct u z;have M:P.cellsOf t=(lQ (U::ts)).size:=by rw[LN G];rfl
    have A:=Qi (w:=w) (P:=P) E f (λt cs=>DataW.trod enc P w 0 (λ_=>true) true m t cs) (cs:=cs) fs 0 (U::ts) xs (by simp) mC
     (λN j8 g cs y tD R=>Mu E f n m N.2 g cs y (cq.1 h.1 N j8) tD R) (by rw[kG,←W];simp)
     (λi N C=>by
      rw[←W]at C;rw[ff]at C;obtain⟨fl,ja,he⟩:=dw.1 C;subst he;exact nl i fl (by simpa using ja)) (by rw[bN,M,dj])
    obtain⟨d,q,O,Q⟩:=A;rw[qC]at q;refine⟨d,q,O,jR Q ?_⟩;have:=f.agg (xs.map (·.1));rw[Ff]at this;exact this
   .cases r
  |ptr e=>cases h
  |arr m e=>cases h
theorem DT{G:GH}{w:World}:∀(t:Ty) (d:t.den) (vs:List Value),Enc G t d vs->WF G w t d vs []
 | .int _,_,_,h=>⟨rfl,h⟩
 | .bool,_,_,h=>⟨rfl,h⟩
 | .str,_,_,h=>⟨rfl,h⟩
 | .slice _,_,_,h=>⟨rfl,h⟩
 | .own _,_,_,h=>h.elim
 | .prod a b,d,vs,⟨c,e,i,f,g⟩=>⟨c,e,[],[],i,rfl,DT a _ _ f,DT b _ _ g⟩
def HM:(a:List PTy)->c6 a->Prop
 | [],_=>True
 | .v t _::a,d=>p6 t d.1/\HM a d.2
 | .box _::_,_=>False
 | .mut _::_,_=>False
 | .clos _ _::_,_=>False
 | .kv _ _::_,_=>False
 | .rp _::_,_=>False
 | .vj _::_,_=>False
 | .boxal _ _::_,_=>False
def D3:(a:List PTy)->c6 a->Nat
 | [],_=>0
 | .v t _::a,d=>kc t d.1+D3 a d.2
 | .box _::_,_=>0
 | .mut _::_,_=>0
 | .clos _ _::_,_=>0
 | .kv _ _::_,_=>0
 | .rp _::_,_=>0
 | .vj _::_,_=>0
 | .boxal _ _::_,_=>0
def BS(P:Program)(T:Tab):List TypeId->List PTy->Bool
 | [],[]=>true
 |t::ts,p::ps=>(match p with
  | .v ty agg=>(match Wt T t with|some te=>decide (te.ty=ty)&&(te.agg==agg)|none=>false)&&xF T 20 t&&P.readableRec t&&Nat.blt t P.types.size&&BS P T ts ps
  | .box _=>false
  | .mut _=>false
  | .clos _ _=>false
  | .kv _ _=>false
  | .rp _=>false
  | .vj _=>false
  | .boxal _ _=>false)
 |_,_=>false
theorem QK(E:aO P T)(K:Bulk β):∀(i:List TypeId) (g:List PTy) (vs:List Value) (C:List (DataW H)) (F:List MemPlace),BS P T i g=true->DataW.TrodAll enc P w 0 (λ_=>true) true i vs C F->
  (∀(j:Nat) (t:TypeId) (v:Value),i[j]?=some t->vs[j]?=some v->∃o,Value.okWide P w .any o t v)->
  ∃d:c6 g,iU (xB w) w g d vs [] []/\HM g d/\D3 g d<=(C.map β).sum
 | [],[],vs,C,F,_,h,_=>by
  obtain⟨rfl,rfl,_⟩:=trodAll_nil h;exact⟨(),⟨rfl,rfl,rfl⟩,trivial,by simp[D3]⟩
 | [],_::_,_,_,_,h,_,_=>by cases h
 |_::_,[],_,_,_,h,_,_=>by cases h
 |t::i,.box _::g,_,_,_,h,_,_=>by cases h
 |t::i,.mut _::g,_,_,_,h,_,_=>by cases h
 |t::i,.clos _ _::g,_,_,_,h,_,_=>by cases h
 |t::i,.kv _ _::g,_,_,_,h,_,_=>by cases h
 |t::i,.rp _::g,_,_,_,h,_,_=>by cases h
 |t::i,.vj _::g,_,_,_,h,_,_=>by cases h
 |t::i,.boxal _ _::g,_,_,_,h,_,_=>by cases h
 |t::i,.v ty agg::g,vs,C,F,J,h,eV=>by
  obtain⟨v,I,d,tI,p,q,rfl,rfl,rfl,U,X⟩:=trodAll_cons h;simp only[BS,Xj]at J;obtain⟨⟨⟨⟨z,A⟩,h3⟩,h4⟩,V⟩:=J;split at z
  .rename_i te hl;simp only[Xj]at z;have O:te.ty=ty:=Wx z.1;have Q:te.agg=agg:=eq_of_beq z.2;subst O Q;obtain⟨y,Z⟩:=U;obtain⟨x,B,L,G⟩:=Mu E K 20 y t te _ (d,p) A hl Z;obtain⟨o,s⟩:=eV 0 t v rfl rfl;obtain⟨N,R,S,g3⟩:=QK E K i g I tI q V X (λj t v W Y=>eV (j+1) t v (by simpa using W) (by simpa using Y));refine⟨(x,N),⟨v,I,[],[],rfl,rfl,?_,R⟩,⟨L,S⟩,?_⟩
   .have f:=(E _ _ hl).und;unfold fC;obtain⟨ty,ag,shape⟩:=te;simp only at B L G⊢;have fD:∀u:Value,u.cells= #[u]->u=v->v.cells.toList= [v]:=λu h e=>by rw[←e,h]
    cases shape with
    |basic=>
     obtain⟨r,f⟩:=f;simp only at r;subst r;simp only[jP,gH];have:v.cells.toList= [v]:=by
      cases ty with
      |int k=>obtain⟨n,rfl⟩:=okWide_int f s;rfl
      |bool=>obtain⟨n,rfl⟩:=okWide_bool f s;rfl
      |str=>obtain⟨n,rfl⟩:=okWide_string f s;rfl
      |slice e=>cases f
      |own e=>cases f
      |prod a b=>cases f
     rw[this]at B;exact DT _ _ _ B
    |slice e=>
     obtain⟨r,f,_⟩:=f;simp only at r;subst r;simp only[jP,gH];obtain⟨a,l,c,rfl⟩:=okWide_slice f s;exact DT _ _ _ B
    |struct fs=>
     obtain⟨r,D,f,_⟩:=f;simp only at r;subst r;simp only[ep];obtain⟨M,rfl,_⟩:=okWide_struct f s;exact⟨M.toList,by simp,DT _ _ _ B⟩
    |ptr e=>simp only[xF,hl]at A;cases A
    |arr m e=>simp only[xF,hl]at A;cases A
   .have G:kc te.ty x<=β d:=G;simp only[D3,bK,Fc];omega
  .cases z
theorem Re:∀(b:List TypeId) (vs:List Value) (a:List (DataW H)) (c:List MemPlace),DataW.TrodAll enc P w 0 (λ_=>true) true b vs a c->a.length=b.length
 | [],vs,a,c,h=>by obtain⟨_,rfl,_⟩:=trodAll_nil h;rfl
 |t::b,vs,a,c,h=>by
  obtain⟨v,e,d,g,p,q,rfl,rfl,rfl,i,f⟩:=trodAll_cons h;simp[Re b e g q f]
theorem Rl(m:laidOutB P=true){W g:World}(k:Below W.heap.size W g){n:Nat->Bool}:∀(a:List TypeId) (b:List PTy) (vs:List Value) (f:List (DataW H)) (e:List MemPlace),BS P T a b=true->
  DataW.TrodAll enc P W 0 (λ_=>true) true a vs f e->(∀p∈e,p.block<W.heap.size)->(∀p∈e,n p.block=true)->DataW.TrodAll enc P g 0 n true a vs f e
 | [],b,vs,f,e,_,h,_,_=>by
  obtain⟨rfl,rfl,rfl⟩:=trodAll_nil h;exact trodAll_mk0
 |t::a,[],_,_,_,h,_,_,_=>by cases h
 |t::a,.box _::b,_,_,_,h,_,_,_=>by cases h
 |t::a,.mut _::b,_,_,_,h,_,_,_=>by cases h
 |t::a,.clos _ _::b,_,_,_,h,_,_,_=>by cases h
 |t::a,.kv _ _::b,_,_,_,h,_,_,_=>by cases h
 |t::a,.rp _::b,_,_,_,h,_,_,_=>by cases h
 |t::a,.vj _::b,_,_,_,h,_,_,_=>by cases h
 |t::a,.boxal _ _::b,_,_,_,h,_,_,_=>by cases h
 |t::a,.v ty agg::b,vs,f,e,l,h,i,li=>by
  obtain⟨v,o,d,y,p,q,rfl,rfl,rfl,r,w⟩:=trodAll_cons h;simp only[BS,Xj]at l;obtain⟨⟨⟨⟨z,A⟩,s⟩,j⟩,u⟩:=l;have af:t<P.types.size:=by rw[On]at j;exact j
  exact⟨p,q,WideElems.Trod_stays m s af r (λx c=>k.same (i x (Xm _ c))) (λx c=>li x (Xm _ c)),
   Rl m k a b o y q u w (λx c=>i x (Xh _ c)) (λx c=>li x (Xh _ c)),rfl⟩
theorem WvM{f:Func}{s:ChangeSpec}{mY e B again:Bool}{W W':World}{c:Array Value}{v:Value}{h i:List (DataW H)}{before pa pv:List MemPlace}
  (l:DataW.Whole enc P f.params.toList s.vars mY W c.toList h i before)
  (q:∀(b:Nat) (g:Nat->Bool) (x:Bool),DataW.TrodAll enc P W' b g x f.resultTypes.toList (v.resultList f.resultTypes.size) (s.fn H (h++i)).results [])
  (m:∀g:Nat->Bool,(∀p∈before,g p.block=true)->DataW.TrodAll enc P W' 0 g true f.params.toList c.toList (s.fn H (h++i)).args pa)
  (u:∀g:Nat->Bool,(∀p∈before,g p.block=true)->DataW.TrodVars enc P W' g s.vars (s.fn H (h++i)).vars pv)
  (k:before=pa++pv) (y:W.keptBut W' (· ∈before)) (C:∀a,a.block<W.heap.size->W'.frozen? a=W.frozen? a)
  (w:∀(j:Nat) (t:TypeId) (r:Value),f.resultTypes[j]?=some t->(v.resultList f.resultTypes.size)[j]?=some r->Value.okWide P W' .any 0 t r):
  s.post enc P f mY e B again W c v W':=by
 have o:∀p∈before,(λb=>decide (b<W.heap.size)) p.block=true:=λp d=>by simpa using l.lt p d
 refine⟨h,i,before,[],pa,pv,l,q _ _ _,m _ o,u _ o,World.keptBut_mono (λp d=>⟨d,?_⟩) y,λ_=>?_⟩
 .rw[k,Xn]at d;exact Or.inr d
 .have ab:=l.lt;obtain⟨_,_,_,_,_,A,z⟩:=l;refine⟨w,_,_,([]++pa)++pv,⟨[]++pa,pv,trodAll_append (m _ (λ_ _=>rfl)) (q _ _ _),u _ (λ_ _=>rfl),rfl,?_,?_⟩,?_⟩
  .intro b off d;have n:MemPlace.cell b off∈before:=by rw[k];simpa using d
   rw[C ⟨b,off,none⟩ (ab _ n)];exact A b off n
  .intro ha;have:=z ha;rw[k]at this;simpa using this
  .intro p d _;rw[k];simpa using d
theorem law_row(hT:aO P T)(kr:laidOutB P=true){f:Func}{k:FuncId}{s:ChangeSpec}(C:s.vars= [])(hs:∀g:List (DataW H),g.length=f.params.toList.length->s.fn H g={results:=[.lit (.bool true)],args:=g})
  {ps:List PTy} (B:BS P T f.params.toList ps=true) {tb:TypeId} (G:f.resultTypes= #[tb]) (I:P.underlying tb=some .bool) {run:Nat->c6 ps->Option (dv ps×d7 [.v .bool false])}
  (mw:∀N,xK P k (Sig.of ps [.v .bool false] (run N))) (hβ:Bulk β) {ok:List (DataW H)->Prop} {M:Nat->Prop} (tJ:∀g m,ok g->m<=(g.map β).sum->M m)
  (wZ:∀d:c6 ps,HM ps d->M (D3 ps d)->∃N o,run N d=some (o,(true,()))) {mY i ia again:Bool}
  (W:World) (base:Nat) (args:Array Value) (g X:List (DataW H)) (c:List MemPlace)
  (U:∀(j:Nat) t v,f.params[j]?=some t->args[j]?=some v->Value.okWide P W .any base t v)
  (x:DataW.Whole enc P f.params.toList s.vars mY W args.toList g X c) (hk:ok g):
  Calls P k args W λe W'=>∃v,e= .returned v/\s.post enc P f mY i ia again W args v W':=by
 have y:=x;have L:=x.lt;obtain⟨p,q,u,D,J,zg,bv⟩:=x;rw[C]at D;obtain⟨w4,z⟩:=trodVars_none D;subst w4 z;rw[xV]at J;subst J;obtain⟨d,Y,Z,h3⟩:=QK (w:=W) hT hβ f.params.toList ps args.toList g c B u (λj t v hj n=>⟨base,U j t v (by simpa using hj) (by simpa using n)⟩);obtain⟨N,o,ho⟩:=wZ d Z (tJ g _ hk h3);have E:=mw N d (o,(true,())) ho (xB W) W args.toList [] [] Y List.Pairwise.nil (by simp) (λb o v n=>n);have O:args.toList.toArray=args:=by simp
 rw[O]at E;refine E.mono λe W' ⟨rv,kf,ms,dD,G',F,h⟩=>?_;have l:Below W.heap.size W W':=⟨h.le.os,h.le.tape,h.le.output,h.le.size,λb l=>h.le.whole b l (λo ⟨q,z,_⟩=>by simp at z)⟩;obtain⟨v,aC,n1,n2,Q,e2,r,R⟩:=h.res;obtain⟨S,_⟩:=R;subst S;have n:v= .bool true:=by
  unfold fC at r;simp only[jP,gH]at r;have:=r.2;simpa [Enc]using this
 subst n;have V:xA rv= .bool true:=by rw[Q];rfl
 rw[V]at F;refine⟨.bool true,F,?_⟩;have K:=Re _ _ _ _ u;have A:=hs (g++ []) (by rw[xV];exact K);refine WvM (pa:=c) (pv:=[]) y ?_ ?_ ?_ (by simp) (l.frame _) (λa h=>l.frozen h) (ok_one G rfl (okWide_bool_mk I _))
 .intro b sp hd;rw[A,G];exact trodAll_cons_mk (shut_bool I _) trodAll_mk0
 .intro sp li;rw[A,xV];exact Rl kr l _ _ _ _ _ B u L li
 .intro sp li;rw[A,C];rfl
end
end

def qs{α:Type}(r:α->α->Bool):List α->Bool
 | []=>true
 |x::l=>l.all (r x)&&qs r l
def mT{α:Type}(cf:α->α->Int)(x y:α):Bool:=decide (cf x y<0)
def mY{α:Type}(cf:α->α->Int)(x y:α):Bool:=mT cf x y||mT cf y x
def lb{α:Type}(cf:α->α->Int)(xs:List α):List α:=xs.mergeSort λx y=>!mT cf y x
def Ah{α:Type}(rng:α->Bool)(cf:α->α->Int)(N:Nat)(xs:List α):Option ((List α×Unit)×Unit):=
 bif xs.all rng&&(qs (mY cf) xs&&decide (xs.length<4611686018427387904))then some ((lb cf xs,()),())else none
structure SwoOn{α:Type}(rng:α->Bool)(cf:α->α->Int):Prop where
 irr:∀x,rng x=true->¬cf x x<0
 tr:∀x y z,rng x=true->rng y=true->rng z=true->cf x y<0->cf y z<0->cf x z<0
 nt:∀x y z,rng x=true->rng y=true->rng z=true->¬cf x y<0->¬cf y z<0->¬cf x z<0
theorem Wpg{α:Type}{rng:α->Bool}{cf:α->α->Int}{N:Nat}{xs:List α}{o:(List α×Unit)×Unit}(h:Ah rng cf N xs=some o):
  (∀x∈xs,rng x=true)/\qs (mY cf) xs=true/\xs.length<4611686018427387904/\o=((lb cf xs,()),()):=by
 unfold Ah at h;cases hb:xs.all rng&&(qs (mY cf) xs&&decide (xs.length<4611686018427387904))
 .rw[hb]at h;cases h
 .rw[hb]at h;simp only[We]at h;injection h with h;simp only[Xj,Wg]at hb;exact⟨cq.1 hb.1,hb.2.1,hb.2.2,h.symm⟩
theorem RV{α:Type}{r:α->α->Bool}:∀{l:List α},qs r l=true->∀(i j:Nat) (hi:i<l.length) (a:j<l.length),i<j->r l[i] l[j]=true
 | [],_,i,_,hi,_,_=>by simp at hi
 |x::l,h,0,j+1,hi,a,je=>by
  simp only[qs,Xj]at h;exact cq.1 h.1 _ (List.getElem_mem _)
 |x::l,h,i+1,j+1,hi,a,je=>by
  simp only[qs,Xj]at h;simpa using RV h.2 i j (by simpa using hi) (by simpa using a) (by omega)
def tC(k:Int):Bool:=decide (-1000000000<=k)&&decide (k<=1000000000)
def E0(a:Int×Int×Int):Bool:=tC a.1
def cfE(a b:Int×Int×Int):Int:=a.1-b.1
def cfW(a b:Int×Int×List (Int×Int)):Int:=a.1-b.1
def xJ(a:Int×Int×Int):Bool:=tC a.1&&tC a.2.1
def cfH(a b:Int×Int×Int):Int:=bif a.2.1==b.2.1 then a.1-b.1 else a.2.1-b.2.1
theorem Bw{k:Int}(h:tC k=true):-1000000000<=k/\k<=1000000000:=by unfold tC at h;simpa using h
theorem YS:SwoOn E0 cfE:=⟨λx _=>by unfold cfE;omega,λx y z _ _ _=>by unfold cfE;omega,λx y z _ _ _=>by unfold cfE;omega⟩
theorem kR{a b:Int×Int×Int}:cfH a b<0↔(a.2.1<b.2.1\/(a.2.1=b.2.1/\a.1<b.1)):=by
 unfold cfH;by_cases h:a.2.1=b.2.1
 .have:(a.2.1==b.2.1)=true:=by simpa using h
  rw[this];simp only[We];omega
 .have:(a.2.1==b.2.1)=false:=by simpa using h
  rw[this];simp only[Wc];omega
theorem WzB{a b:Int×Int×Int}(h:(a.2.1 !=b.2.1)=false):a.1-b.1=cfH a b:=by
 have h:a.2.1=b.2.1:=bne_eq_false_iff_eq.1 h;unfold cfH;rw[beq_iff_eq.2 h];rfl
theorem WzM{a b:Int×Int×Int}(h:(a.2.1 !=b.2.1)=true):a.2.1-b.2.1=cfH a b:=by
 have h:a.2.1≠b.2.1:=bne_iff_ne.1 h;unfold cfH;rw[beq_eq_false_iff_ne.2 h];rfl
theorem YX:SwoOn xJ cfH:=⟨λx _=>by rw[kR];omega,λx y z _ _ _=>by rw[kR,kR,kR];omega,λx y z _ _ _=>by rw[kR,kR,kR];omega⟩
end Go.Sx
