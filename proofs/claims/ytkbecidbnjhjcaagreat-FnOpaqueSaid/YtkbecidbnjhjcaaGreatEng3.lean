/- The abstract machine, part 3: a reflective interpreter of the program's code over data, with its soundness over the model. -/
import Derived.Test.YtkbecidbnjhjcaaGreatEng2
open List renaming mem_cons→Xq,mem_cons_of_mem→Xe,mem_cons_self→Xh,length_append→Xac,getD_eq_getElem?_getD→Xae,getElem?_append→Xax,getElem?_cons_zero→Xdj,getElem?_eq_none→Xcp,all_eq_true→Xai,append_of_mem→Xdz,mem_append→Xm,range→Xdb,mem_filter→Xas,mem_range→Xec,filter_cons→Xbg,mem_map→Xt,eq_nil_of_length_eq_zero→Xab,eq_nil_iff_forall_not_mem→Xen,nodup_nil→Xcq,mem_of_getElem?→Xav,nodup_cons→Xah,nil_append→Xbs,cons_append→Xaz,length_filter_le→Xej,length_range→Xff,mem_append_left→Xl,mem_append_right→Xg,mem_flatMap→Xfj,map_cons→Xam,map_map→Xdx,map_congr_left→Xdi,append_nil→Xcw,nodup_append→Xag,filter_append→Xcr,prefix_append→Xgf,map_append→Xz,map_nil→Xby,mem_erase_of_ne→Xfz,length_erase_of_mem→Xea,length_pos_of_mem→Xfq,length_cons→Xx,getElem?_cons_succ→Xed,getElem?_eq_some_iff→Xad,getElem?_append_right→Xce,getElem?_tail→Xcb,mapM_cons→Xex,pairwise_singleton→Xbf,mem_singleton→Xaa,take_of_length_le→Xbv,getElem?_eq_getElem→Xp,drop_zero→Xcg,tail_cons→Xeb,getElem?_map→Xao,length→Xc,sum_cons→Xeg
open Nat renaming sub_self→Xcv,blt_eq→Xgs,le_refl→Xn,zero_add→Xba,zero_le→Xbr,sub_zero→Xde,beq→Xbp,le_trans→Xcm,add_zero→Xbb,add_sub_cancel_left→Xcc,le_of_ble_eq_true→Xfu,add_mul→Xct,zero_mul→Xeq
open Option renaming getD_some→Xei,bind_some→Xd,bind_eq_some_iff→Xbu,map_eq_some_iff→Xy
open Bool renaming and_eq_true→Xi,not_eq_true'→Xap,false_eq_true→Xbl,or_eq_true→Xck
open Array renaming getD_eq_getD_getElem?→Xcl,getElem?_setIfInBounds→Xeu,getElem?_eq_getElem→Xcz,getElem?_eq_some_iff→Xcy,replicate→Xdv
namespace Go.Sx
set_option linter.unusedVariables false
set_option linter.unusedSimpArgs false
theorem WoG{x y:Nat}{l:List Nat}:y∈WvI x l↔y=x\/y∈l:=by
 unfold WvI;cases h:Wcf x l with
 |true=>
  have:=(WaK x l).1 h;simp only[We];exact⟨.inr,λh=>h.elim (λe=>e▸this) id⟩
 |false=>simp
theorem Wjg{y:Nat}:∀(m l:List Nat),y∈WlS m l↔y∈m\/y∈l
 | [],l=>by simp[WlS]
 |x::m,l=>by
  rw[WlS,Wjg m,WoG,Xq];constructor
  .rintro(h|h|h)
   .exact .inl (.inr h)
   .exact .inl (.inl h)
   .exact .inr h
  .rintro((h|h)|h)
   .exact .inr (.inl h)
   .exact .inl h
   .exact .inr (.inr h)
theorem WiA{acc:List (List Nat)}{y:Nat}:∀(ds l:List Nat),y∈WkN acc ds l↔(∃j∈ds,y=j\/y∈acc.getD j [])\/y∈l
 | [],l=>by simp[WkN]
 |j::ds,l=>by
  rw[WkN,WiA ds,Wjg,WoG];constructor
  .rintro(⟨k,hk,h⟩|h|h|h)
   .exact .inl ⟨k,Xe _ hk,h⟩
   .exact .inl ⟨j,Xh ..,.inr h⟩
   .exact .inl ⟨j,Xh ..,.inl h⟩
   .exact .inr h
  .rintro(⟨k,hk,h⟩|h)
   .rcases Xq.1 hk with rfl|hk
    .exact .inr (h.elim (λh=>.inr (.inl h)) .inl)
    .exact .inl ⟨k,hk,h⟩
   .exact .inr (.inr (.inr h))
def Wmf(ops:Array Oper)(S:Nat->Prop):Prop:=∀i o,ops[i]?=some o->S i->∀d∈Wmc o,S d
theorem Wjp{ops:Array Oper}{S:Nat->Prop}(hS:Wmf ops S):∀(l:List Oper) (acc:List (List Nat)),(∀(k:Nat) (o:Oper),l[k]?=some o->ops[acc.length+k]?=some o)->
  (∀i,S i->∀j∈acc.getD i [],S j)->∀i,S i->∀j∈(Wed l acc).getD i [],S j
 | [],acc,_,h=>h
 |o::l,acc,hl,h=>by
  refine Wjp hS l _ (λk o' hk=>?_) (λi hi j hj=>?_)
  .have:=hl (k+1) o' (by simpa using hk);rw[Xac];have e:acc.length+(k+1)=acc.length+ [WkN acc (Wmc o) []].length+k:=by simp;omega
   rw[←e];exact this
  .rw[Xae,Xax]at hj;split at hj
   .exact h i hi j (by rw[Xae];exact hj)
   .rename_i hlt;by_cases he:i=acc.length
    .subst he;simp only[Xcv,Xdj,Xei]at hj;rcases(WiA _ _).1 hj with⟨k,hk,iY⟩|hj
     .have hSk:=hS _ o (hl 0 o (by simp)) hi k hk;rcases iY with rfl|iY
      .exact hSk
      .exact h k hSk j iY
     .cases hj
    .have:[WkN acc (Wmc o) []][i-acc.length]?=none:=Xcp (by simp;omega);rw[this]at hj;cases hj
theorem WpN{ops:Array Oper}{S:Nat->Prop}(hS:Wmf ops S){i j:Nat}(h:WcY (Wed ops.toList []) j i=true)(hi:S i):S j:=
 Wjp hS ops.toList [] (λk o hk=>by simpa using hk) (λi _ j hj=>by simp at hj) i hi j ((WaK _ _).1 h)
theorem Wjs{ops:Array Oper}:∀(l:List Oper) (n:Nat),WsT l n=true->∀(k:Nat) (o:Oper),l[k]?=some o->∀d∈Wmc o,d<n+k
 | [],_,_,k,o,hk=>by simp at hk
 |o'::l,n,h,k,o,hk=>by
  simp only[WsT,Xi,Xai]at h;cases k with
  |zero=>
   simp at hk;subst hk;intro e he;have:=h.1 e he;rw[Xgs]at this;omega
  |succ k=>
   have:=Wjs (ops:=ops) l (n+1) h.2 k o (by simpa using hk);intro e he;have:=this e he;omega
structure Order(ops:Array Oper)(l:List Nat):Prop where
 nodup:l.Nodup
 all:∀i,i<ops.size↔i∈l
 dep:∀p i s,l=p++i::s->∀o,ops[i]?=some o->∀d∈Wmc o,d∈p
theorem Order.closed{ops:Array Oper}{l:List Nat}(h:Order ops l){p s:List Nat}(e:l=p++s):Wmf ops (· ∈p):=λi o ho hi d hd=>by
 obtain⟨a,b,rfl⟩:=Xdz hi;have:=h.dep a i (b++s) (by rw[e];simp) o ho d hd;simp[this]
theorem Order.bef{ops:Array Oper}{l:List Nat}(h:Order ops l){p s:List Nat}{i j:Nat}(e:l=p++s)(hb:WcY (Wed ops.toList []) j i=true)(hi:i∈p):j∈p:=
 WpN (h.closed e) hb hi
theorem Order.bef'{ops:Array Oper}{l:List Nat}(h:Order ops l){p s:List Nat}{i j:Nat}(e:l=p++i::s)(hb:WcY (Wed ops.toList []) j i=true)(hne:j≠i):j∈p:=by
 have:=h.bef (p:=p++ [i]) (s:=s) (by rw[e];simp) hb (by simp);rcases Xm.1 this with h|h
 .exact h
 .simp at h;exact Wl h hne
def unl(ops:Array Oper)(listed:Array Bool):List Nat:=(Xdb ops.size).filter λi=>!listed.getD i true
theorem Wfp{ops:Array Oper}{listed:Array Bool}{i:Nat}:i∈unl ops listed↔i<ops.size/\listed.getD i true=false:=by
 unfold unl;rw[Xas,Xec];simp
theorem Wgh{α:Type}{p q:α->Bool}:∀(l:List α),(∀x∈l,q x=true->p x=true)->(∃x∈l,p x=true/\q x=false)->(l.filter q).length<(l.filter p).length
 | [],_,⟨x,hx,_⟩=>by cases hx
 |x::l,h,⟨y,hy,hp,hq⟩=>by
  have hle:∀(l:List α),(∀x∈l,q x=true->p x=true)->(l.filter q).length<=(l.filter p).length:=by
   intro l
   induction l with
   |nil=>intro _;simp
   |cons x l ih=>
    intro h;have:=ih λx hx=>h x (Xe _ hx);have hx:=h x (Xh ..);rw[Xbg,Xbg];cases hqx:q x with
    |true=>rw[hx hqx];simpa using this
    |false=>cases p x<;>simp<;>omega
  rw[Xbg,Xbg];rcases Xq.1 hy with rfl|hy
  .rw[hp,hq];have:=hle l λx hx=>h x (Xe _ hx);simp;omega
  .have:=Wgh l (λx hx=>h x (Xe _ hx)) ⟨y,hy,hp,hq⟩;have hx:=h x (Xh ..);cases hqx:q x with
   |true=>rw[hx hqx];simpa using this
   |false=>cases p x<;>simp<;>omega
theorem WkI{listed:Array Bool}{i j:Nat}:(listed.setIfInBounds i true).getD j true=(if i=j then true else listed.getD j true):=by
 simp only[Xcl,Xeu];split
 .split<;>rfl
 .rfl
theorem Wr5{listed:Array Bool}{i j:Nat}(hi:i<listed.size):(listed.setIfInBounds i true).getD j false=(if i=j then true else listed.getD j false):=by
 simp only[Xcl,Xeu];split
 .simp[hi]
 .rfl
theorem Wun{listed:Array Bool}{i:Nat}(hi:i<listed.size):listed.getD i true=listed.getD i false:=by
 simp[hi]
theorem Wn6{o:Oper}{e:Edge}(he:e∈o.after)(hb:Region.binds .any e=true):e.on∈Wmc o:=
 Xt.2 ⟨e,Xas.2 ⟨by simpa using he,hb⟩,rfl⟩
theorem Wot{ops:Array Oper}(hb:∀(k:Nat) (o:Oper),ops[k]?=some o->∀d∈Wmc o,d<k):∀(fuel t:Nat) (listed:Array Bool),listed.size=ops.size->(unl ops listed).length<=fuel->
  (Region.linearise.go .any ops fuel t listed []).Nodup/\
  (∀i,i∈Region.linearise.go .any ops fuel t listed []↔i∈unl ops listed)/\
  (∀p i s,Region.linearise.go .any ops fuel t listed []=p++i::s->∀o,ops[i]?=some o->∀e∈o.after,Region.binds .any e=true->listed.getD e.on false=true\/e.on∈p)
 |0,t,listed,hs,hlen=>by
  have:unl ops listed= []:=Xab (by omega);simp only[Region.linearise.go,List.reverse_nil,this];exact⟨by simp,by simp,λp i s h=>by simp at h⟩
 |fuel+1,t,listed,hs,hlen=>by
  have mL:Region.linearise.go .any ops (fuel+1) t listed []=match(Region.ready .any ops listed)[t%(Region.ready .any ops listed).length]? with
   |some i=>Region.linearise.go .any ops fuel (t/(Region.ready .any ops listed).length) (listed.setIfInBounds i true) [i]
   |none=>[]:=rfl
  rw[mL];cases hi:(Region.ready .any ops listed)[t%(Region.ready .any ops listed).length]? with
  |none=>
   have bI:Region.ready .any ops listed= []:=by
    cases hr:Region.ready .any ops listed with
    |nil=>rfl
    |cons x xs=>
     rw[hr]at hi;have hlt:t%(x::xs).length<(x::xs).length:=Nat.mod_lt _ (by simp);simp at hi;simp at hlt;omega
   have hu:unl ops listed= []:=by
    have key:∀n i,i<=n->i∉unl ops listed:=by
     intro n
     induction n with
     |zero=>
      intro i eG hm;obtain⟨h1,h2⟩:=Wfp.1 hm;have:i∈Region.ready .any ops listed:=by
       rw[mem_ready];refine⟨h2,ops[i],Xcz h1,λe he kT=>?_⟩;have:=hb i _ (Xcz h1) e.on (Wn6 he kT);omega
      rw[bI]at this;cases this
     |succ n ih=>
      intro i eG hm;obtain⟨h1,h2⟩:=Wfp.1 hm;have:i∈Region.ready .any ops listed:=by
       rw[mem_ready];refine⟨h2,ops[i],Xcz h1,λe he kT=>?_⟩;have hlt:=hb i _ (Xcz h1) e.on (Wn6 he kT);have cF:=ih e.on (by omega);have h3:e.on<ops.size:=by omega
       cases h4:listed.getD e.on true with
       |false=>exact Wl (Wfp.2 ⟨h3,h4⟩) cF
       |true=>rw[←Wun (by omega)];exact h4
      rw[bI]at this;cases this
    exact Xen.2 λi=>key i i (Xn _)
   rw[hu];exact⟨Xcq,λ_=>Iff.rfl,λp i s h=>by simp at h⟩
  |some i=>
   have w6:=Xav hi;obtain⟨h1,o,ho,h3⟩:=mem_ready.1 w6;have py:i<ops.size:=(Xcy.1 ho).1;have w7:i∈unl ops listed:=Wfp.2 ⟨py,h1⟩;simp only[];rw[linearise_go_acc,List.reverse_singleton,List.singleton_append];have ia:(unl ops (listed.setIfInBounds i true)).length<=fuel:=by
    have:(unl ops (listed.setIfInBounds i true)).length<(unl ops listed).length:=by
     refine Wgh _ (λx _ hx=>?_) ⟨i,Xec.2 py,by simpa using h1,by rw[WkI];simp⟩;rw[WkI]at hx;split at hx
     .simp at hx
     .exact hx
    omega
   obtain⟨g1,g2,g3⟩:=Wot hb fuel (t/(Region.ready .any ops listed).length) (listed.setIfInBounds i true) (by simp[hs]) ia;have hmem:∀j,j∈unl ops (listed.setIfInBounds i true)↔j∈unl ops listed/\j≠i:=λj=>by
    rw[Wfp,Wfp,WkI];constructor
    .rintro⟨q1,q2⟩;split at q2
     .cases q2
     .rename_i hne;exact⟨⟨q1,q2⟩,λe=>hne e.symm⟩
    .rintro⟨⟨q1,q2⟩,hne⟩;exact⟨q1,by rw[Wa (λe=>hne e.symm)];exact q2⟩
   refine⟨Xah.2 ⟨λhm=>?_,g1⟩,λj=>?_,λp j s e o' iB ed od kT=>?_⟩
   .exact((hmem i).1 ((g2 i).1 hm)).2 rfl
   .rw[Xq,g2,hmem];constructor
    .rintro(rfl|h)
     .exact w7
     .exact h.1
    .intro h;by_cases he:j=i
     .exact .inl he
     .exact .inr ⟨h,he⟩
   .cases p with
    |nil=>
     simp only[Xbs,List.cons.injEq]at e;obtain⟨rfl,_⟩:=e;rw[ho]at iB;injection iB with iB;subst iB;exact .inl (h3 ed od kT)
    |cons x p=>
     simp only[Xaz,List.cons.injEq]at e;obtain⟨rfl,e⟩:=e;rcases g3 p j s e o' iB ed od kT with h|h
     .rw[Wr5 (by omega)]at h;split at h
      .rename_i he;exact .inr (by rw[he];simp)
      .exact .inl h
     .exact .inr (Xe _ h)
theorem Wir{ops:Array Oper}{t:Nat}(hb:∀(k:Nat) (o:Oper),ops[k]?=some o->∀d∈Wmc o,d<k):Order ops (Region.linearise .any ops t):=by
 have hu:∀i,i∈unl ops (Xdv ops.size false)↔i<ops.size:=λi=>by
  rw[Wfp];constructor
  .exactλh=>h.1
  .exactλh=>⟨h,by simp[h]⟩
 obtain⟨h1,h2,h3⟩:=Wot hb ops.size t (Xdv ops.size false) (by simp) (by
  have:=Xej (λi=>!(Xdv ops.size false).getD i true) (Xdb ops.size);rw[Xff]at this;exact this)
 refine⟨h1,λi=>by unfold Region.linearise;rw[h2,hu],λp i s e o ho d hd=>?_⟩;unfold Wmc at hd;obtain⟨ed,od,rfl⟩:=Xt.1 hd;obtain⟨od,kT⟩:=Xas.1 od;rcases h3 p i s e o ho ed (by simpa using od) kT with h|h
 .exfalso;rw[Xcl,Array.getElem?_replicate]at h;split at h<;>simp at h
 .exact h
theorem WiP{ops:Array Oper}{t:Nat}(hb:∀(k:Nat) (o:Oper),ops[k]?=some o->∀d∈Wmc o,d<k):Order ops (Region.schedule true ops t):=by
 unfold Region.schedule;rw[Wb (by simp)];exact Wir hb
end Go.Sx
namespace Go.Sx
set_option linter.unusedVariables false
set_option linter.unusedSimpArgs false
def Wq7(n:Nat)(kept:List Nat)(o:Oper):Bool:=match o.dst with
 |some d=>Nat.blt d n&& !Wcf d kept
 |none=>true
def Wdn(n:Nat)(kept:List Nat):Code->Bool
 | .region _ ops _=>ops.toList.all (Wq7 n kept)
 | .seq a b=>Wdn n kept a&&Wdn n kept b
 | .cond _ x y=>Wdn n kept x&&Wdn n kept y
 | .block _ c=>Wdn n kept c
 | .loop c=>Wdn n kept c
 |_=>true
theorem WnO{nt:Slots}{n:Nat}{kept:List Nat}(hn:nt.n=n)(hk:∀p∈nt.kept,p.1∈kept){o:Oper}(h:Wq7 n kept o=true):∀d,o.dst=some d->nt.Ok d:=λd hd=>by
 unfold Wq7 at h;rw[hd]at h;simp only[Xi,Xap]at h;refine⟨by have h1:=h.1;rw[Xgs]at h1;rw[hn];exact h1,λp hp e=>?_⟩;have:=hk p hp;rw[e]at this;rw[(WaK d kept).2 this]at h;exact Wl h.2 (by simp)
def Ex.to:Ex->Exit
 | .normal=>.normal
 | .exit id=>.exit id
 | .ret=>.ret
section
variable{w0:World}{F:CS}{nt:Slots}{G0:GH}{P:Program}{T:Tab}{Γ:Ctx}{A:List (Nat×An)}{R:Type}{r:R}
def Wp3(w0:World)(F:CS)(nt:Slots)(G0:GH)(k:St->Option R)(r:R)(K:Act->World->Prop):Prop:=
 ∀st a w G ν,Rel w0 F nt G0 G ν st a w->k st=some r->K a w
theorem Wm0{G:GH}{ν:Nat->Nu}{st:St}{a:Act}{w:World}(hr:Rel w0 F nt G0 G ν st a w){ops:Array Oper}{j:Nat}{t:Tmp}(ht:(ops[j]?).bind (·.dst)=some t){b:Bool}(hb:(look st.env t).bind asB=some b):
  a.tmps[t]?=some (.bool b)/\yielded ops a.tmps j=some b:=by
 cases hl:look st.env t with
 |none=>simp[hl]at hb
 |some x=>
  simp only[hl,Xd]at hb;obtain⟨v,hv,hx⟩:=hr.env t x hl;have:=Wnh x v b hx hb;subst this;refine⟨hv,?_⟩;unfold yielded;rw[ht];simp[hv]
theorem Wtq(hT:Wag P T)(hΓ:WeZ P Γ){ops:Array Oper}{o:Oper}(hd:∀d,o.dst=some d->nt.Ok d){k:St->Option R}{K:Act->World->Prop}{Q:Exit->Act->World->Prop}(hK:Wp3 w0 F nt G0 k r K)
  {st:St} {a:Act} {w:World} {G:GH} {ν:Nat->Nu} (hr:Rel w0 F nt G0 G ν st a w) (h:rxg T Γ A ops o st k=some r):
  if Region.wanted o (yielded ops a.tmps)then o.wp P a w K Q else K (a.put o.dst undef) w:=by
 unfold rxg at h;have gH:∀ah,Rel w0 F nt G0 G ν ah a w->Rel w0 F nt G0 G ν (ah.put o.dst (.tup [])) (a.put o.dst undef) w:=λah bi=>
  bi.put hd ⟨[],rfl,rfl,λj x v hj=>by simp at hj⟩
 have dQ:∀b:Bool,AValRel G ν st.nx (one .bool b) (.bool b):=λb=>WL (t:=.bool) (d:=b) (v:=.bool b) rfl;split at h
 .rename_i hg;simp only[Region.wanted,hg,Waw];exact Wr4 hT hΓ hr hd h (λah a' w' G' ν' bi hk=>hK _ _ _ _ _ bi hk)
 .rename_i j want hg;split at h
  .rename_i t ht;split at h
   .rename_i hl;obtain⟨v,hv,hx⟩:=hr.env t _ hl;have gl:v=undef:=by
     obtain⟨vs,h1,h2,_⟩:=hx;rw[h1,Xab h2];rfl
    subst gl;have hy:yielded ops a.tmps j=none:=by
     unfold yielded;rw[ht];simp only[Xd,hv];rfl
    simp only[Region.wanted,hg,hy];rw[Wa (by simp)];exact hK _ _ _ _ _ (gH _ hr) h
   .rename_i x _ hl;split at h
    .rename_i b hb;obtain⟨hv,hy⟩:=Wm0 hr ht (b:=b) (by rw[hl];exact hb);simp only[Region.wanted,hg,hy];have lU:=hr.rebind hv (dQ b);cases b with
     |true=>
      simp only[We]at h;cases want with
      |true=>
       simp only[Waw]at h;simp only[beq_self_eq_true,Waw];exact Wr4 hT hΓ lU hd h (λah a' w' G' ν' bi hk=>hK _ _ _ _ _ bi hk)
      |false=>
       simp only[Xbl,WaE]at h;rw[Wa (by simp)];exact hK _ _ _ _ _ (gH _ lU) h
     |false=>
      simp only[Wc]at h;cases want with
      |true=>
       simp only[Waw]at h;rw[Wa (by simp)];exact hK _ _ _ _ _ (gH _ lU) h
      |false=>
       simp only[Xbl,WaE]at h;simp only[beq_self_eq_true,Waw];exact Wr4 hT hΓ lU hd h (λah a' w' G' ν' bi hk=>hK _ _ _ _ _ bi hk)
    .cases h
   .cases h
  .cases h
theorem WtG(hT:Wag P T)(hΓ:WeZ P Γ){ops:Array Oper}:∀(l:List Oper),(∀o∈l,∀d,o.dst=some d->nt.Ok d)->∀{k:St->Option R} {Q:Exit->Act->World->Prop},Wp3 w0 F nt G0 k r (Q .normal)->
  Wp3 w0 F nt G0 (λst=>rxs T Γ A ops l st k) r (wpList P ops Q l)
 | [],_,k,Q,hK=>λst a w G ν hr h=>hK st a w G ν hr h
 |o::l,hd,k,Q,hK=>λst a w G ν hr h=>by
  have ih:=WtG (ops:=ops) hT hΓ l (λo ho=>hd o (Xe _ ho)) hK;have h:rxg T Γ A ops o st (λah=>match opG A o ah with
   |some (c,ci)=>bif c then rxs T Γ A ops l ci k else none
   |none=>none)=some r:=h
  have w8:Wp3 w0 F nt G0 (λah=>match opG A o ah with
   |some (c,ci)=>bif c then rxs T Γ A ops l ci k else none
   |none=>none) r (wpList P ops Q l):=λdw a1 w1 G1 ν1 gI h1=>by
   have h1:(match opG A o dw with
    |some (c,ci)=>bif c then rxs T Γ A ops l ci k else none
    |none=>none)=some r:=h1
   split at h1
   .rename_i c am hg;obtain⟨rfl,h1⟩:=WaI h1;have:∃G' ν',Rel w0 F nt G0 G' ν' am a1 w1:=by
     unfold opG at hg;split at hg
     .split at hg
      .injection hg with hg;injection hg with _ hg;subst hg;exact⟨G1,ν1,gI⟩
      .exact Wl4 gI hg
     .injection hg with hg;injection hg with _ hg;subst hg;exact⟨G1,ν1,gI⟩
     .injection hg with hg;injection hg with _ hg;subst hg;exact⟨G1,ν1,gI⟩
     .injection hg with hg;injection hg with _ hg;subst hg;exact⟨G1,ν1,gI⟩
     .injection hg with hg;injection hg with _ hg;subst hg;exact⟨G1,ν1,gI⟩
    obtain⟨G2,ν2,gJ⟩:=this;exact ih am a1 w1 G2 ν2 gJ h1
   .cases h1
  have:=Wtq hT hΓ (hd o (Xh ..)) (Q:=Q) w8 hr h;unfold wpList;split
  .rename_i hw;rw[Wb hw]at this;exact .inl this
  .rename_i hw;rw[Wa hw]at this;exact this
end
end Go.Sx
namespace Go.Sx
set_option linter.unusedVariables false
set_option linter.unusedSimpArgs false
section
variable{T:Tab}{Γ:Ctx}{A:List (Nat×An)}{ops:Array Oper}
theorem Wk7{R:Type}(o:Oper)(st:St)(k:St->Option R):rx1 T Γ A o st k=(rx1 T Γ A o st some).bind k:=by
 unfold rx1;rw[WfN,WfN o st (λx objs nx=>some _),Option.bind_assoc];rfl
theorem WsI{R:Type}(o:Oper)(st:St)(k:St->Option R):rxg T Γ A ops o st k=(rxg T Γ A ops o st some).bind k:=by
 unfold rxg;cases o.guard with
 |none=>exact Wk7 o st k
 |some g=>
  obtain⟨j,want⟩:=g;simp only;cases(ops[j]?).bind (·.dst)with
  |none=>rfl
  |some t=>
   simp only;cases look st.env t with
   |none=>rfl
   |some x=>
    have main:(match asB x with
      |some b=>bif b
       then(if want then rx1 T Γ A o (st.put (some t) (one .bool true)) k else k ((st.put (some t) (one .bool true)).put o.dst (.tup [])))
       else(if want then k ((st.put (some t) (one .bool false)).put o.dst (.tup []))else rx1 T Γ A o (st.put (some t) (one .bool false)) k)
      |none=>none)=(match asB x with
      |some b=>bif b
       then(if want then rx1 T Γ A o (st.put (some t) (one .bool true)) some else some ((st.put (some t) (one .bool true)).put o.dst (.tup [])))
       else(if want then some ((st.put (some t) (one .bool false)).put o.dst (.tup []))else rx1 T Γ A o (st.put (some t) (one .bool false)) some)
      |none=>none).bind k:=by
     cases asB x with
     |none=>rfl
     |some b=>
      cases b<;>cases want
      .exact Wk7 _ _ _
      .rfl
      .rfl
      .exact Wk7 _ _ _
    cases x with
    |s y=>exact main
    |tup l=>
     cases l with
     |nil=>rfl
     |cons y l=>exact main
theorem Won{R:Type}{o:Oper}{st:St}{k:St->Option R}{r:R}(h:rxg T Γ A ops o st k=some r):∃ah,rxg T Γ A ops o st some=some ah/\k ah=some r:=by
 rw[WsI]at h;exact Xbu.1 h
structure Eff(o:Oper)(v:AVal)(pre:Wac)(ak:Nat)(st ah:St):Prop where
 env:∀t,look ah.env t=if o.dst=some t then some v else look st.env t
 objs:ah.objs=pre++st.objs
 nx:ah.nx=ak
theorem Wc1(st:St)(dst:Option Tmp)(x:AVal)(t:Nat):look (st.put dst x).env t=if dst=some t then some x else look st.env t:=by
 cases dst with
 |none=>simp[St.put]
 |some d=>
  simp only[St.put];rw[WF];by_cases h:d=t
  .subst h;simp
  .rw[Wa h,Wa (by simpa using h)]
theorem WeW{st am:St}{x:Operand}(h:∀t∈Wrk x,look am.env t=look st.env t):ev am x=ev st x:=by
 cases x with
 |tmp t=>exact h t (by simp[Wrk])
 |_=>rfl
theorem Wgn{st:St}{x:Operand}{v:AVal}:∀(l:List Operand),x∈l->ev st x=some v->∀id∈WaY v,id∈Wey st l
 | [],h,_,_,_=>by cases h
 |y::l,h,hv,id,bB=>by
  simp only[Wey];rcases Xq.1 h with rfl|h
  .rw[hv];exact Xl _ bB
  .split
   .exact Xg _ (Wgn l h hv id bB)
   .exact Wgn l h hv id bB
theorem Wf0{st am:St}:∀(l:List Operand),(∀x∈l,ev am x=ev st x)->Wey am l=Wey st l
 | [],_=>rfl
 |x::l,h=>by simp only[Wey,h x (Xh ..),Wf0 l λy hy=>h y (Xe _ hy)]
theorem Wp5{o:Oper}{st ah am:St}(h:rx1 T Γ A o st some=some ah)(he:∀x∈Wab o.op,ev am x=ev st x)
  (hm:WaN o=true->am.objs=st.objs/\am.nx=st.nx) (hf:WaN o=false->∀id∈WcF o st,look am.objs id=look st.objs id):
  ∃v pre ak,Eff o v pre ak st ah/\(WaN o=false->pre= []/\ak=st.nx)/\
   ∃bJ,rx1 T Γ A o am some=some bJ/\(WaN o=true->Eff o v pre ak am bJ)/\(WaN o=false->Eff o v [] am.nx am bJ):=by
 unfold rx1 at*;rw[WfN]at h;obtain⟨⟨v,objs',ak⟩,h1,h2⟩:=Xbu.1 h;injection h2 with h2;subst h2;cases dK:WaN o with
 |true=>
  obtain⟨e1,e2⟩:=hm dK;obtain⟨pre,rfl⟩:=WpE o st v objs' ak h1;refine⟨v,pre,ak,⟨λt=>Wc1 _ _ _ _,by cases o.dst<;>rfl,by cases o.dst<;>rfl⟩,by simp,?_⟩;have h3:rxe T Γ A o am WcK=some (v,pre++st.objs,ak):=by
   obtain⟨sU,uO,nx2⟩:=am;simp only at e1 e2;subst e1 e2;rw[WrZ o (env:=sU) (st:=st) WcK he];exact h1
  refine⟨_,?_,λ_=>⟨λt=>Wc1 (⟨am.env,pre++st.objs,ak⟩) o.dst v t,?_,?_⟩,by simp⟩
  .rw[WfN,h3];rfl
  .rw[e1];cases o.dst<;>rfl
  .cases o.dst<;>rfl
 |false=>
  rw[Wlz dK]at h1;obtain⟨u,h3,h4⟩:=Xbu.1 h1;injection h4 with h4;have e1:u=v:=Wj (λp:Out=>p.1) h4;have e2:st.objs=objs':=Wj (λp:Out=>p.2.1) h4;have e3:st.nx=ak:=Wj (λp:Out=>p.2.2) h4;subst e1 e2 e3;refine⟨u,[],st.nx,⟨λt=>Wc1 _ _ _ _,by cases o.dst<;>rfl,by cases o.dst<;>rfl⟩,by simp,?_⟩;have h5:WtP T o am=some u:=by
   rw[←h3];refine WpR dK he λoe x hx v hv id bB=>hf dK id ?_;unfold WcF;rw[oe];exact Wgn _ hx hv id bB
  refine⟨_,?_,by simp,λ_=>⟨λt=>Wc1 (⟨am.env,am.objs,am.nx⟩) o.dst u t,?_,?_⟩⟩
  .rw[WfN,Wlz dK,h5];rfl
  .cases o.dst<;>rfl
  .cases o.dst<;>rfl
theorem Wuq{x:AVal}{b:Bool}(h:asB x=some b):x=one .bool b:=by
 unfold asB at h;split at h
 .injection h with h;subst h;rfl
 .cases h
theorem WdN{st:St}{t:Nat}{x:AVal}(h:look st.env t=some x)(t':Nat):look (st.put (some t) x).env t'=look st.env t':=by
 rw[Wc1];split
 .rename_i e;injection e with e;subst e;exact h.symm
 .rfl
theorem WdM(st:St)(d:Option Tmp)(x:AVal):(st.put d x).objs=st.objs:=by cases d<;>rfl
theorem WhG(st:St)(d:Option Tmp)(x:AVal):(st.put d x).nx=st.nx:=by cases d<;>rfl
theorem WfP{o:Oper}{st am:St}(h:∀x∈Wab o.op,ev am x=ev st x):WcF o am=WcF o st:=by
 unfold WcF;rw[Wf0 _ h]
theorem Wrv{o:Oper}{st ah am:St}(h:rxg T Γ A ops o st some=some ah)(he:∀t∈Wdf ops o,look am.env t=look st.env t)
  (hm:WaN o=true->am.objs=st.objs/\am.nx=st.nx) (hf:WaN o=false->∀id∈WcF o st,look am.objs id=look st.objs id):
  ∃v pre ak,Eff o v pre ak st ah/\(WaN o=false->pre= []/\ak=st.nx)/\
   ∃bJ,rxg T Γ A ops o am some=some bJ/\(WaN o=true->Eff o v pre ak am bJ)/\(WaN o=false->Eff o v [] am.nx am bJ):=by
 have uP:∀x∈Wab o.op,ev am x=ev st x:=λx hx=>WeW λt ht=>he t (by
  unfold Wdf;exact Xl _ (Xfj.2 ⟨x,hx,ht⟩))
 unfold rxg at h⊢;cases hg:o.guard with
 |none=>
  rw[hg]at h;exact Wp5 h uP hm hf
 |some g=>
  obtain⟨j,want⟩:=g;rw[hg]at h;simp only at h⊢;cases ht:(ops[j]?).bind (·.dst)with
  |none=>rw[ht]at h;cases h
  |some t=>
   rw[ht]at h;simp only at h⊢;have ic:look am.env t=look st.env t:=he t (by
    unfold Wdf;refine Xg _ ?_;rw[hg];simp only;rw[ht];simp)
   rw[ic];cases hx:look st.env t with
   |none=>rw[hx]at h;cases h
   |some x=>
    rw[hx]at h;have skip:∀(s s2:St) (s':St),some (s.put o.dst (.tup []))=some s'->(∀t,look s.env t=look st.env t)->s.objs=st.objs->s.nx=st.nx->(∀t,look s2.env t=look am.env t)->s2.objs=am.objs->s2.nx=am.nx->
      ∃v pre ak,Eff o v pre ak st s'/\(WaN o=false->pre= []/\ak=st.nx)/\
       ∃bJ,some (s2.put o.dst (.tup []))=some bJ/\(WaN o=true->Eff o v pre ak am bJ)/\(WaN o=false->Eff o v [] am.nx am bJ):=by
     intro s s2 s' hs a1 a2 a3 b1 b2 b3;injection hs with hs;subst hs;refine⟨.tup [],[],st.nx,⟨λt=>?_,by rw[WdM,a2];rfl,by rw[WhG,a3]⟩,λ_=>⟨rfl,rfl⟩,_,rfl,λdK=>⟨λt=>?_,by rw[WdM,b2];rfl,by rw[WhG,b3];exact(hm dK).2⟩,λ_=>⟨λt=>?_,by rw[WdM,b2];rfl,by rw[WhG,b3]⟩⟩
     .rw[Wc1,a1]
     .rw[Wc1,b1]
     .rw[Wc1,b1]
    have doit:∀b:Bool,x=one .bool b->rx1 T Γ A o (st.put (some t) (one .bool b)) some=some ah->
      ∃v pre ak,Eff o v pre ak st ah/\(WaN o=false->pre= []/\ak=st.nx)/\
       ∃bJ,rx1 T Γ A o (am.put (some t) (one .bool b)) some=some bJ/\(WaN o=true->Eff o v pre ak am bJ)/\(WaN o=false->Eff o v [] am.nx am bJ):=by
     intro b hb h1;subst hb;have l1:=WdN hx;have l2:=WdN (st:=am) (t:=t) (x:=one .bool b) (by rw[ic];exact hx);have pA:∀x∈Wab o.op,ev (st.put (some t) (one .bool b)) x=ev st x:=λx hx=>WeW λt' _=>l1 t';have sW:∀x∈Wab o.op,ev (am.put (some t) (one .bool b)) x=ev am x:=λx hx=>WeW λt' _=>l2 t';obtain⟨v,pre,ak,e1,e2,bJ,e3,e4,e5⟩:=Wp5 (am:=am.put (some t) (one .bool b)) h1 (λx hx=>by rw[sW x hx,pA x hx,uP x hx])
      (λdK=>hm dK) (λgj id bB=>hf gj id (by rw[←WfP pA];exact bB))
     refine⟨v,pre,ak,⟨λt'=>by rw[e1.env,l1],e1.objs,e1.nx⟩,e2,bJ,e3,λdK=>⟨λt'=>by rw[(e4 dK).env,l2],(e4 dK).objs,(e4 dK).nx⟩,λdK=>⟨λt'=>by rw[(e5 dK).env,l2],(e5 dK).objs,(e5 dK).nx⟩⟩
    have main:(match asB x with
      |some b=>bif b
       then(if want then rx1 T Γ A o (st.put (some t) (one .bool true)) some else some ((st.put (some t) (one .bool true)).put o.dst (.tup [])))
       else(if want then some ((st.put (some t) (one .bool false)).put o.dst (.tup []))else rx1 T Γ A o (st.put (some t) (one .bool false)) some)
      |none=>none)=some ah->∃v pre ak,Eff o v pre ak st ah/\(WaN o=false->pre= []/\ak=st.nx)/\
       ∃bJ,(match asB x with
      |some b=>bif b
       then(if want then rx1 T Γ A o (am.put (some t) (one .bool true)) some else some ((am.put (some t) (one .bool true)).put o.dst (.tup [])))
       else(if want then some ((am.put (some t) (one .bool false)).put o.dst (.tup []))else rx1 T Γ A o (am.put (some t) (one .bool false)) some)
      |none=>none)=some bJ/\(WaN o=true->Eff o v pre ak am bJ)/\(WaN o=false->Eff o v [] am.nx am bJ):=by
     intro h;cases hb:asB x with
     |none=>rw[hb]at h;cases h
     |some b=>
      rw[hb]at h;have dQ:=Wuq hb;have r1:∀b',b'=b->∀t',look (st.put (some t) (one .bool b')).env t'=look st.env t':=λb' e=>by subst e;exact WdN (by rw[hx,dQ])
      have r2:∀b',b'=b->∀t',look (am.put (some t) (one .bool b')).env t'=look am.env t':=λb' e=>by subst e;exact WdN (by rw[ic,hx,dQ])
      cases b<;>cases want
      .exact doit false dQ h
      .exact skip _ _ _ h (r1 _ rfl) (WdM _ _ _) (WhG _ _ _) (r2 _ rfl) (WdM _ _ _) (WhG _ _ _)
      .exact skip _ _ _ h (r1 _ rfl) (WdM _ _ _) (WhG _ _ _) (r2 _ rfl) (WdM _ _ _) (WhG _ _ _)
      .exact doit true dQ h
    cases x with
    |s y=>exact main h
    |tup l=>
     cases l with
     |nil=>exact skip st am ah h (λ_=>rfl) rfl rfl (λ_=>rfl) rfl rfl
     |cons y l=>exact main h
end
end Go.Sx
namespace Go.Sx
set_option linter.unusedVariables false
set_option linter.unusedSimpArgs false
structure Rc where
 i:Nat
 v:AVal
 pre:Wac
 nx:Nat
 ids:List Nat
 mv:Bool
section
variable{T:Tab}{Γ:Ctx}{A:List (Nat×An)}{ops:Array Oper}
structure StepTo(T:Tab)(Γ:Ctx)(A:List (Nat×An))(ops:Array Oper)(ρ:Rc)(o:Oper)(st ah:St):Prop where
 at_:ops[ρ.i]?=some o
 isM:ρ.mv=WaN o
 lk:ρ.mv=false->ρ.ids=WcF o st
 run:rxg T Γ A ops o st some=some ah
 env:∀t,look ah.env t=if o.dst=some t then some ρ.v else look st.env t
 objs:ah.objs=if ρ.mv then ρ.pre++st.objs else st.objs
 nx:ah.nx=if ρ.mv then ρ.nx else st.nx
def WuM(T:Tab)(Γ:Ctx)(A:List (Nat×An))(ops:Array Oper):List Rc->St->St->Prop
 | [],st,ah=>st=ah
 |ρ::l,st,ah=>∃o dw,StepTo T Γ A ops ρ o st dw/\WuM T Γ A ops l dw ah
theorem Wqr{i:Nat}{o:Oper}{st ah:St}(hi:ops[i]?=some o)(h:rxg T Γ A ops o st some=some ah):
  ∃ρ:Rc,ρ.i=i/\StepTo T Γ A ops ρ o st ah:=by
 obtain⟨v,pre,ak,e1,e2,_⟩:=Wrv (am:=st) h (λ_ _=>rfl) (λ_=>⟨rfl,rfl⟩) (λ_ _ _=>rfl);refine⟨⟨i,v,pre,ak,WcF o st,WaN o⟩,rfl,hi,rfl,λ_=>rfl,h,e1.env,?_,?_⟩
 .simp only;cases hm:WaN o with
  |true=>simpa using e1.objs
  |false=>rw[e1.objs,(e2 hm).1];rfl
 .simp only;cases hm:WaN o with
  |true=>simpa using e1.nx
  |false=>rw[e1.nx,(e2 hm).2];rfl
theorem StepTo.move{ρ:Rc}{o:Oper}{st ah am:St}(h:StepTo T Γ A ops ρ o st ah)(he:∀t∈Wdf ops o,look am.env t=look st.env t)
  (hm:ρ.mv=true->am.objs=st.objs/\am.nx=st.nx) (hf:ρ.mv=false->∀id∈ρ.ids,look am.objs id=look st.objs id):
  ∃bJ,StepTo T Γ A ops ρ o am bJ:=by
 obtain⟨v,pre,ak,e1,e2,bJ,e3,e4,e5⟩:=Wrv (am:=am) h.run he (λdK=>hm (by rw[h.isM];exact dK)) (λgj id bB=>hf (by rw[h.isM];exact gj) id (by rw[h.lk (by rw[h.isM];exact gj)];exact bB));have hv:∀t,o.dst=some t->v=ρ.v:=λt ht=>by
  have a:=e1.env t;have b:=h.env t;rw[Wb ht]at a b;rw[a]at b;injection b
 have rZ:ρ.mv=false->WcF o am=WcF o st:=λ_=>WfP λx hx=>WeW λt ht=>he t (by
  unfold Wdf;exact Xl _ (Xfj.2 ⟨x,hx,ht⟩))
 cases dK:WaN o with
 |true=>
  have hρ:ρ.mv=true:=by rw[h.isM];exact dK
  have e4:=e4 dK;obtain⟨q1,q2⟩:=hm hρ;refine⟨bJ,h.at_,h.isM,λhf=>(by rw[hρ]at hf;cases hf),e3,λt=>?_,?_,?_⟩
  .rw[e4.env];split
   .rename_i ht;rw[hv t ht]
   .rfl
  .rw[e4.objs,hρ];simp only[Waw];have a:=e1.objs;have b:=h.objs;rw[hρ]at b;simp only[Waw]at b;rw[a]at b;rw[List.append_cancel_right b]
  .rw[e4.nx,hρ];simp only[Waw];have a:=e1.nx;have b:=h.nx;rw[hρ]at b;simp only[Waw]at b;rw[←a,b]
 |false=>
  have hρ:ρ.mv=false:=by rw[h.isM];exact dK
  have e5:=e5 dK;refine⟨bJ,h.at_,h.isM,λhf=>by rw[rZ hρ];exact h.lk hρ,e3,λt=>?_,?_,?_⟩
  .rw[e5.env];split
   .rename_i ht;rw[hv t ht]
   .rfl
  .rw[e5.objs,hρ];rfl
  .rw[e5.nx,hρ];rfl
def WsV(ids:List Nat)(pre:Wac):Prop:=∀id∈ids,id∉Wg5 pre
def Wv4(B:List (List Nat))(x y:Rc):Prop:=
 (x.mv=false->y.mv=true->WcY B x.i y.i=true\/WsV x.ids y.pre)/\
 (x.mv=true->y.mv=false->WcY B x.i y.i=true\/WsV y.ids x.pre)
theorem Wes{α:Type}:∀(l:List Nat) (k:List Nat->α),Wga l k=k l
 | [],_=>rfl
 |x::l,k=>by rw[Wga,Wes l]
theorem WmL{α:Type}:∀(l:List (List Nat)) (k:List (List Nat)->α),WoO l k=k l
 | [],_=>rfl
 |x::l,k=>by rw[WoO,Wes,WmL l]
theorem Wju{ids:List Nat}{pre:Wac}(h:Wgp ids (Wg5 pre)=true):WsV ids pre:=λid bB hk=>by
 unfold Wgp at h;have:=Xai.1 h id bB;rw[(WaK id _).2 hk]at this;cases this
theorem Wpx(pre objs:Wac):Wqy objs (pre++objs)=Wg5 pre:=by
 unfold Wqy;simp
theorem Wke{B:List (List Nat)}{R:Type}{k:St->Option R}{r:R}:∀(l:List Nat) (fl mu:List (Nat×List Nat)) (st:St),rdx T Γ A ops B l fl mu st k=some r->
  ∃(rs:List Rc) (ah:St),rs.map (·.i)=l/\WuM T Γ A ops rs st ah/\k ah=some r/\rs.Pairwise (Wv4 B)/\
   (∀p∈fl,∀ρ∈rs,ρ.mv=true->WcY B p.1 ρ.i=true\/WsV p.2 ρ.pre)/\
   (∀p∈mu,∀ρ∈rs,ρ.mv=false->WcY B p.1 ρ.i=true\/Wgp ρ.ids p.2=true)
 | [],fl,mu,st,h=>⟨[],st,rfl,rfl,h,List.Pairwise.nil,by simp,by simp⟩
 |i::l,fl,mu,st,h=>by
  simp only[rdx]at h;cases ho:ops[i]? with
  |none=>rw[ho]at h;cases h
  |some o=>
   rw[ho]at h;simp only at h;cases hm:WaN o with
   |true=>
    simp only[hm,We]at h;obtain⟨dw,h1,h2⟩:=Won h;rw[Wes]at h2;obtain⟨jM,h2⟩:=WaI h2;obtain⟨ρ,hi,hs⟩:=Wqr ho h1;have hρ:ρ.mv=true:=by rw[hs.isM];exact hm
    have az:=hs.objs;rw[hρ]at az;simp only[Waw]at az;rw[az,Wpx]at jM h2;obtain⟨rs,ah,q1,q2,q3,q4,q5,q6⟩:=Wke l _ _ _ h2;refine⟨ρ::rs,ah,by simp[hi,q1],⟨o,dw,hs,q2⟩,q3,List.Pairwise.cons (λy hy=>⟨λhf=>(by rw[hρ]at hf;cases hf),λ_ mM=>?_⟩) q4,λp hp y hy mN=>?_,λp hp y hy mM=>?_⟩
    .rcases q6 (i,Wg5 ρ.pre) (Xh ..) y hy mM with h|h
     .rw[hi];exact .inl h
     .exact .inr (Wju h)
    .rcases Xq.1 hy with rfl|hy
     .have:=Xai.1 jM p hp;rw[Xck]at this;rw[hi];exact this.imp id Wju
     .exact q5 p hp y hy mN
    .rcases Xq.1 hy with rfl|hy
     .rw[hρ]at mM;cases mM
     .exact q6 p (Xe _ hp) y hy mM
   |false=>
    simp only[hm,Wc]at h;rw[Wes]at h;obtain⟨jM,h⟩:=WaI h;obtain⟨dw,h1,h2⟩:=Won h;obtain⟨ρ,hi,hs⟩:=Wqr ho h1;have hρ:ρ.mv=false:=by rw[hs.isM];exact hm
    have sX:=hs.lk hρ;rw[←sX]at jM h2;obtain⟨rs,ah,q1,q2,q3,q4,q5,q6⟩:=Wke l _ _ _ h2;refine⟨ρ::rs,ah,by simp[hi,q1],⟨o,dw,hs,q2⟩,q3,List.Pairwise.cons (λy hy=>⟨λ_ mN=>?_,λhf=>(by rw[hρ]at hf;cases hf)⟩) q4,λp hp y hy mN=>?_,λp hp y hy mM=>?_⟩
    .rw[hi];exact q5 (i,ρ.ids) (Xh ..) y hy mN
    .rcases Xq.1 hy with rfl|hy
     .rw[hρ]at mN;cases mN
     .exact q5 p (Xe _ hp) y hy mN
    .rcases Xq.1 hy with rfl|hy
     .have:=Xai.1 jM p hp;rw[Xck]at this;rw[hi];exact this
     .exact q6 p hp y hy mM
def WdZ(ops:Array Oper)(i:Nat):Option Tmp:=(ops[i]?).bind (·.dst)
def Wou(ops:Array Oper):List Rc->(Nat->Option AVal)->Nat->Option AVal
 | [],e,t=>e t
 |ρ::a,e,t=>Wou ops a (λt'=>if WdZ ops ρ.i=some t' then some ρ.v else e t') t
def Whl:List Rc->Wac×Nat->Wac×Nat
 | [],m=>m
 |ρ::a,m=>Whl a (if ρ.mv then(ρ.pre++m.1,ρ.nx)else m)
theorem Wgu:∀(rs:List Rc) (st ah:St),WuM T Γ A ops rs st ah->(∀t,look ah.env t=Wou ops rs (look st.env) t)/\(ah.objs,ah.nx)=Whl rs (st.objs,st.nx)
 | [],st,ah,h=>by cases h;exact⟨λ_=>rfl,rfl⟩
 |ρ::rs,st,ah,⟨o,dw,hs,h⟩=>by
  obtain⟨h1,h2⟩:=Wgu rs dw ah h;have e:(look dw.env)= λt'=>if WdZ ops ρ.i=some t' then some ρ.v else look st.env t':=funext λt=>by
   rw[hs.env];unfold WdZ;rw[hs.at_];rfl
  refine⟨λt=>by rw[h1,e];rfl,?_⟩;rw[h2,Whl];congr 1;rw[hs.objs,hs.nx];split<;>rfl
theorem Wi1:∀(a:List Rc) (ρ:Rc) (b:List Rc) (st ah:St),WuM T Γ A ops (a++ρ::b) st ah->∃o dw am,WuM T Γ A ops a st dw/\StepTo T Γ A ops ρ o dw am
 | [],ρ,b,st,ah,⟨o,dw,hs,h⟩=>⟨o,st,dw,rfl,hs⟩
 |x::a,ρ,b,st,ah,⟨o,dw,hs,h⟩=>by
  obtain⟨o',s1,s2,h1,h2⟩:=Wi1 a ρ b dw ah h;exact⟨o',s1,s2,⟨o,dw,hs,h1⟩,h2⟩
theorem Wbv:∀(a:List Rc) (m:Wac×Nat),Whl a m=Whl (a.filter (·.mv)) m
 | [],_=>rfl
 |ρ::a,m=>by
  rw[Whl,Wbv a,Xbg];cases h:ρ.mv with
  |true=>simp only[Waw,Whl,h]
  |false=>simp only[Xbl,WaE]
theorem WdB:∀(a b:List Rc) (m:Wac×Nat),Whl (a++b) m=Whl b (Whl a m)
 | [],_,_=>rfl
 |ρ::a,b,m=>by rw[Xaz,Whl,WdB a b];rfl
theorem WhN{pre objs:Wac}{id:Nat}(h:id∉Wg5 pre):look (pre++objs) id=look objs id:=by
 induction pre with
 |nil=>rfl
 |cons p pre ih=>
  obtain⟨j,ob⟩:=p;simp only[Wg5,Xam,Xq,not_or]at h;rw[Xaz,WF,Wa (λe=>h.1 e.symm)];exact ih h.2
theorem WhX{id:Nat}:∀(a:List Rc) (m:Wac×Nat),(∀ρ∈a,ρ.mv=true->id∉Wg5 ρ.pre)->look (Whl a m).1 id=look m.1 id
 | [],_,_=>rfl
 |ρ::a,m,h=>by
  rw[Whl,WhX a _ λx hx=>h x (Xe _ hx)];split
  .rename_i hm;exact WhN (h ρ (Xh ..) hm)
  .rfl
def WjZ(ops:Array Oper):Prop:=∀i j t,WdZ ops i=some t->WdZ ops j=some t->i=j
theorem WfK{t:Nat}:∀(a:List Rc) (e:Nat->Option AVal),(∀ρ∈a,WdZ ops ρ.i≠some t)->Wou ops a e t=e t
 | [],_,_=>rfl
 |ρ::a,e,h=>by
  rw[Wou,WfK a _ λx hx=>h x (Xe _ hx),Wa (h ρ (Xh ..))]
theorem WhY{t:Nat}(h1:WjZ ops):∀(a:List Rc) (e:Nat->Option AVal),(a.map (·.i)).Nodup->∀ρ∈a,WdZ ops ρ.i=some t->Wou ops a e t=some ρ.v
 | [],_,_,_,h,_=>by cases h
 |x::a,e,hn,ρ,hρ,ht=>by
  rw[Xam,Xah]at hn;rw[Wou];rcases Xq.1 hρ with rfl|hρ
  .rw[WfK a _ λy hy w9=>hn.1 (by rw[h1 _ _ _ ht w9];exact Xt.2 ⟨y,hy,rfl⟩),Wb ht]
  .exact WhY h1 a _ hn.2 ρ hρ ht
theorem WjJ{t:Nat}(h1:WjZ ops){a b:List Rc}{e:Nat->Option AVal}(ha:(a.map (·.i)).Nodup)(hb:(b.map (·.i)).Nodup)
  (h:∀ρ,WdZ ops ρ.i=some t->(ρ∈a↔ρ∈b)):Wou ops a e t=Wou ops b e t:=by
 by_cases hx:∃ρ∈a,WdZ ops ρ.i=some t
 .obtain⟨ρ,hρ,ht⟩:=hx;rw[WhY h1 a e ha ρ hρ ht,WhY h1 b e hb ρ ((h ρ ht).1 hρ) ht]
 .rw[WfK a e λρ hρ ht=>hx ⟨ρ,hρ,ht⟩,WfK b e λρ hρ ht=>hx ⟨ρ,(h ρ ht).2 hρ,ht⟩]
end
end Go.Sx
namespace Go.Sx
set_option linter.unusedVariables false
set_option linter.unusedSimpArgs false
theorem Wfz{α:Type}{x:α}:∀{a c b d:List α},(a++x::b).Nodup->a++x::b=c++x::d->a=c
 | [],[],_,_,_,_=>rfl
 | [],y::c,b,d,hn,h=>by
  simp only[Xbs,Xaz,List.cons.injEq]at h;obtain⟨rfl,h⟩:=h;rw[Xbs,Xah]at hn;exact Wl (by rw[h];simp) hn.1
 |y::a,[],b,d,hn,h=>by
  simp only[Xbs,Xaz,List.cons.injEq]at h;obtain⟨rfl,h⟩:=h;rw[Xaz,Xah]at hn;exact Wl (by simp) hn.1
 |y::a,z::c,b,d,hn,h=>by
  simp only[Xaz,List.cons.injEq]at h;obtain⟨rfl,h⟩:=h;rw[Xaz,Xah]at hn;rw[Wfz hn.2 h]
def WaH(ops:Array Oper)(i:Nat):Bool:=match ops[i]? with
 |some o=>WaN o
 |none=>false
theorem Rel.same{w0:World}{F:CS}{nt:Slots}{G0 G:GH}{ν:Nat->Nu}{st am:St}{a:Act}{w:World}(h:Rel w0 F nt G0 G ν st a w)
  (he:∀t,look am.env t=look st.env t) (ho:am.objs=st.objs) (hn:am.nx=st.nx):Rel w0 F nt G0 G ν am a w:=
 ⟨h.defers,h.ntm,h.par,λi x hx=>by rw[he]at hx;rw[hn];exact h.env i x hx,by rw[ho,hn];exact h.h,h.gx⟩
theorem WtQ:∀(rs:List Rc),(rs.map (·.i)).Nodup->∃rec:Nat->Rc,∀ρ∈rs,rec ρ.i=ρ
 | [],_=>⟨λi=>⟨i,.tup [],[],0,[],false⟩,by simp⟩
 |ρ::rs,h=>by
  rw[Xam,Xah]at h;obtain⟨rec,hr⟩:=WtQ rs h.2;refine⟨λi=>if i=ρ.i then ρ else rec i,λx hx=>?_⟩;rcases Xq.1 hx with rfl|hx
  .simp
  .simp only;rw[Wa (λe=>h.1 (by rw[←e];exact Xt.2 ⟨x,hx,rfl⟩))];exact hr x hx
section
variable{w0:World}{F:CS}{nt:Slots}{G0:GH}{P:Program}{T:Tab}{Γ:Ctx}{A:List (Nat×An)}{ops:Array Oper}{Q:Exit->Act->World->Prop}
theorem Wqj(hT:Wag P T)(hΓ:WeZ P Γ)(hd:∀o∈ops,∀d,o.dst=some d->nt.Ok d){l L:List Nat}(hl:Order ops l)(hL:Order ops L)(dQ:WjZ ops)
  (hsl:∀(i:Nat) (o:Oper) (t:Nat),ops[i]?=some o->t∈Wdf ops o->∀j,WdZ ops j=some t->j=i\/WcY (Wed ops.toList []) j i=true\/WcY (Wed ops.toList []) i j=true)
  (hσ:l.filter (WaH ops)=L.filter (WaH ops)) {rs:List Rc} {st ah:St} (fV:rs.map (·.i)=L) (jN:WuM T Γ A ops rs st ah) (bY:rs.Pairwise (Wv4 (Wed ops.toList [])))
  (hK:∀a w G ν,Rel w0 F nt G0 G ν ah a w->Q .normal a w) {a:Act} {w:World} {G:GH} {ν:Nat->Nu} (hr:Rel w0 F nt G0 G ν st a w):wpOps P ops Q l a w:=by
 have aV:(rs.map (·.i)).Nodup:=by rw[fV];exact hL.nodup
 obtain⟨rec,bo⟩:=WtQ rs aV;have hLr:L.map rec=rs:=by
  rw[←fV,Xdx]
  conv=>rhs;rw[←List.map_id rs]
  exact Xdi λρ hρ=>bo ρ hρ
 have ie:∀i,i∈l↔i∈L:=λi=>by rw[←hl.all,hL.all]
 have iD:∀i∈L,(rec i).i=i/\rec i∈rs:=λi hi=>by
  rw[←fV]at hi;obtain⟨ρ,hρ,rfl⟩:=Xt.1 hi;rw[bo ρ hρ];exact⟨rfl,hρ⟩
 have jO:∀i∈L,∃pre post o dw am,L=pre++i::post/\WuM T Γ A ops (pre.map rec) st dw/\StepTo T Γ A ops (rec i) o dw am:=λi hi=>by
  obtain⟨pre,post,e⟩:=Xdz hi;have:rs=pre.map rec++rec i::post.map rec:=by rw[←hLr,e];simp
  rw[this]at jN;obtain⟨o,dw,am,h1,h2⟩:=Wi1 _ _ _ _ _ jN;exact⟨pre,post,o,dw,am,e,h1,h2⟩
 have fS:∀i∈L,(rec i).mv=WaH ops i:=λi hi=>by
  obtain⟨pre,post,o,dw,am,e,h1,h2⟩:=jO i hi;rw[h2.isM];have:=h2.at_;rw[(iD i hi).1]at this;unfold WaH;rw[this]
 have eU:∀(p:List Nat),(∀i∈p,i∈L)->(p.map rec).filter (·.mv)=(p.filter (WaH ops)).map rec:=by
  intro p
  induction p with
  |nil=>intro _;rfl
  |cons i p ih=>
   intro h;have:=ih λj hj=>h j (Xe _ hj);rw[Xam,Xbg,Xbg,fS i (h i (Xh ..))];split
   .rw[Xam,this]
   .exact this
 have mO:∀(p:List Nat),(∀i∈p,i∈L)->(p.map rec).map (·.i)=p:=by
  intro p h;rw[Xdx]
  conv=>rhs;rw[←List.map_id p]
  exact Xdi λi hi=>(iD i (h i hi)).1
 have eG:∀(p:List Nat),(∀i∈p,i∈L)->∀i∈L,(rec i∈p.map rec↔i∈p):=λp hp i hi=>by
  constructor
  .intro h;obtain⟨j,hj,e⟩:=Xt.1 h;have:j=i:=by rw[←(iD j (hp j hj)).1,←(iD i hi).1,e]
   rw[←this];exact hj
  .exactλh=>Xt.2 ⟨i,h,rfl⟩
 have lV:∀i j pre post,L=pre++i::post->j∈post->Wv4 (Wed ops.toList []) (rec i) (rec j):=λi j pre post e hj=>by
  have:rs=pre.map rec++rec i::post.map rec:=by rw[←hLr,e];simp
  rw[this,List.pairwise_append]at bY;exact(List.pairwise_cons.1 bY.2.1).1 _ (Xt.2 ⟨j,hj,rfl⟩)
 suffices main:∀(s p:List Nat),l=p++s->∀(am:St) (a:Act) (w:World) (G:GH) (ν:Nat->Nu),Rel w0 F nt G0 G ν am a w->
   (∀t,look am.env t=Wou ops (p.map rec) (look st.env) t)->(am.objs,am.nx)=Whl (p.map rec) (st.objs,st.nx)->wpOps P ops Q s a w from
  main l [] rfl st a w G ν hr (λ_=>rfl) rfl
 intro s
 induction s with
 |nil=>
  intro p e am a w G ν gJ he hm;rw[Xcw]at e;subst e;obtain⟨f1,f2⟩:=Wgu _ _ _ jN;have pB:∀i∈l,i∈L:=λi hi=>(ie i).1 hi;refine hK a w G ν (gJ.same (λt=>?_) ?_ ?_)
  .rw[f1,he];refine WjJ dQ aV (by rw[mO l pB];exact hl.nodup) λρ _=>?_;constructor
   .intro hρ;have hi:ρ.i∈L:=by rw[←fV];exact Xt.2 ⟨ρ,hρ,rfl⟩
    rw[←bo ρ hρ];exact(eG l pB ρ.i hi).2 ((ie _).2 hi)
   .intro hρ;obtain⟨i,hi,rfl⟩:=Xt.1 hρ;exact(iD i (pB i hi)).2
  .have:Whl (l.map rec) (st.objs,st.nx)=Whl rs (st.objs,st.nx):=by
    rw[Wbv,eU l pB,hσ,←eU L (λi hi=>hi),←Wbv,hLr]
   rw[this,←f2]at hm;exact(Wj (·.1) hm).symm
  .have:Whl (l.map rec) (st.objs,st.nx)=Whl rs (st.objs,st.nx):=by
    rw[Wbv,eU l pB,hσ,←eU L (λi hi=>hi),←Wbv,hLr]
   rw[this,←f2]at hm;exact(Wj (·.2) hm).symm
 |cons i s ih=>
  intro p e am a w G ν gJ he hm;have og:i∈L:=(ie i).1 (by rw[e];simp);have pC:∀j∈p,j∈L:=λj hj=>(ie j).1 (by rw[e];exact Xl _ hj);obtain⟨pre,post,o,dw,xa,eL,h1,h2⟩:=jO i og;have ig:∀j∈pre,j∈L:=λj hj=>by rw[eL];exact Xl _ hj
  have rD:ops[i]?=some o:=by have:=h2.at_;rw[(iD i og).1]at this;exact this
  obtain⟨g1,g2⟩:=Wgu _ _ _ h1;have kU:=hl.nodup;have kV:=hL.nodup;rw[e]at kU;rw[eL]at kV;have kW:i∉p:=λh=>(Xag.1 kU).2.2 i h i (Xh ..) rfl;have ii:i∉pre:=λh=>(Xag.1 kV).2.2 i h i (Xh ..) rfl;have mP:∀t∈Wdf ops o,look am.env t=look dw.env t:=λt ht=>by
   rw[he,g1];refine WjJ dQ (by rw[mO p pC];exact(Xag.1 kU).1) (by rw[mO pre ig];exact(Xag.1 kV).1) λρ hρt=>?_;have key:∀j∈L,WdZ ops j=some t->(j∈p↔j∈pre):=λj hj rr=>by
    rcases hsl i o t rD ht j rr with rfl|hb|hb
    .exact⟨λh=>Wl h kW,λh=>Wl h ii⟩
    .by_cases pD:j=i
     .subst pD;exact⟨λh=>Wl h kW,λh=>Wl h ii⟩
     .exact⟨λ_=>hL.bef' eL hb pD,λ_=>hl.bef' e hb pD⟩
    .exact⟨λh=>Wl (hl.bef e hb h) kW,λh=>Wl (hL.bef eL hb h) ii⟩
   constructor
   .intro hρ;obtain⟨j,hj,rfl⟩:=Xt.1 hρ;have pE:=pC j hj;rw[(iD j pE).1]at hρt;exact Xt.2 ⟨j,(key j pE hρt).1 hj,rfl⟩
   .intro hρ;obtain⟨j,hj,rfl⟩:=Xt.1 hρ;have pE:=ig j hj;rw[(iD j pE).1]at hρt;exact Xt.2 ⟨j,(key j pE hρt).2 hj,rfl⟩
  have uQ:Whl (p.map rec) (st.objs,st.nx)=Whl ((p.filter (WaH ops)).map rec) (st.objs,st.nx):=by rw[Wbv,eU p pC]
  have lW:Whl (pre.map rec) (st.objs,st.nx)=Whl ((pre.filter (WaH ops)).map rec) (st.objs,st.nx):=by rw[Wbv,eU pre ig]
  obtain⟨xb,h3⟩:=h2.move (am:=am) mP (λdK=>by
   have pF:WaH ops i=true:=by rw[←fS i og];exact dK
   have:p.filter (WaH ops)=pre.filter (WaH ops):=by
    have q:=hσ;rw[e,eL,Xcr,Xcr,Xbg,Xbg,Wb pF,Wb pF]at q;refine Wfz ?_ q;have:=hl.nodup.filter (WaH ops);rw[e,Xcr,Xbg,Wb pF]at this;exact this
   rw[uQ,this,←lW,←g2]at hm;exact⟨Wj (·.1) hm,Wj (·.2) hm⟩) (λgj id bB=>by
   have q:(p.filter (WaH ops))<+:l.filter (WaH ops):=by rw[e,Xcr];exact Xgf _ _
   have q2:(pre.filter (WaH ops))<+:l.filter (WaH ops):=by rw[hσ,eL,Xcr];exact Xgf _ _
   have sy:am.objs=(Whl ((p.filter (WaH ops)).map rec) (st.objs,st.nx)).1:=by rw[←uQ,←hm]
   have rq:dw.objs=(Whl ((pre.filter (WaH ops)).map rec) (st.objs,st.nx)).1:=by rw[←lW,←g2]
   rw[sy,rq];rcases List.prefix_or_prefix_of_prefix q q2 with⟨X,hX⟩|⟨X,hX⟩
   .
    rw[←hX,Xz,WdB];refine(WhX _ _ λρ hρ hρm=>?_).symm;obtain⟨m,oh,rfl⟩:=Xt.1 hρ;have gK:m∈pre:=(Xas.1 (by rw[←hX];exact Xg _ oh:m∈pre.filter (WaH ops))).1;have mQ:m∉p:=λhmem=>by
     have sY:WaH ops m=true:=(Xas.1 (by rw[←hX];exact Xg _ oh:m∈pre.filter (WaH ops))).2;have jP:(pre.filter (WaH ops)).Nodup:=(Xag.1 kV).1.filter _;rw[←hX]at jP;exact(Xag.1 jP).2.2 m (Xas.2 ⟨hmem,sY⟩) m oh rfl
    obtain⟨u,v,eu⟩:=Xdz gK;have hf:=lV m i u (v++i::post) (by rw[eL,eu];simp) (by simp);rcases hf.2 hρm gj with hb|hb
    .rw[(iD m (ig m gK)).1,(iD i og).1]at hb;exact Wl (hl.bef' e hb (λhc=>ii (hc▸gK))) mQ
    .exact hb id bB
   .rw[←hX,Xz,WdB];refine WhX _ _ λρ hρ hρm=>?_;obtain⟨m,oh,rfl⟩:=Xt.1 hρ;have uR:m∈p.filter (WaH ops):=by rw[←hX];exact Xg _ oh
    have kX:m∈p:=(Xas.1 uR).1;have mQ:m∉pre:=λhmem=>by
     have sY:WaH ops m=true:=(Xas.1 uR).2;have jP:(p.filter (WaH ops)).Nodup:=(Xag.1 kU).1.filter _;rw[←hX]at jP;exact(Xag.1 jP).2.2 m (Xas.2 ⟨hmem,sY⟩) m oh rfl
    have uS:=pC m kX;have mR:m∈post:=by
     rw[eL]at uS;rcases Xm.1 uS with h|h
     .exact Wl h mQ
     .rcases Xq.1 h with h|h
      .exact Wl (h▸kX) kW
      .exact h
    have hf:=lV i m pre post eL mR;rcases hf.1 gj hρm with hb|hb
    .rw[(iD m (pC m kX)).1,(iD i og).1]at hb;exact Wl (hl.bef e hb kX) kW
    .exact hb id bB)
  have xc:∀d,o.dst=some d->nt.Ok d:=hd o (Array.mem_of_getElem? rD);have rE:=Wtq (F:=F) (G0:=G0) (w0:=w0) hT hΓ xc (Q:=Q) (k:=some) (r:=xb) (K:=wpOps P ops Q s) (λxd a' w' G' ν' hr4 h4=>by
   injection h4 with h4;subst h4;refine ih (p++ [i]) (by rw[e];simp) xd a' w' G' ν' hr4 (λt=>?_) ?_
   .rw[h3.env];have hv:Wou ops ((p++ [i]).map rec) (look st.env) t=if WdZ ops i=some t then some (rec i).v else Wou ops (p.map rec) (look st.env) t:=by
     rw[Xz];have gen:∀(x:List Rc) (y:Rc) (e:Nat->Option AVal),Wou ops (x++ [y]) e t=if WdZ ops y.i=some t then some y.v else Wou ops x e t:=by
      intro x
      induction x with
      |nil=>intro y e;rfl
      |cons z x ih=>intro y e;rw[Xaz,Wou,ih];rfl
     rw[List.map_singleton,gen,(iD i og).1]
    rw[hv,he];have:WdZ ops i=o.dst:=by unfold WdZ;rw[rD];rfl
    rw[this]
   .rw[Xz,WdB,←hm];simp only[Xam,Xby,Whl];rw[h3.objs,h3.nx];split<;>rfl) gJ h3.run
  rw[wpOps_cons];unfold wpOp;rw[rD];simp only;split
  .rename_i hw;rw[Wb hw]at rE;exact .inl rE
  .rename_i hw;rw[Wa hw]at rE;exact rE
end
end Go.Sx
namespace Go.Sx
set_option linter.unusedVariables false
set_option linter.unusedSimpArgs false
theorem WjK:∀{l:List (Nat×Nat)},Wbr (l.map (·.1))=true->∀p∈l,∀q∈l,p.1=q.1->p=q
 | [],_,p,hp,_,_,_=>by cases hp
 |x::l,h,p,hp,q,hq,e=>by
  have hn:=(WeJ _).1 h;simp only[Xam,Wbr,Xi]at h;rw[Xam,Xah]at hn;rcases Xq.1 hp with h1|h1
  .rcases Xq.1 hq with h2|h2
   .rw[h1,h2]
   .exact Wl (Xt.2 ⟨q,h2,by rw[←e,h1]⟩) hn.1
  .rcases Xq.1 hq with h2|h2
   .exact Wl (Xt.2 ⟨p,h1,by rw[e,h2]⟩) hn.1
   .exact WjK h.2 p h1 q h2 e
theorem Wjl:∀(l:List Oper) (n k:Nat) (o:Oper) (d:Nat),l[k]?=some o->o.dst=some d->(d,n+k)∈WgN l n
 | [],_,k,o,d,h,_=>by simp at h
 |x::l,n,k,o,d,h,hd=>by
  cases k with
  |zero=>
   simp at h;subst h;simp only[WgN,hd];exact Xh ..
  |succ k=>
   have:=Wjl l (n+1) k o d (by simpa using h) hd;have e:n+(k+1)=n+1+k:=by omega
   rw[e];simp only[WgN];split
   .exact Xe _ this
   .exact this
theorem Whe{ops:Array Oper}{B:List (List Nat)}{D:List (Nat×Nat)}:∀(l:List Oper) (n:Nat),Wk8 ops B D l n=true->∀(k:Nat) (o:Oper),l[k]?=some o->∀t∈Wdf ops o,∀p∈D,p.1=t->
  p.2=n+k\/WcY B p.2 (n+k)=true\/WcY B (n+k) p.2=true
 | [],_,_,k,o,h=>by simp at h
 |x::l,n,h,k,o,hk=>by
  simp only[Wk8,Xi]at h;cases k with
  |zero=>
   simp at hk;subst hk;intro t ht p hp e;have:=Xai.1 (Xai.1 h.1 t ht) p hp;simp only[Xck,Xap]at this;rcases this with((h1|h1)|h1)|h1
   .rw[e]at h1;simp at h1
   .exact .inl (by simpa using h1)
   .exact .inr (.inl h1)
   .exact .inr (.inr h1)
  |succ k=>
   have:=Whe l (n+1) h.2 k o (by simpa using hk);have e:n+(k+1)=n+1+k:=by omega
   rw[e];exact this
structure RegOk(ops:Array Oper):Prop where
 back:∀(k:Nat) (o:Oper),ops[k]?=some o->∀d∈Wmc o,d<k
 one:WjZ ops
 slots:∀(i:Nat) (o:Oper) (t:Nat),ops[i]?=some o->t∈Wdf ops o->∀j,WdZ ops j=some t->j=i\/WcY (Wed ops.toList []) j i=true\/WcY (Wed ops.toList []) i j=true
theorem Wim{ops:Array Oper}{j t:Nat}(h:WdZ ops j=some t):(t,j)∈WgN ops.toList 0:=by
 unfold WdZ at h;obtain⟨o,ho,hd⟩:=Xbu.1 h;have:=Wjl ops.toList 0 j o t (by simpa using ho) hd;rw[Xba]at this;exact this
theorem WoV{ops:Array Oper}(h:WuO ops (Wed ops.toList [])=true):RegOk ops:=by
 simp only[WuO,Xi]at h;obtain⟨⟨h1,h2⟩,h3⟩:=h;refine⟨λk o ho e he=>?_,λi j t hi hj=>?_,λi o t ho ht j hj=>?_⟩
 .have:=Wjs (ops:=ops) ops.toList 0 h1 k o (by simpa using ho) e he;omega
 .have:=WjK h2 _ (Wim hi) _ (Wim hj) rfl;exact Wj (·.2) this
 .have:=Whe ops.toList 0 h3 i o (by simpa using ho) t ht _ (Wim hj) rfl;simpa using this
theorem WjA{ops:Array Oper}:∀(l done:List Nat),WiQ ops l done=true->done.Nodup->(∀i∈done,i<ops.size)->
  (done++l).Nodup/\(∀i∈done++l,i<ops.size)/\(done++l).length=ops.size/\(∀p i s,l=p++i::s->∀o,ops[i]?=some o->∀d∈Wmc o,d∈done++p)
 | [],done,h,hn,hlt=>by
  simp only[WiQ]at h;exact⟨by simpa using hn,by simpa using hlt,by simpa using h,λp i s e=>by simp at e⟩
 |x::l,done,h,hn,hlt=>by
  simp only[WiQ,Xi,Xap]at h;obtain⟨⟨h1,h2⟩,h3⟩:=h;have hx:x∉done:=λhm=>by rw[(WaK x done).2 hm]at h1;cases h1
  cases ho:ops[x]? with
  |none=>rw[ho]at h2;cases h2
  |some o=>
   rw[ho]at h2;have mI:x<ops.size:=(Xcy.1 ho).1;obtain⟨g1,g2,g3,g4⟩:=WjA l (x::done) h3 (Xah.2 ⟨hx,hn⟩) (λi hi=>by
    rcases Xq.1 hi with rfl|hi
    .exact mI
    .exact hlt i hi)
   have jQ:List.Perm (x::done++l) (done++x::l):=by simpa using(List.perm_middle (a:=x) (l₁:=done) (l₂:=l)).symm
   refine⟨jQ.nodup_iff.1 g1,λi hi=>g2 i (jQ.mem_iff.2 hi),by rw[←jQ.length_eq];exact g3,λp i s e o' iB d hd=>?_⟩;cases p with
   |nil=>
    simp only[Xbs,List.cons.injEq]at e;obtain⟨rfl,_⟩:=e;rw[ho]at iB;injection iB with iB;subst iB;have:=Xai.1 h2 d hd;simpa using(WaK d done).1 this
   |cons y p=>
    simp only[Xaz,List.cons.injEq]at e;obtain⟨rfl,e⟩:=e;have:=g4 p i s e o' iB d hd;simp only[Xaz,Xq,Xm]at this⊢;rcases this with h|h|h
    .exact .inr (.inl h)
    .exact .inl h
    .exact .inr (.inr h)
theorem WmY{l:List Nat}{n:Nat}(hn:l.Nodup)(hlt:∀i∈l,i<n)(hlen:l.length=n):∀i,i<n->i∈l:=by
 intro i hi;refine Classical.byContradiction λh=>?_;have h1:(i::l).Nodup:=Xah.2 ⟨h,hn⟩;have h2:∀j∈i::l,j∈Xdb n:=λj hj=>by
  rw[Xec];rcases Xq.1 hj with rfl|hj
  .exact hi
  .exact hlt j hj
 have key:∀(a b:List Nat),a.Nodup->(∀x∈a,x∈b)->a.length<=b.length:=by
  intro a
  induction a with
  |nil=>intro b _ _;simp
  |cons x a ih=>
   intro b mS fg;rw[Xah]at mS;have pG:x∈b:=fg x (Xh ..);have:=ih (b.erase x) mS.2 λy hy=>(Xfz (λe=>mS.1 (by rw[←e];exact hy))).2 (fg y (Xe _ hy));rw[Xea pG]at this;have hpos:=Xfq pG;simp;omega
 have:=key _ _ h1 h2;rw[Xff,Xx]at this;omega
theorem Wnc{ops:Array Oper}{l:List Nat}(h:WiQ ops l []=true):Order ops l:=by
 obtain⟨h1,h2,h3,h4⟩:=WjA l [] h Xcq (by simp);rw[Xbs]at h1 h2 h3;exact⟨h1,λi=>⟨WmY h1 h2 h3 i,h2 i⟩,λp i s e o ho d hd=>by simpa using h4 p i s e o ho d hd⟩
theorem Wji:∀(l:List Oper) (n i:Nat),i∈WgX l n↔n<=i/\∃o,l[i-n]?=some o/\WaN o=true
 | [],n,i=>by simp[WgX]
 |o::l,n,i=>by
  have ih:=Wji l (n+1) i;have jR:(n<=i/\∃o',(o::l)[i-n]?=some o'/\WaN o'=true)↔(i=n/\WaN o=true)\/(n+1<=i/\∃o',l[i-(n+1)]?=some o'/\WaN o'=true):=by
   by_cases hi:i=n
   .subst hi;constructor
    .rintro⟨_,o',h1,h2⟩;rw[Xcv]at h1;injection h1 with h1;subst h1;exact .inl ⟨rfl,h2⟩
    .rintro(⟨_,h⟩|⟨h,_⟩)
     .exact⟨Xn _,o,by rw[Xcv];rfl,h⟩
     .omega
   .constructor
    .rintro⟨h0,o',h1,h2⟩;have e:i-n=(i-(n+1))+1:=by omega
     rw[e,Xed]at h1;exact .inr ⟨by omega,o',h1,h2⟩
    .rintro(⟨h,_⟩|⟨h0,o',h1,h2⟩)
     .exact Wl h hi
     .have e:i-n=(i-(n+1))+1:=by omega
      exact⟨by omega,o',by rw[e,Xed];exact h1,h2⟩
  rw[jR,←ih];simp only[WgX];cases hm:WaN o with
  |true=>simp
  |false=>simp
theorem Wlw{ops:Array Oper}{i:Nat}:i∈WgX ops.toList 0↔WaH ops i=true:=by
 rw[Wji];unfold WaH;simp only[Xbr,true_and,Xde,Array.getElem?_toList];cases ops[i]? with
 |none=>simp
 |some o=>simp
theorem Wog{B:List (List Nat)}:∀(σ rem:List Nat) (n:Nat),σ.length<=n->σ.Nodup->(∀i,i∈rem↔i∈σ)->(∀p m s,σ=p++m::s->∀m'∈m::s,WcY B m' m=false)->σ∈WuA B n rem
 | [],rem,n,hn,aV,hmem,hb=>by
  have:rem= []:=Xen.2 λi hi=>by have:=(hmem i).1 hi;cases this
  subst this;cases n<;>simp[WuA]
 |m::s,rem,0,hn,_,_,_=>by simp at hn
 |m::s,rem,n+1,hn,aV,hmem,hb=>by
  have hm:m∈rem:=(hmem m).2 (Xh ..);rw[Xah]at aV;cases iE:rem with
  |nil=>rw[iE]at hm;cases hm
  |cons x xs=>
   rw[←iE];have xe:WuA B (n+1) rem=(rem.filter λm=>rem.all λm'=>!WcY B m' m).flatMap λm=>(WuA B n (rem.filter λx=>!Xbp x m)).map (m:: ·):=by rw[iE];rfl
   rw[xe];refine Xfj.2 ⟨m,Xas.2 ⟨hm,Xai.2 λm' gE=>?_⟩,Xt.2 ⟨s,?_,rfl⟩⟩
   .rw[hb [] m s rfl m' ((hmem m').1 gE)];rfl
   .refine Wog s _ n (by simpa using hn) aV.2 (λi=>?_) (λp q s' e=>hb (m::p) q s' (by rw[e];rfl));rw[Xas,hmem,Xq];constructor
    .rintro⟨h1,h2⟩;rcases h1 with rfl|h1
     .simp at h2
     .exact h1
    .intro h;refine⟨.inr h,?_⟩;have hne:i≠m:=λe=>aV.1 (e▸h);cases hb':Xbp i m with
     |false=>rfl
     |true=>exact Wl (Nat.eq_of_beq_eq_true hb') hne
theorem WtL:∀(l m:List Nat),eqN l m=true->l=m
 | [],[],_=>rfl
 | [],_::_,h=>by cases h
 |_::_,[],h=>by cases h
 |i::l,j::m,h=>by
  simp only[eqN,Xi]at h;have:i=j:=by simpa using h.1
  rw[this,WtL l m h.2]
theorem Wqe{α:Type}{a b:Option α}{r:α}(h:Whh a b=some r):a=some r/\b=some r:=by
 unfold Whh at h;split at h
 .rename_i e;exact⟨h,e▸h⟩
 .cases h
section
variable{w0:World}{F:CS}{nt:Slots}{G0:GH}{P:Program}{T:Tab}{Γ:Ctx}{A:List (Nat×An)}{R:Type}{r:R}
theorem Wov{ops:Array Oper}{B:List (List Nat)}{st:St}{k:St->Option R}:∀(l:List (List Nat)),Wu4 T Γ A ops B st k l=some r->∀σ∈l,∃L,WiQ ops L []=true/\L.filter (λi=>Wcf i σ)=σ/\rdx T Γ A ops B L [] [] st k=some r
 | [],_,σ,hσ=>by cases hσ
 |τ::l,h,σ,hσ=>by
  have one:Wga (Wkm ops.toList B ops.size [] τ) (λL=>bif WiQ ops L []&&eqN (L.filter λi=>Wcf i τ) τ then rdx T Γ A ops B L [] [] st k else none)=some r->∃L,WiQ ops L []=true/\L.filter (λi=>Wcf i τ)=τ/\rdx T Γ A ops B L [] [] st k=some r:=λh=>by
   rw[Wes]at h;obtain⟨hc,h⟩:=WaI h;simp only[Xi]at hc;exact⟨_,hc.1,WtL _ _ hc.2,h⟩
  cases l with
  |nil=>
   simp only[Wu4]at h;rcases Xq.1 hσ with rfl|hσ
   .exact one h
   .cases hσ
  |cons x l=>
   have h:Whh (Wga (Wkm ops.toList B ops.size [] τ) (λL=>bif WiQ ops L []&&eqN (L.filter λi=>Wcf i τ) τ then rdx T Γ A ops B L [] [] st k else none)) (Wu4 T Γ A ops B st k (x::l))=some r:=h;obtain⟨h1,h2⟩:=Wqe h;rcases Xq.1 hσ with rfl|hσ
   .exact one h1
   .exact Wov (x::l) h2 σ hσ
theorem Wsf(hM:P.follows .mixedOrders=true)(hT:Wag P T)(hΓ:WeZ P Γ){id:Nat}{ops:Array Oper}(hd:∀o∈ops,∀d,o.dst=some d->nt.Ok d){k:St->Option R}{Q:Exit->Act->World->Prop}(hK:Wp3 w0 F nt G0 k r (Q .normal)):
  Wp3 w0 F nt G0 (λst=>WuS T Γ A ops st k) r ((Code.region id ops true).wp P Q):=λst a w G ν hr h=>by
 simp only[WuS,WmL]at h;obtain⟨sZ,h⟩:=WaI h;have hR:=WoV sZ;refine wp_region_draw λt=>?_;rw[hM];have hl:Order ops (Region.schedule true ops t):=WiP hR.back;generalize Region.schedule true ops t=l at hl;have hσ:l.filter (WaH ops)∈WuA (Wed ops.toList []) ops.size (WgX ops.toList 0):=by
  refine Wog _ _ _ ?_ (hl.nodup.filter _) (λi=>?_) (λp m s e m' gE=>?_)
  .refine Xcm (Xej _ _) ?_;have dh:l.length<=(Xdb ops.size).length:=by
    have key:∀(a b:List Nat),a.Nodup->(∀x∈a,x∈b)->a.length<=b.length:=by
     intro a
     induction a with
     |nil=>intro b _ _;simp
     |cons x a ih=>
      intro b mS fg;rw[Xah]at mS;have pG:x∈b:=fg x (Xh ..);have:=ih (b.erase x) mS.2 λy hy=>(Xfz (λe=>mS.1 (by rw[←e];exact hy))).2 (fg y (Xe _ hy));rw[Xea pG]at this;have hpos:=Xfq pG;simp;omega
    exact key _ _ hl.nodup λx hx=>Xec.2 ((hl.all x).2 hx)
   rw[Xff]at dh;exact dh
  .rw[Wlw,Xas];constructor
   .intro h;refine⟨(hl.all i).1 ?_,h⟩;unfold WaH at h;split at h
    .rename_i o ho;exact(Xcy.1 ho).1
    .cases h
   .exactλh=>h.2
  .cases hb:WcY (Wed ops.toList []) m' m with
   |false=>rfl
   |true=>
    exfalso;have oi:m∈l:=(Xas.1 (by rw[e];simp:m∈l.filter (WaH ops))).1;obtain⟨u,v,eu⟩:=Xdz oi;have hm'u:m'∈u++ [m]:=hl.bef (p:=u++ [m]) (s:=v) (by rw[eu];simp) hb (by simp);have uT:WaH ops m=true:=(Xas.1 (by rw[e];simp:m∈l.filter (WaH ops))).2;have pH:=hl.nodup.filter (WaH ops);have e2:l.filter (WaH ops)=u.filter (WaH ops)++m::v.filter (WaH ops):=by rw[eu,Xcr,Xbg,Wb uT]
    have xf:p=u.filter (WaH ops):=by
     refine Wfz (b:=s) (d:=v.filter (WaH ops)) (x:=m) ?_ ?_
     .rw[←e];exact pH
     .rw[←e,e2]
    rcases Xq.1 gE with rfl|hm's
    .
     have:=hl.bef (p:=u++ [m']) (s:=v) (by rw[eu];simp) hb (by simp);have hcl:Wmf ops (λj=>j∈u\/(j=m'/\False)):=λi o ho hi d hd=>by
      rcases hi with hi|⟨_,hf⟩
      .exact .inl (hl.closed (p:=u) (s:=m'::v) eu i o ho hi d hd)
      .exact hf.elim
     have back:∀(j i:Nat),WcY (Wed ops.toList []) j i=true->j<i:=λj i pD=>by
      have hcl2:Wmf ops (λx=>x<i\/(x=i)):=λx o ho hx d hd=>by
       have:d<x:=hR.back x o ho d hd;omega
      refine Classical.byContradiction λhn=>?_;have hlt:∀(l:List Oper) (acc:List (List Nat)),(∀(k:Nat) (o:Oper),l[k]?=some o->ops[acc.length+k]?=some o)->(∀i,∀j∈acc.getD i [],j<i)->∀i,∀j∈(Wed l acc).getD i [],j<i:=by
       intro l
       induction l with
       |nil=>intro acc _ h;exact h
       |cons o l ih=>
        intro acc hl h;refine ih _ (λk o' hk=>?_) (λi j hj=>?_)
        .have:=hl (k+1) o' (by simpa using hk);rw[Xac];have e:acc.length+(k+1)=acc.length+ [WkN acc (Wmc o) []].length+k:=by simp;omega
         rw[←e];exact this
        .rw[Xae,Xax]at hj;split at hj
         .exact h i j (by rw[Xae];exact hj)
         .by_cases he:i=acc.length
          .subst he;simp only[Xcv,Xdj,Xei]at hj;rcases(WiA _ _).1 hj with⟨k,hk,iY⟩|hj
           .have pi:k<acc.length:=hR.back acc.length o (hl 0 o (by simp)) k hk;rcases iY with rfl|iY
            .exact pi
            .have:=h k j iY;omega
           .cases hj
          .have:[WkN acc (Wmc o) []][i-acc.length]?=none:=Xcp (by simp;omega);rw[this]at hj;cases hj
      exact hn (hlt ops.toList [] (λk o hk=>by simpa using hk) (λi j hj=>by simp at hj) i j ((WaK _ _).1 pD))
     have:=back m' m' hb;omega
    .
     have hm'l:m'∈p:=by
      rw[xf];rcases Xm.1 hm'u with h|h
      .refine Xas.2 ⟨h,?_⟩;exact(Xas.1 (by rw[e];simp[hm's]:m'∈l.filter (WaH ops))).2
      .simp at h;subst h;rw[e]at pH;have:=(Xah.1 (Xag.1 pH).2.1).1;exact Wl hm's this
     rw[e]at pH;exact(Xag.1 pH).2.2 m' hm'l m' (Xe _ hm's) rfl
 obtain⟨L,g1,g2,g3⟩:=Wov _ h _ hσ;have hL:=Wnc g1;obtain⟨rs,ah,q1,q2,q3,q4,_,_⟩:=Wke _ _ _ _ g3;have hf:l.filter (WaH ops)=L.filter (WaH ops):=by
  rw[←g2];refine List.filter_congr λi hi=>?_;cases hm:WaH ops i with
  |true=>exact(WaK _ _).2 (Xas.2 ⟨(hl.all i).1 ((hL.all i).2 hi),hm⟩)
  |false=>
   cases he:Wcf i (l.filter (WaH ops))with
   |false=>rfl
   |true=>
    have:=(Xas.1 ((WaK _ _).1 he)).2;rw[hm]at this;cases this
 have bi:Rel w0 F nt G0 G ν st a {w with drawn:=w.drawn+1}:=⟨hr.defers,hr.ntm,hr.par,hr.env,?_,hr.gx⟩
 .exact Wqj hT hΓ hd hl hL hR.one hR.slots hf q1 q2 q4 (λa w G ν hr=>hK ah a w G ν hr q3) bi
 .exact hr.h.drew
end
end Go.Sx
namespace Go.Sx
set_option linter.unusedVariables false
set_option linter.unusedSimpArgs false
section
variable{w0:World}{F:CS}{nt:Slots}{G0:GH}{P:Program}{T:Tab}{Γ:Ctx}{A:List (Nat×An)}{R:Type}{r:R}
theorem WnJ(hM:P.follows .mixedOrders=true)(hT:Wag P T)(hΓ:WeZ P Γ){n:Nat}{kept:List Nat}(hn:nt.n=n)(mT:∀p∈nt.kept,p.1∈kept){ann:Nat->List Ghost}{N:Nat}:∀(c:Code),Wdn n kept c=true->∀{k:Ex->St->Option R} {Q:Exit->Act->World->Prop},
  (∀e,Wp3 w0 F nt G0 (k e) r (Q e.to))->Wp3 w0 F nt G0 (λst=>sx T Γ ann N c st k) r (c.wp P Q)
 | .skip,_,k,Q,hK=>λst a w G ν hr h=>wp_skip (hK .normal st a w G ν hr h)
 | .exit id,_,k,Q,hK=>λst a w G ν hr h=>wp_exit (hK (.exit id) st a w G ν hr h)
 | .ret,_,k,Q,hK=>λst a w G ν hr h=>wp_ret (hK .ret st a w G ν hr h)
 | .region id ops draw,aY,k,Q,hK=>λst a w G ν hr h=>by
  have kO:Wp3 w0 F nt G0 (λah=>match WdT (ann id) ah with|some (c,ci)=>bif c then k .normal ci else none|none=>none) r (Q .normal):=λah a' w' G' ν' bi h'=>by
   simp only at h';split at h'
   .rename_i c ci hg;obtain⟨rfl,h'⟩:=WaI h';obtain⟨G2,ν2,gJ⟩:=Wdu _ _ _ _ _ bi hg;exact hK .normal _ _ _ _ _ gJ h'
   .cases h'
  have pI:∀o∈ops,∀d,o.dst=some d->nt.Ok d:=λo ho=>WnO hn mT (Xai.1 aY o (by simpa using ho));cases draw with
  |true=>exact Wsf hM hT hΓ pI kO st a w G ν hr h
  |false=>exact wp_region_list (WtG hT hΓ ops.toList (λo ho=>pI o (by simpa using ho)) kO st a w G ν hr h)
 | .seq x y,aY,k,Q,hK=>λst a w G ν hr h=>by
  simp only[Wdn,Xi]at aY;refine wp_seq (WnJ hM hT hΓ hn mT x aY.1 (Q:=Exit.then (y.wp P Q) Q) (λe=>?_) st a w G ν hr h);cases e with
  |normal=>exact WnJ hM hT hΓ hn mT y aY.2 hK
  |exit id=>exact hK (.exit id)
  |ret=>exact hK .ret
 | .cond c x y,aY,k,Q,hK=>λst a w G ν hr h=>by
  simp only[Wdn,Xi]at aY;simp only[sx]at h;split at h
  .rename_i b hb;cases hv:ev st c with
   |none=>simp[hv]at hb
   |some v=>
    simp only[hv,Xd]at hb;have hc:=Wnh v _ b (WM hr c v hv) hb;refine wp_cond hc ?_;cases b with
    |true=>exact WnJ hM hT hΓ hn mT x aY.1 hK st a w G ν hr h
    |false=>exact WnJ hM hT hΓ hn mT y aY.2 hK st a w G ν hr h
  .cases h
 | .block id c,aY,k,Q,hK=>λst a w G ν hr h=>by
  simp only[Wdn]at aY;refine wp_block (WnJ hM hT hΓ hn mT c aY (Q:=Exit.inBlock id Q) (λe=>?_) st a w G ν hr h);cases e with
  |normal=>exact hK .normal
  |exit bK=>
   intro ah a' w' G' ν' bi h';simp only[Ex.to,Exit.inBlock];split
   .rename_i he;simp only[he,Waw]at h';exact hK .normal _ _ _ _ _ bi h'
   .rename_i he;simp only[he,WaE]at h';exact hK (.exit bK) _ _ _ _ _ bi h'
  |ret=>exact hK .ret
 | .loop c,aY,k,Q,hK=>λst a w G ν hr h=>by
  simp only[Wdn]at aY;refine wp_loop_rounds N ?_;have key:∀(m:Nat),Wp3 w0 F nt G0 (λst=>WmW (WjL (ann (WfF c)) λst k=>sx T Γ ann N c st k) m st k) r (Code.rounds P c Q m):=by
   intro m
   induction m with
   |zero=>intro st a w G ν hr h;cases h
   |succ m ih=>
    intro st a w G ν hr h;rw[rounds_succ];have h:sx T Γ ann N c st (λe ah=>match e with
     | .normal=>match WdT (ann (WfF c)) ah with
      |some (b,ci)=>bif b then WmW (WjL (ann (WfF c)) λst k=>sx T Γ ann N c st k) m ci k else none
      |none=>none
     | .exit id=>k (.exit id) ah
     | .ret=>k .ret ah)=some r:=by
     rw[←h];simp only[WmW,WjL];congr 1
    refine WnJ hM hT hΓ hn mT c aY (Q:=Exit.then (Code.rounds P c Q m) Q) (λe=>?_) st a w G ν hr h;cases e with
    |normal=>
     intro ah a' w' G' ν' bi h';simp only at h';split at h'
     .rename_i b ci hg;obtain⟨rfl,h'⟩:=WaI h';obtain⟨G2,ν2,gJ⟩:=Wdu _ _ _ _ _ bi hg;exact ih _ _ _ _ _ gJ h'
     .cases h'
    |exit id=>exact hK (.exit id)
    |ret=>exact hK .ret
  have h:(match WdT (ann (WfF c)) st with
   |some (b,ah)=>bif b then WmW (WjL (ann (WfF c)) λst k=>sx T Γ ann N c st k) N ah k else none
   |none=>none)=some r:=h
  split at h
  .rename_i b ah hg;obtain⟨rfl,h⟩:=WaI h;obtain⟨G2,ν2,gJ⟩:=Wdu _ _ _ _ _ hr hg;exact key N _ _ _ _ _ gJ h
  .cases h
 | .scope ..,_,k,Q,hK=>λst a w G ν hr h=>by cases h
 | .label ..,_,k,Q,hK=>λst a w G ν hr h=>by cases h
 | .goto ..,_,k,Q,hK=>λst a w G ν hr h=>by cases h
 | .rangeFunc ..,_,k,Q,hK=>λst a w G ν hr h=>by cases h
 | .refuse ..,_,k,Q,hK=>λst a w G ν hr h=>by cases h
end
end Go.Sx
namespace Go.Sx
set_option linter.unusedVariables false
set_option linter.unusedSimpArgs false
section
variable{w0:World}{F:CS}{nt:Slots}{G0 G G':GH}{ν:Nat->Nu}{φ:Nat->CS}{objs:Wac}{nx ak:Nat}{st ah:St}{a:Act}{w w':World}{P:Program}{T:Tab}{Γ:Ctx}
theorem Wg0:∀(xs:List AVal) (j i:Nat),look (WgJ j xs) i=if j<=i then xs[i-j]? else none
 | [],j,i=>by simp[WgJ,look]
 |x::xs,j,i=>by
  simp only[WgJ];rw[WF,Wg0 xs (j+1) i];by_cases h:j=i
  .subst h;simp
  .by_cases h2:j<=i
   .have h3:j+1<=i:=by omega
    rw[Wa h,Wb h3,Wb h2,show i-j=(i-(j+1))+1 by omega];rfl
   .rw[Wa h,Wa h2,Wa (by omega)]
theorem Wjm:∀(l:List Nat),Wqg (Wjh l)=l
 | []=>rfl
 |i::l=>by
  show i::Wqg (Wjh l)=i::l;rw[Wjm l]
theorem WjG:∀(ps:List PTy) (d:We2 ps) (objs:Wac) (nx n:Nat),Wjd ps n=true->∃ids,ids.length=n/\(WQ ps d objs nx).1.take n=Wjh ids
 |_,_,_,_,0,_=>⟨[],rfl,rfl⟩
 | [],_,_,_,_+1,h=>by cases h
 | .v _ _::_,_,_,_,_+1,h=>by cases h
 | .mut _::_,_,_,_,_+1,h=>by cases h
 | .clos _ _::_,_,_,_,_+1,h=>by cases h
 | .kv _ _::_,_,_,_,_+1,h=>by cases h
 | .rp _::_,_,_,_,_+1,h=>by cases h
 | .vj _::_,_,_,_,_+1,h=>by cases h
 | .boxal _ _::_,_,_,_,_+1,h=>by cases h
 | .box t::ps,d,objs,nx,n+1,h=>by
  obtain⟨ids,h1,h2⟩:=WjG ps d.2 ((nx,.box (unfold t d.1 (nx+1)).1)::((unfold t d.1 (nx+1)).2.1++objs)) (unfold t d.1 (nx+1)).2.2 n h;refine⟨nx::ids,by simp[h1],?_⟩;simp only[WQ,List.take_succ_cons,h2];rfl
theorem Wce:∀(ps:List PTy) (d:We2 ps) (vs:List Value) (ns:List Pc) (ks:List Nu) (objs:Wac) (nx ak:Nat),Wci ps=true->Wbj G w ps d vs ns ks->At ν φ nx ns->nx+ns.length<=ak->
  (WQ ps d objs nx).2.2=nx+ns.length/\
  (∀id ob,look (WQ ps d objs nx).2.1 id=some ob->(nx<=id/\id<nx+ns.length/\Wcs G ν ak w id (φ id) ob)\/look objs id=some ob)/\
  (WQ ps d objs nx).1.length=vs.length/\∀(j:Nat) (x:AVal) (v:Value),(WQ ps d objs nx).1[j]?=some x->vs[j]?=some v->AValRel G ν ak x v
 | [],d,vs,ns,ks,objs,nx,ak,_,⟨h1,h2,h3⟩,_,_=>by
  subst h1 h2;exact⟨rfl,λid ob h=>.inr h,rfl,λj x v h=>by simp[WQ]at h⟩
 | .v t agg::ps,d,vs,ns,ks,objs,nx,ak,eD,⟨v,vs',n1,n2,h1,h2,h3,h4⟩,hν,hx=>by
  subst h2;obtain⟨us,iT⟩:=WnH h3;have bq:=W5 _ _ _ _ iT;have hlen:(n1++n2).length=t.owns+n2.length:=by rw[Xac,bq]
  obtain⟨_,o1⟩:=Was t d.1 nx us n1 iT hν.left;obtain⟨e1,e2,e3,e4⟩:=Wce ps d.2 vs' n2 ks ((unfold t d.1 nx).2.1++objs) (nx+t.owns) ak eD h4 (hν.right bq) (by omega);simp only[WQ,WaL];refine⟨by rw[e1,hlen];omega,λid ob hl=>?_,by rw[h1];simp[e3],λj x u hj hu=>?_⟩
  .rcases e2 id ob hl with⟨g1,g2,g3⟩|g
   .exact .inl ⟨by omega,by omega,g3⟩
   .rcases WK g with g|g
    .obtain⟨g1,g2,e,xs,rfl,g3⟩:=o1 id ob g;exact .inl ⟨g1,by omega,g3⟩
    .exact .inr g
  .rw[h1]at hu;cases j with
   |zero=>simp at hj hu;subst hj hu;exact Wkg h3 hν.left (by omega)
   |succ j=>exact e4 j x u (by simpa using hj) (by simpa using hu)
 | .kv t agg::ps,d,vs,ns,ks,objs,nx,ak,eD,⟨v,vs',n1,n2,ks',h1,h2,_,h3,h4⟩,hν,hx=>by
  subst h2;obtain⟨us,iT⟩:=WnH h3;have bq:=W5 _ _ _ _ iT;have hlen:(n1++n2).length=t.owns+n2.length:=by rw[Xac,bq]
  obtain⟨_,o1⟩:=Was t d.1 nx us n1 iT hν.left;obtain⟨e1,e2,e3,e4⟩:=Wce ps d.2 vs' n2 ks' ((unfold t d.1 nx).2.1++objs) (nx+t.owns) ak eD h4 (hν.right bq) (by omega);simp only[WQ,WaL];refine⟨by rw[e1,hlen];omega,λid ob hl=>?_,by rw[h1];simp[e3],λj x u hj hu=>?_⟩
  .rcases e2 id ob hl with⟨g1,g2,g3⟩|g
   .exact .inl ⟨by omega,by omega,g3⟩
   .rcases WK g with g|g
    .obtain⟨g1,g2,e,xs,rfl,g3⟩:=o1 id ob g;exact .inl ⟨g1,by omega,g3⟩
    .exact .inr g
  .rw[h1]at hu;cases j with
   |zero=>simp at hj hu;subst hj hu;exact Wkg h3 hν.left (by omega)
   |succ j=>exact e4 j x u (by simpa using hj) (by simpa using hu)
 | .box t::ps,d,vs,ns,ks,objs,nx,ak,eD,⟨b,o,vs',n1,n2,ks',h1,h2,h3,⟨us,hrow,hmem,gk⟩,h6⟩,hν,hx=>by
  subst h2;have bq:=W5 _ _ _ _ gk;have hlen:((⟨WbX b o,rng b o t.size⟩:Pc)::(n1++n2)).length=1+t.owns+n2.length:=by rw[Xx,Xac,bq];omega
  obtain⟨hν0,hφ0⟩:ν nx=WbX b o/\φ nx=rng b o t.size:=by have:=hν 0 _ rfl;simpa using this
  have hν1:At ν φ (nx+1) (n1++n2):=hν.right (n1:=[⟨WbX b o,rng b o t.size⟩]) rfl;obtain⟨c1,o1⟩:=Was t d.1 (nx+1) us n1 gk hν1.left;have cV:=Wb3 t d.1 (nx+1);obtain⟨e1,e2,e3,e4⟩:=Wce ps d.2 vs' n2 ks' ((nx,.box (unfold t d.1 (nx+1)).1)::((unfold t d.1 (nx+1)).2.1++objs)) (nx+1+t.owns) ak eD h6 (hν1.right bq) (by omega);simp only[WQ,WaL];refine⟨by rw[e1,hlen];omega,λid ob hl=>?_,by rw[h1];simp[e3],λj x u hj hu=>?_⟩
  .rcases e2 id ob hl with⟨g1,g2,g3⟩|g
   .exact .inl ⟨by omega,by omega,g3⟩
   .rw[WF]at g;split at g
    .rename_i e;subst e;injection g with g;subst g;exact .inl ⟨Xn _,by omega,b,us,by rw[hν0];rfl,by rw[hν0,cV];exact hrow,by rw[hν0];exact hmem,c1 ak (by omega),by rw[hν0,cV,hφ0];exactλ_ _ hh=>hh⟩
    .rcases WK g with g|g
     .obtain⟨g1,g2,e,xs,rfl,g3⟩:=o1 id ob g;exact .inl ⟨by omega,by omega,g3⟩
     .exact .inr g
  .rw[h1]at hu;cases j with
   |zero=>
    simp at hj hu;subst hj hu;exact⟨⟨by omega,b,by rw[hν0];rfl,by rw[hν0];rfl⟩,rfl⟩
   |succ j=>exact e4 j x u (by simpa using hj) (by simpa using hu)
 | .vj _::_,_,_,_,_,_,_,_,_,h,_,_=>h.elim
 | .boxal t lf::ps,d,vs,ns,ks,objs,nx,ak,eD,⟨b,o,b',pc,vs',n1,n2,ks',h1,h2,h3,⟨us,hrow,hmem,gk⟩,h4,h5,h7,h6⟩,hν,hx=>by
  subst h2;have bq:=W5 _ _ _ _ gk;have hlen:((⟨WbX b o,rng b o t.size⟩:Pc)::(n1++n2)).length=1+t.owns+n2.length:=by rw[Xx,Xac,bq];omega
  obtain⟨hν0,hφ0⟩:ν nx=WbX b o/\φ nx=rng b o t.size:=by have:=hν 0 _ rfl;simpa using this
  have hν1:At ν φ (nx+1) (n1++n2):=hν.right (n1:=[⟨WbX b o,rng b o t.size⟩]) rfl;obtain⟨c1,o1⟩:=Was t d.1 (nx+1) us n1 gk hν1.left;have cV:=Wb3 t d.1 (nx+1);have pJ:lf<n1.length:=(Xad.1 h4).1;have hνl:ν (nx+1+lf)=pc.nu:=(hν1.left lf pc h4).1;obtain⟨e1,e2,e3,e4⟩:=Wce ps d.2.2 vs' n2 ks' ((nx,.box (unfold t d.1 (nx+1)).1)::((unfold t d.1 (nx+1)).2.1++objs)) (nx+1+t.owns) ak eD h6 (hν1.right bq) (by omega);simp only[WQ,WaL];refine⟨by rw[e1,hlen];omega,λid ob hl=>?_,by rw[h1];simp[e3],λj x u hj hu=>?_⟩
  .rcases e2 id ob hl with⟨g1,g2,g3⟩|g
   .exact .inl ⟨by omega,by omega,g3⟩
   .rw[WF]at g;split at g
    .rename_i e;subst e;injection g with g;subst g;exact .inl ⟨Xn _,by omega,b,us,by rw[hν0];rfl,by rw[hν0,cV];exact hrow,by rw[hν0];exact hmem,c1 ak (by omega),by rw[hν0,cV,hφ0];exactλ_ _ hh=>hh⟩
    .rcases WK g with g|g
     .obtain⟨g1,g2,e,xs,rfl,g3⟩:=o1 id ob g;exact .inl ⟨by omega,by omega,g3⟩
     .exact .inr g
  .rw[h1]at hu
   match j with
   |0=>
    simp at hj hu;subst hj hu;exact⟨⟨by omega,b,by rw[hν0];rfl,by rw[hν0];rfl⟩,rfl⟩
   |1=>
    simp at hj hu;subst hj hu;exact⟨⟨by omega,by rw[hνl];exact h7,b',by rw[hνl];exact h5,by rw[hνl];rfl⟩,rfl⟩
   |j+2=>exact e4 j x u (by simpa using hj) (by simpa using hu)
 | .rp t::ps,d,vs,ns,ks,objs,nx,ak,eD,⟨b,o,us,vs',h1,h2,h3,h4⟩,hν,hx=>by
  obtain⟨e1,e2,e3,e4⟩:=Wce ps d.2 vs' ns ks objs nx ak eD h4 hν hx;simp only[WQ];refine⟨e1,e2,by rw[h1];simp[e3],λj x u hj hu=>?_⟩;rw[h1]at hu;cases j with
  |zero=>
   simp at hj hu;subst hj hu;exact⟨⟨b,o,us,by rw[Xbb],h2,h3⟩,rfl⟩
  |succ j=>exact e4 j x u (by simpa using hj) (by simpa using hu)
 | .mut e::ps,d,vs,ns,ks,objs,nx,ak,eD,⟨pc,vs',n2,ks',h1,h2,h3,h4,h5⟩,hν,hx=>by
  subst h2;have hlen:(pc::n2).length=1+n2.length:=by rw[Xx];omega
  obtain⟨hν0,hφ0⟩:ν nx=pc.nu/\φ nx=pc.fp:=by have:=hν 0 _ rfl;simpa using this
  obtain⟨e1,e2,e3,e4⟩:=Wce ps d.2 vs' n2 ks' ((nx,.arr e d.1)::objs) (nx+1) ak eD h5 (hν.right (n1:=[pc]) rfl) (by omega);simp only[WQ];refine⟨by rw[e1,hlen];omega,λid ob hl=>?_,by rw[h1];simp[e3],λj x u hj hu=>?_⟩
  .rcases e2 id ob hl with⟨g1,g2,g3⟩|g
   .exact .inl ⟨by omega,by omega,g3⟩
   .rw[WF]at g;split at g
    .rename_i e;subst e;injection g with g;subst g;refine .inl ⟨Xn _,by omega,?_⟩;show OwnL w (TyRel G w _) _ (ν nx) d.1 (φ nx);rw[hν0,hφ0];exact h4
    .exact .inr g
  .rw[h1]at hu;cases j with
   |zero=>
    simp at hj hu;subst hj hu;exact⟨⟨by omega,by rw[hν0]⟩,WhV _⟩
   |succ j=>exact e4 j x u (by simpa using hj) (by simpa using hu)
 | .clos g n::ps,d,vs,ns,ks,objs,nx,ak,eD,⟨cvs,vs',h1,h2,h3,h4⟩,hν,hx=>by
  simp only[Wci,Xi]at eD;obtain⟨e1,e2,e3,e4⟩:=Wce ps d (cvs++vs') ns ks objs nx ak eD.2 h4 hν hx;obtain⟨ids,g1,g2⟩:=WjG ps d objs nx n eD.1;simp only[WQ];rw[g2,Wjm];have hlen:(WQ ps d objs nx).1.length=n+vs'.length:=by rw[e3,Xac,h2]
  have s7:∀(j id:Nat),ids[j]?=some id->(WQ ps d objs nx).1[j]?=some (AVal.s (.one (.ptr id 0))):=λj id hj=>by
   have hlt:j<n:=by rw[←g1];exact(Xad.1 hj).1
   have:((WQ ps d objs nx).1.take n)[j]?=some (.s (.one (.ptr id 0))):=by rw[g2];simp[Wjh,hj]
   rw[List.getElem?_take,Wb hlt]at this;exact this
  refine⟨e1,e2,by rw[h1];simp[hlen],λj x u hj hu=>?_⟩;rw[h1]at hu;cases j with
  |zero=>
   simp at hj hu;subst hj hu;refine⟨⟨cvs,rfl,by rw[h2,g1],λj id u hj hu=>?_⟩,rfl⟩;have hlt:j<cvs.length:=(Xad.1 hu).1;obtain⟨⟨q1,q2⟩,q3⟩:=e4 j _ u (s7 j id hj) (by rw[List.getElem?_append_left hlt];exact hu);exact⟨q1,q3,q2⟩
  |succ j=>
   have hj':(WQ ps d objs nx).1[n+j]?=some x:=by
    rw[←List.getElem?_drop];simpa using hj
   exact e4 (n+j) x u hj' (by rw[Xce (by omega),h2,Xcc];simpa using hu)
theorem Wc4:∀(ps:List PTy) (d:We2 ps) (vs:List Value) (ns:List Pc) (ks:List Nu),Wbj G w ps d vs ns ks->vs.length<=WbQ ps
 | [],d,vs,ns,ks,⟨h1,_,_⟩=>by rw[h1];exact Xn _
 | .v t agg::ps,d,vs,ns,ks,⟨v,vs',n1,n2,h1,h2,h3,h4⟩=>by rw[h1,Xx];have:=Wc4 ps _ _ _ _ h4;simp only[WbQ];omega
 | .box t::ps,d,vs,ns,ks,⟨b,o,vs',n1,n2,ks',h1,h2,h3,h4,h6⟩=>by rw[h1,Xx];have:=Wc4 ps _ _ _ _ h6;simp only[WbQ];omega
 | .mut e::ps,d,vs,ns,ks,⟨pc,vs',n2,ks',h1,h2,h3,h4,h5⟩=>by rw[h1,Xx];have:=Wc4 ps _ _ _ _ h5;simp only[WbQ];omega
 | .clos g n::ps,d,vs,ns,ks,⟨cvs,vs',h1,h2,h3,h4⟩=>by rw[h1,Xx];have:=Wc4 ps _ _ _ _ h4;simp at this;simp only[WbQ];omega
 | .kv t agg::ps,d,vs,ns,ks,⟨v,vs',n1,n2,ks',h1,h2,iW,h3,h4⟩=>by rw[h1,Xx];have:=Wc4 ps _ _ _ _ h4;simp only[WbQ];omega
 | .rp t::ps,d,vs,ns,ks,⟨b,o,us,vs',h1,h2,h3,h4⟩=>by rw[h1,Xx];have:=Wc4 ps _ _ _ _ h4;simp only[WbQ];omega
 | .vj _::_,_,_,_,_,h=>h.elim
 | .boxal t lf::ps,d,vs,ns,ks,⟨b,o,b',pc,vs',n1,n2,ks',h1,h2,h3,h4,h5,h6,h7,h8⟩=>by rw[h1,Xx,Xx];have:=Wc4 ps _ _ _ _ h8;simp only[WbQ];omega
def Wnw(i:Nat)(vs:List Value):List (Nat×Value):=match vs with
 |v::_=>[(i,v)]
 | []=>[]
def WG:List PTy->Nat->Nat->List Value->List (Nat×Value)
 | [],_,_,_=>[]
 |_::ps,i,k+1,vs=>WG ps i k vs
 | .v _ _::ps,i,0,vs=>WG ps (i+1) 0 vs.tail
 | .box _::ps,i,0,vs=>Wnw i vs++WG ps (i+1) 0 vs.tail
 | .mut _::ps,i,0,vs=>Wnw i vs++WG ps (i+1) 0 vs.tail
 | .clos _ n::ps,i,0,vs=>Wnw i vs++WG ps (i+1) n vs.tail
 | .kv _ _::ps,i,0,vs=>Wnw i vs++WG ps (i+1) 0 vs.tail
 | .rp _::ps,i,0,vs=>WG ps (i+1) 0 vs.tail
 | .vj _::ps,i,0,vs=>WG ps (i+1) 0 vs.tail
 | .boxal _ _::ps,i,0,vs=>Wnw i vs++WG ps (i+2) 0 vs.tail.tail
theorem Wbl{i:Nat}{vs:List Value}{p:Nat×Value}(h:p∈Wnw i vs):p.1=i/\vs[0]?=some p.2:=by
 unfold Wnw at h;split at h
 .simp at h;subst h;exact⟨rfl,rfl⟩
 .cases h
theorem WR:∀(ps:List PTy) (i k:Nat) (vs:List Value),∀p∈WG ps i k vs,p.1∈WdU ps i k
 | [],_,_,_,p,h=>by simp[WG]at h
 | .v _ _::ps,i,k+1,vs,p,h=>WR ps i k vs p h
 | .box _::ps,i,k+1,vs,p,h=>WR ps i k vs p h
 | .mut _::ps,i,k+1,vs,p,h=>WR ps i k vs p h
 | .clos _ _::ps,i,k+1,vs,p,h=>WR ps i k vs p h
 | .v _ _::ps,i,0,vs,p,h=>WR ps (i+1) 0 vs.tail p h
 | .box _::ps,i,0,vs,p,h=>by
  simp only[WG]at h;rcases Xm.1 h with h|h
  .rw[(Wbl h).1];exact Xh ..
  .exact Xe _ (WR ps (i+1) 0 vs.tail p h)
 | .mut _::ps,i,0,vs,p,h=>by
  simp only[WG]at h;rcases Xm.1 h with h|h
  .rw[(Wbl h).1];exact Xh ..
  .exact Xe _ (WR ps (i+1) 0 vs.tail p h)
 | .clos _ n::ps,i,0,vs,p,h=>by
  simp only[WG]at h;rcases Xm.1 h with h|h
  .rw[(Wbl h).1];exact Xh ..
  .exact Xe _ (WR ps (i+1) n vs.tail p h)
 | .kv _ _::ps,i,k+1,vs,p,h=>WR ps i k vs p h
 | .kv _ _::ps,i,0,vs,p,h=>by
  simp only[WG]at h;rcases Xm.1 h with h|h
  .rw[(Wbl h).1];exact Xh ..
  .exact Xe _ (WR ps (i+1) 0 vs.tail p h)
 | .rp _::ps,i,k+1,vs,p,h=>WR ps i k vs p h
 | .rp _::ps,i,0,vs,p,h=>WR ps (i+1) 0 vs.tail p h
 | .vj _::ps,i,k+1,vs,p,h=>WR ps i k vs p h
 | .vj _::ps,i,0,vs,p,h=>WR ps (i+1) 0 vs.tail p h
 | .boxal _ _::ps,i,k+1,vs,p,h=>WR ps i k vs p h
 | .boxal _ _::ps,i,0,vs,p,h=>by
  simp only[WG]at h;rcases Xm.1 h with h|h
  .rw[(Wbl h).1];exact Xh ..
  .exact Xe _ (WR ps (i+2) 0 vs.tail.tail p h)
theorem WN:∀(ps:List PTy) (i k:Nat) (vs:List Value),∀p∈WG ps i k vs,i<=p.1/\vs[p.1-i]?=some p.2
 | [],_,_,_,p,h=>by simp[WG]at h
 | .v _ _::ps,i,k+1,vs,p,h=>WN ps i k vs p h
 | .box _::ps,i,k+1,vs,p,h=>WN ps i k vs p h
 | .mut _::ps,i,k+1,vs,p,h=>WN ps i k vs p h
 | .clos _ _::ps,i,k+1,vs,p,h=>WN ps i k vs p h
 | .v _ _::ps,i,0,vs,p,h=>by
  obtain⟨h1,h2⟩:=WN ps (i+1) 0 vs.tail p h;refine⟨by omega,?_⟩;rw[show p.1-i=(p.1-(i+1))+1 by omega,←Xcb];exact h2
 | .box _::ps,i,0,vs,p,h=>by
  simp only[WG]at h;rcases Xm.1 h with h|h
  .obtain⟨h1,h2⟩:=Wbl h;rw[h1];exact⟨Xn _,by rw[Xcv];exact h2⟩
  .obtain⟨h1,h2⟩:=WN ps (i+1) 0 vs.tail p h;refine⟨by omega,?_⟩;rw[show p.1-i=(p.1-(i+1))+1 by omega,←Xcb];exact h2
 | .mut _::ps,i,0,vs,p,h=>by
  simp only[WG]at h;rcases Xm.1 h with h|h
  .obtain⟨h1,h2⟩:=Wbl h;rw[h1];exact⟨Xn _,by rw[Xcv];exact h2⟩
  .obtain⟨h1,h2⟩:=WN ps (i+1) 0 vs.tail p h;refine⟨by omega,?_⟩;rw[show p.1-i=(p.1-(i+1))+1 by omega,←Xcb];exact h2
 | .clos _ n::ps,i,0,vs,p,h=>by
  simp only[WG]at h;rcases Xm.1 h with h|h
  .obtain⟨h1,h2⟩:=Wbl h;rw[h1];exact⟨Xn _,by rw[Xcv];exact h2⟩
  .obtain⟨h1,h2⟩:=WN ps (i+1) n vs.tail p h;refine⟨by omega,?_⟩;rw[show p.1-i=(p.1-(i+1))+1 by omega,←Xcb];exact h2
 | .kv _ _::ps,i,k+1,vs,p,h=>WN ps i k vs p h
 | .kv _ _::ps,i,0,vs,p,h=>by
  simp only[WG]at h;rcases Xm.1 h with h|h
  .obtain⟨h1,h2⟩:=Wbl h;rw[h1];exact⟨Xn _,by rw[Xcv];exact h2⟩
  .obtain⟨h1,h2⟩:=WN ps (i+1) 0 vs.tail p h;refine⟨by omega,?_⟩;rw[show p.1-i=(p.1-(i+1))+1 by omega,←Xcb];exact h2
 | .rp _::ps,i,k+1,vs,p,h=>WN ps i k vs p h
 | .rp _::ps,i,0,vs,p,h=>by
  obtain⟨h1,h2⟩:=WN ps (i+1) 0 vs.tail p h;refine⟨by omega,?_⟩;rw[show p.1-i=(p.1-(i+1))+1 by omega,←Xcb];exact h2
 | .vj _::ps,i,k+1,vs,p,h=>WN ps i k vs p h
 | .vj _::ps,i,0,vs,p,h=>by
  obtain⟨h1,h2⟩:=WN ps (i+1) 0 vs.tail p h;refine⟨by omega,?_⟩;rw[show p.1-i=(p.1-(i+1))+1 by omega,←Xcb];exact h2
 | .boxal _ _::ps,i,k+1,vs,p,h=>WN ps i k vs p h
 | .boxal _ _::ps,i,0,vs,p,h=>by
  simp only[WG]at h;rcases Xm.1 h with h|h
  .obtain⟨h1,h2⟩:=Wbl h;rw[h1];exact⟨Xn _,by rw[Xcv];exact h2⟩
  .obtain⟨h1,h2⟩:=WN ps (i+2) 0 vs.tail.tail p h;refine⟨by omega,?_⟩;rw[show p.1-i=(p.1-(i+2))+1+1 by omega,←Xcb,←Xcb];exact h2
def WlX(tmps:Array Value):ResultVar->Sem Value
 | .tmp t=>pure (tmps.getD t undef)
 | .cell b t=>do loadVar t (←asAddr (tmps.getD b undef))
theorem Wj3(hT:Wag P T)(hr:Rel w0 F nt G0 G ν st a w):∀(l:List ResultVar) (xs:List AVal),Wd4 T st l=some xs->
  ∃vs:List Value,(l.mapM (WlX a.tmps)).run P w= .ok vs w/\vs.length=xs.length/\
   ∀(j:Nat) (x:AVal) (v:Value),xs[j]?=some x->vs[j]?=some v->AValRel G ν st.nx x v
 | [],xs,h=>by
  simp only[Wd4]at h;injection h with h;subst h;exact⟨[],by simp,rfl,λj x v hj=>by simp at hj⟩
 | .tmp t::l,xs,h=>by
  simp only[Wd4]at h;split at h
  .rename_i x ru h1 h2;injection h with h;subst h;obtain⟨vs,h3,h4,h5⟩:=Wj3 hT hr l ru h2;obtain⟨v,hv,hx⟩:=hr.env t x h1;refine⟨v::vs,?_,by simp[h4],λj y u hj hu=>?_⟩
   .have cG:a.tmps.getD t undef=v:=by simp[Xcl,hv]
    simp only[Xex,Sem.run_bind,WlX,Sem.run_pure,Result.andThen_ok,h3,cG]
   .cases j with
    |zero=>simp at hj hu;subst hj hu;exact hx
    |succ j=>exact h5 j y u (by simpa using hj) (by simpa using hu)
  .cases h
 | .cell b t::l,xs,h=>by
  simp only[Wd4]at h;split at h
  .rename_i x ru h1 h2;injection h with h;subst h;obtain⟨vs,h3,h4,h5⟩:=Wj3 hT hr l ru h2;cases hb:look st.env b with
   |none=>simp[hb]at h1
   |some y=>
    simp only[hb,Xd]at h1;obtain⟨v,hv,hx⟩:=hr.env b y hb;obtain⟨u,hu,s8⟩:=Wg7 hT hr.h hx h1;refine⟨u::vs,?_,by simp[h4],λj z q hj hq=>?_⟩
    .have cG:a.tmps.getD b undef=v:=by simp[Xcl,hv]
     unfold Instr.loadAt at hu;rw[Sem.run_bind]at hu;obtain⟨p,rfl⟩:∃p,v= .pointer (some p):=by
      unfold Instr.sureAddr at hu;split at hu
      .exact⟨_,rfl⟩
      .simp[stuck]at hu
     simp only[Instr.sureAddr,Sem.run_pure,Result.andThen_ok]at hu;have ha:(asAddr (.pointer (some p))).run P w= .ok p w:=rfl;simp only[Xex,Sem.run_bind,WlX,Sem.run_pure,Result.andThen_ok,cG,ha,hu,h3]
    .cases j with
     |zero=>simp at hj hq;subst hj hq;exact s8
     |succ j=>exact h5 j z q (by simpa using hj) (by simpa using hq)
  .cases h
theorem WdA(h:HR w0 F G ν φ objs nx w)(hg:GLe G G'):∀(rs:List PTy) (xs:List AVal) (vs:List Value) (A:Outs (WgG rs)),vs.length=xs.length->
  (∀(j:Nat) (x:AVal) (v:Value),xs[j]?=some x->vs[j]?=some v->AValRel G ν nx x v)->Lent G' w φ objs A.lent->A.moved.Nodup->Wa4 rs xs objs=some A->
  ∃ns,WfO G' w rs A.d vs ns/\Sep (fps ns)/\(∀q∈ns,CS.le q.fp (FromL φ objs A.moved))/\(∀i∈A.moved,Live objs i)
 | [],xs,vs,A,hlen,hx,hl,aV,hf=>by
  simp only[Wa4]at hf;split at hf
  .injection hf with hf;subst hf;have eO:vs= []:=Xab (by simpa using hlen);exact⟨[],⟨eO,rfl⟩,List.Pairwise.nil,by simp,by simp⟩
  .cases hf
 | .v t agg::rs,xs,vs,A,hlen,hx,hl,aV,hf=>by
  simp only[Wa4]at hf;split at hf
  .rename_i x xs;split at hf
   .rename_i d m l A' h1 h2;injection hf with hf;subst hf
    match vs,hlen with
    |v::vs,hlen=>
     cases hc:cellsOf agg x with
     |none=>simp[hc]at h1
     |some cs=>
      simp[hc]at h1;obtain⟨k1,k2,k3⟩:=Xag.1 aV;obtain⟨n1,g1,g2,g3,g4,_⟩:=WkU h hg (hx 0 x v rfl rfl) (hl.mono (λi hi=>Xl _ hi)) k1 hc h1;obtain⟨n2,g5,g6,g7,g8⟩:=WdA h hg rs xs vs A' (by simpa using hlen) (λj y u hj hu=>hx (j+1) y u (by simpa using hj) (by simpa using hu)) (hl.mono (λi hi=>Xg _ hi)) k2 h2;refine⟨n1++n2,⟨v,vs,n1,n2,rfl,rfl,g1,g5⟩,Wcc h g2 g6 g3 g7 (λi hi hj=>k3 i hi i hj rfl),λq hq=>?_,λi hi=>?_⟩
      .rcases Xm.1 hq with hq|hq
       .exactλb o hh=>FromL.mono (λi hi=>Xl _ hi) b o (g3 q hq b o hh)
       .exactλb o hh=>FromL.mono (λi hi=>Xg _ hi) b o (g7 q hq b o hh)
      .rcases Xm.1 hi with hi|hi
       .exact g4 i hi
       .exact g8 i hi
   .cases hf
  .cases hf
 | .box t::rs,xs,vs,A,hlen,hx,hl,aV,hf=>by
  simp only[Wa4]at hf;split at hf
  .rename_i id xs;split at hf
   .rename_i cs bb;split at hf
    .rename_i d m l A' h1 h2;injection hf with hf;subst hf
     match vs,hlen with
     |v::vs,hlen=>
      obtain⟨k0,k1⟩:=Xah.1 aV;obtain⟨k2,k3,k4⟩:=Xag.1 k1;obtain⟨⟨_,b,hνb,rfl⟩,_⟩:=hx 0 _ v rfl rfl;have aI:Live objs id:=⟨_,bb,by simp⟩;obtain⟨b'',us,kY,hrow,hmem,bC,eC⟩:Wcs G ν nx w id (φ id) (.box cs):=h.ob _ _ bb;rw[hνb]at kY;injection kY with kY;subst kY;obtain⟨n1,g1,g2,g3,g4,_⟩:=Wae h hg t cs us d m l bC (hl.mono (λi hi=>Xl _ hi)) k2 h1;have cV:cs.length=t.size:=by rw[←bC.1];exact WD _ _ _ _ g1
      obtain⟨n2,g5,g6,g7,g8⟩:=WdA h hg rs xs vs A' (by simpa using hlen) (λj y u hj hu=>hx (j+1) y u (by simpa using hj) (by simpa using hu)) (hl.mono (λi hi=>Xg _ hi)) k3 h2;rw[cV]at hrow eC;refine⟨⟨WbX b ((ν id).off+0),rng b ((ν id).off+0) t.size⟩::(n1++n2),⟨b,(ν id).off+0,vs,n1,n2,rfl,rfl,⟨us,hrow,hmem,g1⟩,g5⟩,?_,λq hq=>?_,λi hi=>?_⟩
      .refine Wcc h (n1:=[⟨WbX b ((ν id).off+0),rng b ((ν id).off+0) t.size⟩]) (m:=[id]) (l:=m++A'.moved) (Xbf _ _) (Wcc h g2 g6 g3 g7 (λi hi hj=>k4 i hi i hj rfl)) (λq hq=>?_) (λq hq=>?_) (λi hi hj=>k0 (by rw[←Xaa.1 hi];exact hj))
       .rw[Xaa.1 hq];exactλb o hh=>⟨id,by simp,aI,eC b o hh⟩
       .rcases Xm.1 hq with hq|hq
        .exactλb o hh=>FromL.mono (λi hi=>Xl _ hi) b o (g3 q hq b o hh)
        .exactλb o hh=>FromL.mono (λi hi=>Xg _ hi) b o (g7 q hq b o hh)
      .rcases Xq.1 hq with rfl|hq
       .exactλb o hh=>⟨id,by simp,aI,eC b o hh⟩
       .rcases Xm.1 hq with hq|hq
        .exactλb o hh=>FromL.mono (λi hi=>Xe _ (Xl _ hi)) b o (g3 q hq b o hh)
        .exactλb o hh=>FromL.mono (λi hi=>Xe _ (Xg _ hi)) b o (g7 q hq b o hh)
      .rcases Xq.1 hi with rfl|hi
       .exact aI
       .rcases Xm.1 hi with hi|hi
        .exact g4 i hi
        .exact g8 i hi
    .cases hf
   .cases hf
  .cases hf
 | .mut _::_,_,_,_,_,_,_,_,h=>by simp only[Wa4]at h;cases h
 | .clos _ _::_,_,_,_,_,_,_,_,h=>by simp only[Wa4]at h;cases h
 | .kv _ _::_,_,_,_,_,_,_,_,h=>by simp only[Wa4]at h;cases h
 | .rp _::_,_,_,_,_,_,_,_,h=>by simp only[Wa4]at h;cases h
 | .vj t::rs,xs,vs,A,hlen,hx,hl,aV,hf=>by
  simp only[Wa4]at hf;split at hf
  .rename_i cs xs;split at hf
   .rename_i hcl;split at hf
    .rename_i d m l A' h1 h2;injection hf with hf;subst hf
     match vs,hlen with
     |v::vs,hlen=>
      obtain⟨k1,k2,k3⟩:=Xag.1 aV;obtain⟨us,rfl,bC⟩:=hx 0 _ v rfl rfl;obtain⟨n1,g1,g2,g3,g4,_⟩:=Wae h hg t (cs.take t.size) (us.take t.size) d m l (bC.take t.size) (hl.mono (λi hi=>Xl _ hi)) k1 h1;obtain⟨n2,g5,g6,g7,g8⟩:=WdA h hg rs xs vs A' (by simpa using hlen) (λj y u hj hu=>hx (j+1) y u (by simpa using hj) (by simpa using hu)) (hl.mono (λi hi=>Xg _ hi)) k2 h2;have cV:us.length=t.size+1:=by rw[bC.1,hcl]
      have hlt:t.size<us.length:=by omega
      have e0:us=us.take t.size++ [us[t.size]]:=by
       rw[←List.take_succ_eq_append_getElem hlt,Xbv (by omega)]
      have ho:=(bC.2 t.size (cs[t.size]'(by omega)) us[t.size] (Xp (by omega)) (Xp hlt)).2;refine⟨n1++n2,⟨us.take t.size,us[t.size],vs,n1,n2,by rw[←e0],ho,rfl,g1,g5⟩,Wcc h g2 g6 g3 g7 (λi hi hj=>k3 i hi i hj rfl),λq hq=>?_,λi hi=>?_⟩
      .rcases Xm.1 hq with hq|hq
       .exactλb o hh=>FromL.mono (λi hi=>Xl _ hi) b o (g3 q hq b o hh)
       .exactλb o hh=>FromL.mono (λi hi=>Xg _ hi) b o (g7 q hq b o hh)
      .rcases Xm.1 hi with hi|hi
       .exact g4 i hi
       .exact g8 i hi
    .cases hf
   .cases hf
  .cases hf
 | .boxal _ _::_,_,_,_,_,_,_,_,h=>by simp only[Wa4]at h;cases h
theorem Wnx{p:PTy}{ps:List PTy}{k:Nat}(h:Wjd (p::ps) (k+1)=true):(∃t,p= .box t)/\Wjd ps k=true:=by
 cases p with
 |box t=>exact⟨⟨t,rfl⟩,h⟩
 |_=>cases h
theorem Wgi(hr:Rel w0 F nt G0 G ν st a w){i:Nat}{u:Value}(hp:a.tmps[i]?=some u):(look st.env i).getD (.tup [])= .tup []\/AValRel G ν st.nx ((look st.env i).getD (.tup [])) u:=by
 cases he:look st.env i with
 |none=>exact .inl rfl
 |some y=>
  obtain⟨v,hv,hx⟩:=hr.env i y he;rw[hp]at hv;injection hv with hv;subst hv;exact .inr hx
theorem WaC{wb:World}{Gb:GH}(hr:Rel w0 F nt G0 G ν st a w):∀(ps:List PTy) (d:We2 ps) (vs:List Value) (ns:List Pc) (ks:List Nu) (i k:Nat),Wbj Gb wb ps d vs ns ks->Wci ps=true->Wjd ps k=true->k<=vs.length->
  (∀p∈WG ps i k (vs.drop k),a.tmps[p.1]?=some p.2)->(WA ps i k st).length+k=vs.length/\
  ∀(j:Nat) (x:AVal) (v:Value),(WA ps i k st)[j]?=some x->vs[k+j]?=some v->x= .tup []\/AValRel G ν st.nx x v
 | [],d,vs,ns,ks,i,k,⟨h1,_,_⟩,_,_,hk,_=>by
  subst h1;have:k=0:=by simpa using hk
  subst this;exact⟨rfl,λj x v hj=>by simp[WA]at hj⟩
 |p::ps,d,vs,ns,ks,i,k+1,h,hc,hb,hk,hp=>by
  obtain⟨⟨t,rfl⟩,hb'⟩:=Wnx hb;obtain⟨b,o,vs',n1,n2,ks',h1,h2,h3,h4,h6⟩:=h;subst h1;have fy:Wci ps=true:=hc;obtain⟨e1,e2⟩:=WaC hr ps d.2 vs' n2 ks' i k h6 fy hb' (by simpa using hk) (by simpa [WG]using hp);refine⟨by simp only[WA,Xx];omega,λj x v hj hv=>e2 j x v (by simpa [WA]using hj) ?_⟩;rw[show k+1+j=(k+j)+1 by omega]at hv;simpa using hv
 | .v t agg::ps,d,vs,ns,ks,i,0,⟨v,vs',n1,n2,h1,h2,h3,h4⟩,hc,_,_,hp=>by
  subst h1;obtain⟨e1,e2⟩:=WaC hr ps d.2 vs' n2 ks (i+1) 0 h4 hc (by cases ps<;>rfl) (Xbr _) (by simpa [WG]using hp);refine⟨by simp only[WA,Xx];omega,λj x u hj hu=>?_⟩;cases j with
  |zero=>simp[WA]at hj;exact .inl hj.symm
  |succ j=>exact e2 j x u (by simpa [WA]using hj) (by simpa using hu)
 | .rp t::ps,d,vs,ns,ks,i,0,⟨b,o,us,vs',h1,h2,h3,h4⟩,hc,_,_,hp=>by
  subst h1;obtain⟨e1,e2⟩:=WaC hr ps d.2 vs' ns ks (i+1) 0 h4 hc (by cases ps<;>rfl) (Xbr _) (by simpa [WG]using hp);refine⟨by simp only[WA,Xx];omega,λj x u hj hu=>?_⟩;cases j with
  |zero=>simp[WA]at hj;exact .inl hj.symm
  |succ j=>exact e2 j x u (by simpa [WA]using hj) (by simpa using hu)
 | .box t::ps,d,vs,ns,ks,i,0,⟨b,o,vs',n1,n2,ks',h1,h2,h3,h4,h6⟩,hc,_,_,hp=>by
  subst h1;simp only[WG,Xcg,Xeb]at hp;obtain⟨e1,e2⟩:=WaC hr ps d.2 vs' n2 ks' (i+1) 0 h6 hc (by cases ps<;>rfl) (Xbr _) (λp gw=>hp p (Xg _ (by simpa using gw)));refine⟨by simp only[WA,Xx];omega,λj x u hj hu=>?_⟩;cases j with
  |zero=>
   simp[WA]at hj hu;subst hj hu;exact Wgi hr (hp (i,_) (Xl _ (Xh ..)))
  |succ j=>exact e2 j x u (by simpa [WA]using hj) (by simpa using hu)
 | .vj _::_,_,_,_,_,_,_,h,_,_,_,_=>h.elim
 | .boxal t lf::ps,d,vs,ns,ks,i,0,⟨b,o,b',pc,vs',n1,n2,ks',h1,h2,h3,h4,h5,h6,h7,h8⟩,hc,_,_,hp=>by
  subst h1;simp only[WG,Xcg,Xeb]at hp;obtain⟨e1,e2⟩:=WaC hr ps d.2.2 vs' n2 ks' (i+2) 0 h8 hc (by cases ps<;>rfl) (Xbr _) (λp gw=>hp p (Xg _ (by simpa using gw)));refine⟨by simp only[WA,Xx];omega,λj x u hj hu=>?_⟩
  match j with
  |0=>
   simp[WA]at hj hu;subst hj hu;exact Wgi hr (hp (i,_) (Xl _ (Xh ..)))
  |1=>simp[WA]at hj;exact .inl hj.symm
  |j+2=>exact e2 j x u (by simpa [WA]using hj) (by simpa using hu)
 | .mut e::ps,d,vs,ns,ks,i,0,⟨pc,vs',n2,ks',h1,h2,h3,h4,h5⟩,hc,_,_,hp=>by
  subst h1;simp only[WG,Xcg,Xeb]at hp;obtain⟨e1,e2⟩:=WaC hr ps d.2 vs' n2 ks' (i+1) 0 h5 hc (by cases ps<;>rfl) (Xbr _) (λp gw=>hp p (Xg _ (by simpa using gw)));refine⟨by simp only[WA,Xx];omega,λj x u hj hu=>?_⟩;cases j with
  |zero=>
   simp[WA]at hj hu;subst hj hu;exact Wgi hr (hp (i,_) (Xl _ (Xh ..)))
  |succ j=>exact e2 j x u (by simpa [WA]using hj) (by simpa using hu)
 | .clos g n::ps,d,vs,ns,ks,i,0,⟨cvs,vs',h1,h2,h3,h4⟩,hc,_,_,hp=>by
  subst h1;simp only[Wci,Xi]at hc;simp only[WG,Xcg,Xeb]at hp;obtain⟨e1,e2⟩:=WaC hr ps d (cvs++vs') ns ks (i+1) n h4 hc.2 hc.1 (by simp[h2]) (λp gw=>hp p (Xg _ (by rw[List.drop_left' h2]at gw;exact gw)));refine⟨by simp only[WA,Xx];simp at e1;omega,λj x u hj hu=>?_⟩;cases j with
  |zero=>
   simp[WA]at hj hu;subst hj hu;exact Wgi hr (hp (i,_) (Xl _ (Xh ..)))
  |succ j=>exact e2 j x u (by simpa [WA]using hj) (by rw[Xce (by omega),h2,Xcc];simpa using hu)
 | .kv t agg::ps,d,vs,ns,ks,i,0,⟨v,vs',n1,n2,ks',h1,h2,iW,h3,h4⟩,hc,_,_,hp=>by
  subst h1;simp only[WG,Xcg,Xeb]at hp;obtain⟨e1,e2⟩:=WaC hr ps d.2 vs' n2 ks' (i+1) 0 h4 hc (by cases ps<;>rfl) (Xbr _) (λp gw=>hp p (Xg _ (by simpa using gw)));refine⟨by simp only[WA,Xx];omega,λj x u hj hu=>?_⟩;cases j with
  |zero=>
   simp[WA]at hj hu;subst hj hu;exact Wgi hr (hp (i,_) (Xl _ (Xh ..)))
  |succ j=>exact e2 j x u (by simpa [WA]using hj) (by simpa using hu)
theorem Woz{G G':GH}{wb w:World}{nu pK:Nu}{e:Ty}{xs ys:List e.den}{S S':CS}(h4:OwnL wb (TyRel G wb e) e.size nu xs S)(hown:OwnL w (TyRel G' w e) e.size pK ys S')(hx:nu.hdr=pK.hdr):OwnL w (TyRel G' w e) e.size nu ys S':=by
 unfold Nu.hdr at hx;cases hb:pK.blk with
 |none=>
  cases hb':nu.blk with
  |some b=>simp[hb,hb']at hx
  |none=>
   have k1:=Wcm h4 hb';have k2:=Wcm hown hb;refine⟨by rw[k2,←h4.1,k1],h4.2.1,?_⟩;simp only[hb'];exact k2
 |some b=>
  cases hb':nu.blk with
  |none=>simp[hb,hb']at hx
  |some b'=>
   simp only[hb,hb']at hx;injection hx with x1 x2 x3;injection x1 with x1;injection x1 with x1 x4 _;have e1:=h4.2.1;have e2:=hown.2.1;have:nu=pK:=by
    obtain⟨a1,a2,a3,a4,a5⟩:=nu;obtain⟨b1,b2,b3,b4,b5⟩:=pK;simp only at hb hb' x1 x2 x3 x4 e1 e2;subst hb hb' x1 x2 x3 x4;rw[e1,e2]
   rw[this];exact hown
theorem WeV{G G':GH}{wb w:World}:∀(t:Ty) (d0 d:t.den) (us:List Value) (n1 n2:List Pc),TyRel G wb t d0 us n1->TyRel G' w t d us n2->∃n3,TyRel G' w t d us n3/\nus n3=nus n1/\fps n3=fps n2
 | .own e,d0,d,us,n1,n2,⟨pc,h1,h2,h3⟩,⟨dS,g1,g2,g3⟩=>by
  subst h1 g1;have hx:pc.nu.hdr=dS.nu.hdr:=by rw[h2]at g2;simpa using g2
  exact⟨[⟨pc.nu,dS.fp⟩],⟨_,rfl,h2,Woz h3 g3 hx⟩,rfl,rfl⟩
 | .prod a b,d0,d,us,n1,n2,⟨v1,v2,m1,m2,h1,h2,h3,h4⟩,⟨u1,u2,k1,k2,g1,g2,g3,g4⟩=>by
  have l1:=WD a _ _ _ h3;have l2:=WD a _ _ _ g3;obtain⟨q1,q2⟩:=List.append_inj (h1.symm.trans g1) (by rw[l1,l2]);subst q1 q2 h2 g2;obtain⟨a1,a2,a3,a4⟩:=WeV a _ _ _ _ _ h3 g3;obtain⟨b1,b2,b3,b4⟩:=WeV b _ _ _ _ _ h4 g4;exact⟨a1++b1,⟨_,_,a1,b1,h1,rfl,a2,b2⟩,by unfold nus at a3 b3⊢;rw[Xz,Xz,a3,b3],by unfold fps at a4 b4⊢;rw[Xz,Xz,a4,b4]⟩
 | .int _,d0,d,us,n1,n2,h,g=>by obtain⟨h1,_⟩:=h;obtain⟨g1,g2⟩:=g;subst h1 g1;exact⟨[],⟨rfl,g2⟩,rfl,rfl⟩
 | .bool,d0,d,us,n1,n2,h,g=>by obtain⟨h1,_⟩:=h;obtain⟨g1,g2⟩:=g;subst h1 g1;exact⟨[],⟨rfl,g2⟩,rfl,rfl⟩
 | .str,d0,d,us,n1,n2,h,g=>by obtain⟨h1,_⟩:=h;obtain⟨g1,g2⟩:=g;subst h1 g1;exact⟨[],⟨rfl,g2⟩,rfl,rfl⟩
 | .slice _,d0,d,us,n1,n2,h,g=>by obtain⟨h1,_⟩:=h;obtain⟨g1,g2⟩:=g;subst h1 g1;exact⟨[],⟨rfl,g2⟩,rfl,rfl⟩
theorem WrJ{G G':GH}{wb w:World}{t:Ty}{agg:Bool}{d0 d:t.den}{v:Value}{n1 n2:List Pc}(h:WiE G wb t agg d0 v n1)(g:WiE G' w t agg d v n2):∃us n3,TyRel G' w t d us n3/\nus n3=nus n1/\fps n3=fps n2:=by
 unfold WiE at h g;split at h
 .rename_i ha;rw[Wb ha]at g;obtain⟨us,h1,h2⟩:=h;obtain⟨xg,g1,g2⟩:=g;have:us=xg:=by
   rw[h1]at g1;injection g1 with g1;have:=Wj Array.toList g1;simpa using this
  subst this;exact⟨us,WeV _ _ _ _ _ _ h2 g2⟩
 .rename_i ha;rw[Wa ha]at g;exact⟨_,WeV _ _ _ _ _ _ h g⟩
structure OOk(G':GH)(φ:Nat->CS)(objs:Wac)(w:World)(ps:List PTy)(B:OutK (WfH ps))(ks:List Nu)(kf:List CS)(ms:List Pc):Prop where
 outs:Wbz G' w ps B.d ks kf ms
 sepk:Sep kf
 sepm:Sep (fps ms)
 kf:∀S∈kf,CS.le S (FromL φ objs B.kept)
 ms:∀q∈ms,CS.le q.fp (FromL φ objs B.moved)
theorem WvK(h:HR w0 F G ν φ objs nx w){k1 k2:List CS}{m l:List Nat}(h1:Sep k1)(h2:Sep k2)(g1:∀S∈k1,CS.le S (FromL φ objs m))(g2:∀S∈k2,CS.le S (FromL φ objs l))(hd:∀i∈m,i∉l):Sep (k1++k2):=
 Wnj h1 h2 (A:=FromL φ objs m) (B:=FromL φ objs l) g1 g2 (FromL.disj h hd)
theorem WgV{wb:World}{Gb:GH}(hg:GLe G G')(h:HR w0 F G ν φ objs nx w){t:Ty}{ps:List PTy}{id b o:Nat}{cs:List Cell}{dd:t.den}{m l:List Nat}{A:OutK (WfH ps)}{ks:List Nu}{kf:List CS}{ms:List Pc}
  (hx:CellRel G ν nx (.ptr id 0) (.pointer (some ⟨b,o,none⟩))) (ho:look objs id=some (.box cs)) (g1:Waq t cs objs=some (dd,m,l)) (hl:Lent G' w φ objs l) (hk:(id::A.kept).Nodup) (hm:(m++A.moved).Nodup) (hA:OOk G' φ objs w ps A ks kf ms):
  ∃nn,Wfa G' w t dd b o nn/\Sep (rng b o t.size::kf)/\Sep (fps (nn++ms))/\(∀S∈rng b o t.size::kf,CS.le S (FromL φ objs (id::A.kept)))/\(∀q∈nn++ms,CS.le q.fp (FromL φ objs (m++A.moved))):=by
 obtain⟨_,b',xh,jS⟩:=hx;injection jS with jS;injection jS with jS;injection jS with jS kN _;subst jS kN;have aI:Live objs id:=⟨_,ho,by simp⟩;obtain⟨b'',us,rF,hrow,hmem,bC,eC⟩:Wcs G ν nx w id (φ id) (.box cs):=h.ob _ _ ho;rw[xh]at rF;injection rF with rF;subst rF;obtain⟨k1,k2⟩:=Xah.1 hk;obtain⟨k3,k4,k5⟩:=Xag.1 hm;obtain⟨nn,e1,e2,e3,_⟩:=Wae h hg t cs us dd m l bC hl k3 g1;have cV:cs.length=t.size:=by rw[←bC.1];exact WD _ _ _ _ e1
 rw[cV]at hrow eC;have fR:CS.le (rng b ((ν id).off+0) t.size) (FromL φ objs [id]):=λb o hh=>⟨id,by simp,aI,eC b o hh⟩;refine⟨nn,⟨us,hrow,hmem,e1⟩,?_,Wcc h e2 hA.sepm e3 hA.ms (λi hi hj=>k5 i hi i hj rfl),λS hS=>?_,λq hq=>?_⟩
 .exact WvK h (k1:=[rng b ((ν id).off+0) t.size]) (m:=[id]) (Xbf _ _) hA.sepk (λS hS=>by rw[Xaa.1 hS];exact fR) hA.kf (λi hi hj=>k1 (by rw[←Xaa.1 hi];exact hj))
 .rcases Xq.1 hS with rfl|hS
  .exactλb o hh=>FromL.mono (λi hi=>by rw[Xaa.1 hi];exact Xh ..) b o (fR b o hh)
  .exactλb o hh=>FromL.mono (λi hi=>Xe _ hi) b o (hA.kf S hS b o hh)
 .rcases Xm.1 hq with hq|hq
  .exactλb o hh=>FromL.mono (λi hi=>Xl _ hi) b o (e3 q hq b o hh)
  .exactλb o hh=>FromL.mono (λi hi=>Xg _ hi) b o (hA.ms q hq b o hh)
theorem WaP{wb:World}{Gb:GH}(hg:GLe G G')(h:HR w0 F G ν φ objs nx w):∀(ps:List PTy) (d:We2 ps) (vs:List Value) (ns:List Pc) (ks:List Nu) (xs:List AVal) (B:OutK (WfH ps)),Wbj Gb wb ps d vs ns ks->xs.length=vs.length->
  (∀(j:Nat) (x:AVal) (v:Value),xs[j]?=some x->vs[j]?=some v->x= .tup []\/AValRel G ν nx x v)->Lent G' w φ objs B.lent->B.kept.Nodup->B.moved.Nodup->W0 ps xs objs=some B->
  ∃kf ms,OOk G' φ objs w ps B ks kf ms
 | [],d,vs,ns,ks,xs,B,⟨_,_,hk⟩,_,_,_,_,_,hf=>by
  simp only[W0]at hf;injection hf with hf;subst hf;exact⟨[],[],⟨hk,rfl,rfl⟩,List.Pairwise.nil,List.Pairwise.nil,by simp,by simp⟩
 | .v t agg::ps,d,vs,ns,ks,xs,B,⟨v,vs',n1,n2,h1,h2,h3,h4⟩,hlen,hp,hl,hk,hm,hf=>by
  subst h1;simp only[W0]at hf;cases hA:W0 ps xs.tail objs with
  |none=>simp[hA]at hf
  |some A=>
   simp[hA]at hf;subst hf
   match xs,hlen with
   |x::xs,hlen=>
    obtain⟨kf,ms,hO⟩:=WaP hg h ps d.2 vs' n2 ks xs A h4 (by simpa using hlen) (λj y u hj hu=>hp (j+1) y u (by simpa using hj) (by simpa using hu)) hl hk hm hA;exact⟨kf,ms,hO.outs,hO.sepk,hO.sepm,hO.kf,hO.ms⟩
 | .rp t::ps,d,vs,ns,ks,xs,B,⟨b,o,us,vs',h1,h2,h3,h4⟩,hlen,hp,hl,hk,hm,hf=>by
  subst h1;simp only[W0]at hf;cases hA:W0 ps xs.tail objs with
  |none=>simp[hA]at hf
  |some A=>
   simp[hA]at hf;subst hf
   match xs,hlen with
   |x::xs,hlen=>
    obtain⟨kf,ms,hO⟩:=WaP hg h ps d.2 vs' ns ks xs A h4 (by simpa using hlen) (λj y u hj hu=>hp (j+1) y u (by simpa using hj) (by simpa using hu)) hl hk hm hA;exact⟨kf,ms,hO.outs,hO.sepk,hO.sepm,hO.kf,hO.ms⟩
 | .box t::ps,d,vs,ns,ks,xs,B,⟨b,o,vs',n1,n2,ks',h1,h2,h3,h4,h6⟩,hlen,hp,hl,hk,hm,hf=>by
  subst h1;simp only[W0]at hf;split at hf
  .rename_i id xs;split at hf
   .rename_i cs ho;split at hf
    .rename_i dd m l A g1 g2;injection hf with hf;subst hf;have hx:=((hp 0 _ _ rfl rfl).resolve_left (λe=>by cases e)).1;obtain⟨kf,ms,hO⟩:=WaP hg h ps d.2 vs' n2 ks' xs A h6 (by simpa using hlen) (λj y u hj hu=>hp (j+1) y u (by simpa using hj) (by simpa using hu)) (hl.mono λj hj=>Xg _ hj) (Xah.1 hk).2 (Xag.1 hm).2.1 g2;obtain⟨nn,e1,e2,e3,e4,e5⟩:=WgV (wb:=wb) (Gb:=Gb) hg h hx ho g1 (hl.mono λj hj=>Xl _ hj) hk hm hO;exact⟨_,nn++ms,⟨b,o,ks',kf,nn,ms,h3,rfl,rfl,e1,hO.outs⟩,e2,e3,e4,e5⟩
    .cases hf
   .cases hf
  .cases hf
 | .vj _::_,_,_,_,_,_,_,h,_,_,_,_,_,_=>h.elim
 | .boxal t lf::ps,d,vs,ns,ks,xs,B,⟨b,o,b',pc,vs',n1,n2,ks',h1,h2,h3,h4,h5,h6,h7,h8⟩,hlen,hp,hl,hk,hm,hf=>by
  subst h1;simp only[W0]at hf;split at hf
  .rename_i id y xs;split at hf
   .rename_i cs ho;split at hf
    .rename_i dd m l A g1 g2;injection hf with hf;subst hf;have hx:=((hp 0 _ _ rfl rfl).resolve_left (λe=>by cases e)).1;obtain⟨kf,ms,hO⟩:=WaP hg h ps d.2.2 vs' n2 ks' xs A h8 (by simpa using hlen) (λj y u hj hu=>hp (j+2) y u (by simpa using hj) (by simpa using hu)) (hl.mono λj hj=>Xg _ hj) (Xah.1 hk).2 (Xag.1 hm).2.1 g2;obtain⟨nn,e1,e2,e3,e4,e5⟩:=WgV (wb:=wb) (Gb:=Gb) hg h hx ho g1 (hl.mono λj hj=>Xl _ hj) hk hm hO;exact⟨_,nn++ms,⟨b,o,ks',kf,nn,ms,h3,rfl,rfl,e1,hO.outs⟩,e2,e3,e4,e5⟩
    .cases hf
   .cases hf
  .cases hf
 | .mut e::ps,d,vs,ns,ks,xs,B,⟨pc,vs',n2,ks',h1,h2,h3,h4,h5⟩,hlen,hp,hl,hk,hm,hf=>by
  subst h1;simp only[W0]at hf;split at hf
  .rename_i id xs;split at hf
   .rename_i e' ys ho;split at hf
    .rename_i dd A g1 g2;injection hf with hf;subst hf;obtain⟨dT,hd⟩:=War g1;subst dT;simp only at hd;subst hd;obtain⟨⟨_,hx⟩,_⟩:=(hp 0 _ _ rfl rfl).resolve_left (λe=>by cases e);have aI:Live objs id:=⟨_,ho,by simp⟩;have hown:OwnL w (TyRel G w e') e'.size (ν id) ys (φ id):=h.ob _ _ ho;have hown':=WcH hg (Same.refl _ w) (λ_ _ hh=>hh) hown;obtain⟨k1,k2⟩:=Xah.1 hk;obtain⟨kf,ms,hO⟩:=WaP hg h ps d.2 vs' n2 ks' xs A h5 (by simpa using hlen) (λj y u hj hu=>hp (j+1) y u (by simpa using hj) (by simpa using hu)) hl k2 hm g2;refine⟨φ id::kf,ms,⟨⟨pc.nu,φ id⟩,ks',kf,h3,rfl,Woz h4 hown' hx,hO.outs⟩,?_,hO.sepm,λS hS=>?_,hO.ms⟩
     .exact WvK h (k1:=[φ id]) (m:=[id]) (Xbf _ _) hO.sepk (λS hS=>by rw[Xaa.1 hS];exact FromL.one (by simp) aI) hO.kf (λi hi hj=>k1 (by rw[←Xaa.1 hi];exact hj))
     .rcases Xq.1 hS with rfl|hS
      .exact FromL.one (Xh ..) aI
      .exactλb o hh=>FromL.mono (λi hi=>Xe _ hi) b o (hO.kf S hS b o hh)
    .cases hf
   .cases hf
  .cases hf
 | .clos g n::ps,d,vs,ns,ks,xs,B,⟨cvs,vs',h1,h2,h3,h4⟩,hlen,hp,hl,hk,hm,hf=>by
  subst h1;simp only[W0]at hf;split at hf
  .rename_i g' caps xs;split at hf
   .rename_i hc;obtain⟨rfl,hcl⟩:=hc;cases hA:W0 ps (Wjh caps++xs) objs with
    |none=>simp[hA]at hf
    |some A=>
     simp[hA]at hf;subst hf;obtain⟨⟨us,s9,uU,xi⟩,_⟩:=(hp 0 _ _ rfl rfl).resolve_left (λe=>by cases e);have iT:us=cvs:=by
      injection s9 with _ _ s9;have:=Wj Array.toList s9;simpa using this.symm
     subst iT;obtain⟨kf,ms,hO⟩:=WaP hg h ps d (us++vs') ns ks (Wjh caps++xs) A h4 (by simp[Wjh,uU];simpa using hlen) (λj y u hj hu=>by
      rw[Xax]at hj hu;simp only[Wjh,List.length_map]at hj;rw[uU]at hu;split at hj
      .rename_i hlt;rw[Wb hlt]at hu;rw[Xao]at hj;obtain⟨id,bB,rfl⟩:=Xy.1 hj;obtain⟨q1,q3,q2⟩:=xi _ id u bB hu;exact .inr ⟨⟨q1,q2⟩,q3⟩
      .rename_i hlt;rw[Wa hlt]at hu;exact hp (j-caps.length+1) y u (by simpa using hj) (by simpa using hu)) hl hk hm hA
     exact⟨kf,ms,hO.outs,hO.sepk,hO.sepm,hO.kf,hO.ms⟩
   .cases hf
  .cases hf
 | .kv t agg::ps,d,vs,ns,ks,xs,B,⟨v,vs',n1,n2,ks',h1,h2,iW,h3,h4⟩,hlen,hp,hl,hk,hm,hf=>by
  subst h1;simp only[W0]at hf;split at hf
  .rename_i x xs;split at hf
   .rename_i dd m l A g1 g2;split at hf
    .rename_i fT;injection hf with hf;subst hf;cases hc:cellsOf agg x with
     |none=>simp[hc]at g1
     |some cs=>
      simp[hc]at g1;obtain⟨k1,k2,k3⟩:=Xag.1 hk;have hx:=(hp 0 _ _ rfl rfl).resolve_left (λe=>by subst e;cases hc);have bq:Lent G' w φ objs l:=hl.mono λj hj=>Xl _ hj;obtain⟨_,_,_,_,q4,_⟩:=WkU h hg hx bq k1 hc g1;obtain⟨v1,_⟩:=Wma h hg hx bq hc g1 fT;obtain⟨us,n3,r1,r2,r3⟩:=WrJ h3 v1;obtain⟨kf,ms,hO⟩:=WaP hg h ps d.2 vs' n2 ks' xs A h4 (by simpa using hlen) (λj y u hj hu=>hp (j+1) y u (by simpa using hj) (by simpa using hu)) (hl.mono λj hj=>Xg _ hj) k2 hm g2;have gp:∀S∈fps n3,CS.le S (FromL φ objs m):=λS hS=>by
       rw[r3,Wng]at hS;obtain⟨i,hi,rfl⟩:=Xt.1 hS;exact FromL.one hi (q4 i hi)
      have gs:Sep (fps n3):=by
       rw[r3,Wng];refine List.pairwise_map.2 (k1.imp_of_mem λ{i j} hi hj hne=>?_)
       exactλb o h1 h2=>hne (h.inj i j b o (q4 i hi) (q4 j hj) h1 h2)
      refine⟨fps n3++kf,ms,⟨n3,ks',kf,us,by rw[iW,r2],rfl,r1,hO.outs⟩,WvK h gs hO.sepk gp hO.kf (λi hi hj=>k3 i hi i hj rfl),hO.sepm,λS hS=>?_,hO.ms⟩;rcases Xm.1 hS with hS|hS
      .exactλb o hh=>FromL.mono (λi hi=>Xl _ hi) b o (gp S hS b o hh)
      .exactλb o hh=>FromL.mono (λi hi=>Xg _ hi) b o (hO.kf S hS b o hh)
    .cases hf
   .cases hf
  .cases hf
end
end Go.Sx
namespace Go.Sx
set_option linter.unusedVariables false
set_option linter.unusedSimpArgs false
section
variable{P:Program}{T:Tab}{Γ:Ctx}
theorem Wtg{sg:Sig}{d:We2 sg.ps}{G:GH}{w:World}{vs:List Value}{ns:List Pc}{ks:List Nu}{n:Nat}(hn:WbQ sg.ps<=n)(eD:Wci sg.ps=true)(hargs:Wbj G w sg.ps d vs ns ks)(hsep:Sep (fps ns))
  (hfree:∀q∈ns,∀b off,q.fp b off->G b off=none/\b<w.heap.size) (hg:∀b o v,G b o=some v->w.cell? ⟨b,o,none⟩=some v):
  ∃ν,Rel w (Of ns) ⟨n,WG sg.ps 0 0 vs⟩ G G ν {env:=WgJ 0 (WQ sg.ps d [] 0).1,objs:=(WQ sg.ps d [] 0).2.1,nx:=(WQ sg.ps d [] 0).2.2}
   {tmps:=vs.toArray++Xdv (n-vs.toArray.size) undef,defers:=[]} w:=by
 obtain⟨ν,hν⟩:∃ν:Nat->Nu,ν= λi=>((nus ns)[i]?).getD ⟨none,0,0,0,0⟩:=⟨_,rfl⟩;obtain⟨φ,hφ⟩:∃φ:Nat->CS,φ= λi=>((fps ns)[i]?).getD (λ_ _=>False):=⟨_,rfl⟩;have hAt:At ν φ 0 ns:=λj pc hj=>by
  have e1:(nus ns)[j]?=some pc.nu:=by unfold nus;rw[Xao,hj];rfl
  have e2:(fps ns)[j]?=some pc.fp:=by unfold fps;rw[Xao,hj];rfl
  rw[hν,hφ];simp only[Xba,e1,e2];exact⟨rfl,rfl⟩
 obtain⟨h1,h2,h3,h4⟩:=Wce (ν:=ν) (φ:=φ) sg.ps d vs ns ks [] 0 (0+ns.length) eD hargs hAt (Xn _);have rh:=Wc4 _ _ _ _ _ hargs;have dJ:∀id,Live (WQ sg.ps d [] 0).2.1 id->id<ns.length:=λid ⟨ob,ho,_⟩=>by
  rcases h2 id ob ho with⟨_,h,_⟩|h
  .simpa using h
  .cases h
 have ar:∀id b o,φ id b o->∃q,ns[id]?=some q/\(fps ns)[id]?=some q.fp/\q.fp b o:=λid b o hp=>by
  rw[hφ]at hp
  try simp only at hp
  cases hq:ns[id]? with
  |none=>
   have:(fps ns)[id]?=none:=by unfold fps;rw[Xao,hq];rfl
   rw[this]at hp;exact hp.elim
  |some q=>
   have:(fps ns)[id]?=some q.fp:=by unfold fps;rw[Xao,hq];rfl
   rw[this]at hp;exact⟨q,rfl,this,hp⟩
 have uV:∀(i:Nat) (v:Value),vs[i]?=some v->(vs.toArray++Xdv (n-vs.toArray.size) undef)[i]?=some v:=λi v hi=>by
  have hlt:=(Xad.1 hi).1;rw[Array.getElem?_append_left (by simpa using hlt)];simpa using hi
 refine⟨ν,rfl,by simp;omega,λp hp=>?_,λi x hx=>?_,⟨φ,?_⟩,λ_ _ _ hh=>hh,λ_ _ _ hh=>.inl hh⟩
 .obtain⟨_,g2⟩:=WN _ _ _ _ p hp;exact uV _ _ (by simpa using g2)
 .simp only at hx;rw[Wg0]at hx;simp only[Xbr,Waw,Xde]at hx;have hlt:=(Xad.1 hx).1;rw[h3]at hlt;have hv:=Xp hlt;refine⟨_,uV i _ hv,?_⟩;have:=h4 i x _ hx hv;simp only[h1];exact this
 .exact{
   g:=hg
   ob:=λid ob ho=>by
    rcases h2 id ob ho with⟨_,_,h⟩|h
    .simp only[h1];exact h
    .cases h
   gf:=λid b o hl hp=>by
    obtain⟨q,g1,_,g2⟩:=ar id b o hp;exact(hfree q (Xav g1) b o g2).1
   inj:=λid bK b o hl bQ hp dG=>by
    obtain⟨q,_,g1,g2⟩:=ar id b o hp;obtain⟨q',_,xj,xk⟩:=ar bK b o dG;exact Wk1 hsep g1 xj g2 xk
   own:=λid b o hl hp=>by
    obtain⟨q,g1,_,g2⟩:=ar id b o hp;exact .inr ⟨q,Xav g1,g2⟩
   lt:=λid hl=>by simp only[h1];have:=dJ id hl;omega
   bl:=λid b o hl hp=>by
    obtain⟨q,g1,_,g2⟩:=ar id b o hp;exact(hfree q (Xav g1) b o g2).2
   le:=WLe.refl _ w}
theorem Wqt(hT:Wag P T){f:Func}{sg:Sig}{d:We2 sg.ps}{G:GH}{w:World}{vs:List Value}{ns:List Pc}{ks:List Nu}{n:Nat}(eD:Wci sg.ps=true)(hargs:Wbj G w sg.ps d vs ns ks)
  {st:St} {a:Act} {w':World} {G1:GH} {ν:Nat->Nu} (hr:Rel w (Of ns) ⟨n,WG sg.ps 0 0 vs⟩ G G1 ν st a w') {xs:List AVal} (hx:Wd4 T st f.results.toList=some xs)
  {A:Outs (WgG sg.rs)} (hA:Wa4 sg.rs xs st.objs=some A) {B:OutK (WfH sg.ps)} (hB:W0 sg.ps (WA sg.ps 0 0 st) st.objs=some B)
  (aV:Wbr (B.kept++(B.moved++A.moved))=true) (kP:Wgp (A.lent++B.lent) (B.kept++(B.moved++A.moved))=true):
  ∃rv kf ms cE G',(results f a.tmps).run P w'= .ok (Wih rv) w'/\After sg (B.d,A.d) G w ns ks rv kf ms cE G' w':=by
 have aV:=(WeJ _).1 aV;have kP:=Wll kP;obtain⟨φ,hφ⟩:=hr.h;have ta:=hφ.addG_le (A.lent++B.lent);have xl:=hφ.addG_w (A.lent++B.lent);have lX:Lent (WpY G1 w' (FromL φ st.objs (A.lent++B.lent))) w' φ st.objs (A.lent++B.lent):=λid bB hl=>(Win _).mono (FromL.one bB hl);obtain⟨k1,k2,k3⟩:=Xag.1 aV;obtain⟨k4,k5,k6⟩:=Xag.1 k2;obtain⟨rv,tc,td,tf⟩:=Wj3 hT hr _ xs hx;obtain⟨cE,q1,q2,q3,q4⟩:=WdA hφ ta sg.rs xs rv A td tf (lX.mono λi hi=>Xl _ hi) k5 hA;obtain⟨hsl,dj⟩:=WaC hr sg.ps d vs ns ks 0 0 hargs eD (by cases sg.ps<;>rfl) (Xbr _) (by simpa using hr.par);obtain⟨kf,ms,hO⟩:=WaP ta hφ sg.ps d vs ns ks _ B hargs hsl (λj x v hj hv=>dj j x v hj (by simpa using hv)) (lX.mono λi hi=>Xg _ hi) k1 k4 hB;have eT:∀S∈kf++fps (ms++cE),CS.le S (FromL φ st.objs (B.kept++(B.moved++A.moved))):=λS hS=>by
  rcases Xm.1 hS with hS|hS
  .exactλb o hh=>FromL.mono (λi hi=>Xl _ hi) b o (hO.kf S hS b o hh)
  .obtain⟨q,hq,rfl⟩:=Xt.1 hS;rcases Xm.1 hq with hq|hq
   .exactλb o hh=>FromL.mono (λi hi=>Xg _ (Xl _ hi)) b o (hO.ms q hq b o hh)
   .exactλb o hh=>FromL.mono (λi hi=>Xg _ (Xg _ hi)) b o (q3 q hq b o hh)
 refine⟨rv,kf,ms,cE,WpY G1 w' (FromL φ st.objs (A.lent++B.lent)),?_,?_⟩
 .show(do let vs←f.results.mapM (WlX a.tmps);pure (if h:vs.size=1 then vs[0]else .tuple vs):Sem Value).run P w'=_;have fV:(f.results.mapM (WlX a.tmps)).run P w'= .ok rv.toArray w':=by
   rw[Array.mapM_eq_mapM_toList,Sem.run_map,tc];rfl
  rw[Sem.run_bind,fV];simp only[Result.andThen_ok,Sem.run_pure];congr 1;unfold Wih
  match rv with
  | []=>rfl
  | [v]=>rfl
  |u::v::l=>simp
 .exact{
   res:=q1
   outs:=hO.outs
   sep:=by
    refine WvK hφ hO.sepk (Wcc hφ hO.sepm q2 hO.ms q3 (λi hi hj=>k6 i hi i hj rfl)) hO.kf (l:=B.moved++A.moved) (λS hS=>?_) (λi hi hj=>k3 i hi i hj rfl);obtain⟨q,hq,rfl⟩:=Xt.1 hS;rcases Xm.1 hq with hq|hq
    .exactλb o hh=>FromL.mono (λi hi=>Xl _ hi) b o (hO.ms q hq b o hh)
    .exactλb o hh=>FromL.mono (λi hi=>Xg _ hi) b o (q3 q hq b o hh)
   own:=λS hS b off hh=>by
    obtain⟨i,hi,h1,h2⟩:=eT S hS b off hh;refine⟨?_,(hφ.own i b off h1 h2).symm,hφ.bl i b off h1 h2⟩;rw[Wc6 (λ⟨j,hj,h3,h4⟩=>by
     have:=hφ.inj i j b off h1 h3 h2 h4;subst this;exact kP _ hj hi)]
    exact hφ.gf i b off h1 h2
   gx:=by
    refine⟨λb o v hv=>ta b o v (hr.gx.le b o v hv),λb off v hv=>?_⟩;by_cases hb:FromL φ st.objs (A.lent++B.lent) b off
    .obtain⟨j,hj,h1,h2⟩:=hb;exact .inr (hφ.own j b off h1 h2)
    .rw[Wc6 hb]at hv;exact hr.gx.new b off v hv
   g:=xl
   le:=hφ.le}
theorem WtU(hM:P.follows .mixedOrders=true)(hT:Wag P T)(hΓ:WeZ P Γ){f:Func}{k:FuncId}{c:Code}(hf:P.funcs[k]?=some f)(hb:f.body=some c){sg:Sig}(aY:Wdn f.ntmps (WdU sg.ps 0 0) c=true)(eD:Wci sg.ps=true)
  (hn:WbQ sg.ps<=f.ntmps) {ann:Nat->List Ghost} (h:∀d o,sg.run d=some o->∃N,den T Γ ann N sg f d some=some o):Good P k sg:=by
 intro d o hrun G w vs ns ks hargs hsep hfree hg;obtain⟨N,gL⟩:=h d o hrun;unfold den at gL;simp only[hb]at gL;obtain⟨ν,lY⟩:=Wtg hn eD hargs hsep hfree hg;split at gL
 case h_2=>cases gL
 rename_i c' b st0 fy xm;injection fy with fy;subst fy;obtain⟨rfl,gL⟩:=WaI gL;obtain⟨G0',ν0',hr⟩:=Wdu _ _ _ _ _ lY xm;refine calls_of_wp hf hb ?_
 suffices hk:∀e,Wp3 w (Of ns) ⟨f.ntmps,WG sg.ps 0 0 vs⟩ G (WvU T sg f.results.toList some e) o (bodyPost P f (λe w'=>∃rv kf ms cE G',e= .returned (Wih rv)/\After sg o G w ns ks rv kf ms cE G' w') e.to)from
  WnJ (nt:=⟨f.ntmps,WG sg.ps 0 0 vs⟩) hM hT hΓ (n:=f.ntmps) rfl (WR sg.ps 0 0 vs) c aY hk _ _ _ _ _ hr gL
 intro e st a w' G1 ν1 gI hk;have gM:(∃xs,Wd4 T st f.results.toList=some xs/\∃A B,Wa4 sg.rs xs st.objs=some A/\W0 sg.ps (WA sg.ps 0 0 st) st.objs=some B/\Wbr (B.kept++(B.moved++A.moved))=true/\Wgp (A.lent++B.lent) (B.kept++(B.moved++A.moved))=true/\(B.d,A.d)=o)->
   a.defers= []/\∃v,(results f a.tmps).run P w'= .ok v w'/\∃rv kf ms cE G',Ending.returned v= .returned (Wih rv)/\After sg o G w ns ks rv kf ms cE G' w':=by
  rintro⟨xs,hx,A,B,hA,hB,h1,h2,rfl⟩;obtain⟨rv,kf,ms,cE,G',h3,h4⟩:=Wqt hT (f:=f) eD hargs gI hx hA hB h1 h2;exact⟨gI.defers,_,h3,rv,kf,ms,cE,G',rfl,h4⟩
 have mL:(match Wd4 T st f.results.toList with
   |some xs=>match Wa4 sg.rs xs st.objs,W0 sg.ps (WA sg.ps 0 0 st) st.objs with
    |some A,some B=>if Wbr (B.kept++(B.moved++A.moved))&&Wgp (A.lent++B.lent) (B.kept++(B.moved++A.moved))then some (B.d,A.d)else none
    |_,_=>none
   |none=>none)=some o->(∃xs,Wd4 T st f.results.toList=some xs/\∃A B,Wa4 sg.rs xs st.objs=some A/\W0 sg.ps (WA sg.ps 0 0 st) st.objs=some B/\Wbr (B.kept++(B.moved++A.moved))=true/\Wgp (A.lent++B.lent) (B.kept++(B.moved++A.moved))=true/\(B.d,A.d)=o):=λhk=>by
  split at hk
  .rename_i xs hx;split at hk
   .rename_i A B hA hB;obtain⟨hc,hk⟩:=WbN hk;simp only[Xi]at hc;injection hk with hk;exact⟨xs,hx,A,B,hA,hB,hc.1,hc.2,hk⟩
   .cases hk
  .cases hk
 cases e with
 |normal=>exact gM (mL hk)
 |ret=>exact gM (mL hk)
 |exit id=>cases hk
end
end Go.Sx
namespace Go.Sx
set_option linter.unusedVariables false
set_option linter.unusedSimpArgs false
def zv1:Value->Value->Bool
 | .int k n,.int k' n'=>decide (k=k')&&decide (n=n')
 | .bool b,.bool b'=>b==b'
 | .string s,.string s'=>match s.data.toList,s'.data.toList with
  | [],[]=>true
  |_,_=>false
 | .slice none 0 0,.slice none 0 0=>true
 | .pointer none,.pointer none=>true
 |_,_=>false
theorem Wse(x y:Value)(h:zv1 x y=true):x=y:=by
 unfold zv1 at h;split at h
 .simp only[Xi,Wh]at h;obtain⟨rfl,rfl⟩:=h;rfl
 .have:=eq_of_beq h;subst this;rfl
 .rename_i s s';split at h
  .rename_i e1 e2;have:s=s':=by
    cases s with|mk a=>cases s' with|mk b=>
    congr 1;apply Array.ext';simp only at e1 e2;rw[e1,e2]
   rw[this]
  .cases h
 .rfl
 .rfl
 .cases h
def WvO:List Value->List Value->Bool
 | [],[]=>true
 |x::l,y::m=>zv1 x y&&WvO l m
 |_,_=>false
theorem WlJ:∀(l m:List Value),WvO l m=true->l=m
 | [],[],_=>rfl
 | [],_::_,h=>by cases h
 |_::_,[],h=>by cases h
 |x::l,y::m,h=>by
  simp only[WvO,Xi]at h;rw[Wse x y h.1,WlJ l m h.2]
def WfL:List Field->List (Nat×TypeId)->Bool
 | [],[]=>true
 |f::l,p::m=>Xbp f.offset p.1&&Xbp f.type p.2&&(f.name != "_")&&WfL l m
 |_,_=>false
def Wqz(P:Program)(T:Tab)(t:TypeId)(te:TE):Bool:=match te.shape with
 | .basic=>!te.agg&&(match te.ty with
  | .int k=>match P.underlying t with|some (.int k')=>decide (k'=k)|_=>false
  | .bool=>match P.underlying t with|some .bool=>true|_=>false
  | .str=>match P.underlying t with|some .string=>true|_=>false
  |_=>false)
 | .slice e=>!te.agg&&(match P.underlying t with|some (.slice e')=>Xbp e' e|_=>false)&&(match look T e with|some dv=>decide (te.ty= .slice dv.ty)|none=>false)
 | .struct fs=>te.agg&&(match P.underlying t with|some (.struct fields)=>WfL fields.toList fs|_=>false)&& !P.stoodInHeld t&& !P.eqGuardType P.depth t
 | .ptr e=>!te.agg&&(match P.underlying t with|some (.pointer e')=>Xbp e' e|_=>false)
 | .arr n e=>te.agg&&(match P.underlying t with|some (.array n' e')=>Xbp n' n&&Xbp e' e|_=>false)&&(match look T e with|some dv=>decide (dv.ty=te.ty)&&dv.plain|none=>false)
def Wnb(P:Program)(t:TypeId)(te:TE):Bool:=match P.info? t with
 |some i=>match i.zero with
  |some z=>Xbp i.size te.size&&WvO z.cells.toList te.cells&&Nat.ble i.bytes 4096
  |none=>false
 |none=>false
def Wlh(P:Program)(T:Tab):Tab->Bool
 | []=>true
 |(t,te)::l=>Wqz P T t te&&Wnb P t te&&Wlh P T l
theorem Wff:∀(l:List Field) (m:List (Nat×TypeId)),WfL l m=true→l.map (λf=>(f.offset,f.type))=m∧∀f∈l,f.name≠ "_"
 | [],[],_=>⟨rfl,by simp⟩
 | [],_::_,h=>by cases h
 |_::_,[],h=>by cases h
 |f::l,p::m,h=>by
  simp only[WfL,Xi,bne_iff_ne,ne_eq]at h;obtain⟨⟨⟨h1,h2⟩,h3⟩,h4⟩:=h;obtain⟨h5,h6⟩:=Wff l m h4;have h1:f.offset=p.1:=by simpa using h1
  have h2:f.type=p.2:=by simpa using h2
  refine⟨by rw[Xam,h5,h1,h2],λg hg=>?_⟩;rcases Xq.1 hg with hg|hg
  .subst hg;exact h3
  .exact h6 g hg
theorem WnF{P:Program}{T:Tab}{t:TypeId}{te:TE}(h:Wqz P T t te=true)(hi:Wnb P t te=true):TEok P T t te:=by
 obtain⟨ty,agg,shape⟩:=te;refine⟨?_,?_⟩
 .unfold Wqz at h;cases shape with
  |basic=>
   simp only[Xi,Xap]at h⊢;refine⟨h.1,?_⟩;have h:=h.2;cases ty with
   |int k=>
    simp only at h⊢;split at h
    .rename_i k' hu;simp only[Wh]at h;rw[hu,h]
    .cases h
   |bool=>
    simp only at h⊢;split at h
    .assumption
    .cases h
   |str=>
    simp only at h⊢;split at h
    .assumption
    .cases h
   |slice e=>cases h
   |own e=>cases h
   |prod a b=>cases h
  |slice e=>
   simp only[Xi,Xap]at h⊢;obtain⟨⟨h1,h2⟩,h3⟩:=h;refine⟨h1,?_,?_⟩
   .split at h2
    .rename_i e' hu;rw[hu];have:e'=e:=by simpa using h2
     rw[this]
    .cases h2
   .split at h3
    .rename_i dv hl;exact⟨dv,hl,by simpa using h3⟩
    .cases h3
  |struct fs=>
   simp only[Xi,Xap]at h⊢;obtain⟨⟨⟨h1,h2⟩,h3⟩,h4⟩:=h;refine⟨h1,?_⟩;split at h2
   .rename_i fields hu;obtain⟨h5,h6⟩:=Wff _ _ h2;exact⟨fields,hu,h5,λf hf=>h6 f (by simpa using hf),h3,h4⟩
   .cases h2
  |ptr e=>
   simp only[Xi,Xap]at h⊢;refine⟨h.1,?_⟩;have h:=h.2;split at h
   .rename_i e' hu;rw[hu];have:e'=e:=by simpa using h
    rw[this]
   .cases h
  |arr n e=>
   simp only[Xi]at h⊢;obtain⟨⟨h1,h2⟩,h3⟩:=h;refine⟨h1,?_,?_⟩
   .split at h2
    .rename_i n' e' hu;simp only[Xi]at h2;have e1:n'=n:=by simpa using h2.1
     have e2:e'=e:=by simpa using h2.2
     rw[hu,e1,e2]
    .cases h2
   .split at h3
    .rename_i dv hl;simp only[Xi,Wh]at h3;refine⟨dv,hl,h3.1,λm f hs=>?_⟩;have:=h3.2;unfold TE.plain at this;rw[hs]at this;cases this
    .cases h3
 .unfold Wnb at hi;split at hi
  .rename_i i dB;split at hi
   .rename_i z hz;simp only[Xi]at hi;obtain⟨⟨h1,h2⟩,h3⟩:=hi;exact⟨i,z,dB,by simpa using h1,hz,WlJ _ _ h2,Xfu h3⟩
   .cases hi
  .cases hi
theorem WvE{P:Program}{T:Tab}(h:Wlh P T T=true):Wag P T:=by
 have key:∀l,Wlh P T l=true->∀t te,look l t=some te->TEok P T t te:=by
  intro l
  induction l with
  |nil=>intro _ t te hl;cases hl
  |cons p l ih=>
   intro hc t te hl;obtain⟨t',dv⟩:=p;simp only[Wlh,Xi]at hc;rw[WF]at hl;split at hl
   .rename_i e;subst e;injection hl with hl;subst hl;exact WnF hc.1.1 hc.1.2
   .exact ih hc.2 t te hl
 exact key T h
theorem Wg{P:Program}:WeZ P []:=λk sg h=>by cases h
theorem Wsx{P:Program}{Γ:Ctx}{k:FuncId}{sg:Sig}(hg:Good P k sg)(hc:Wf6 P k)(h:WeZ P Γ):WeZ P ((k,sg)::Γ):=λk' xn hl=>by
 simp only[look]at hl;split at hl
 .rename_i e;have:k=k':=by simpa using e
  subst this;injection hl with hl;subst hl;exact⟨hg,hc⟩
 .exact h k' xn hl
def WnQ(f:Func):Bool:=f.body.isSome&& !(f.name== "runtime.NumGoroutine")
theorem WcL{P:Program}{k:FuncId}{f:Func}(hf:P.funcs[k]?=some f)(h:WnQ f=true):Wf6 P k:=by
 simp only[WnQ,Xi,Xap]at h;refine⟨f,hf,?_,h.2⟩;cases hb:f.body with
 |none=>rw[hb]at h;cases h.1
 |some c=>rfl
def Wns(f:Func)(ps:List PTy):Bool:=match f.body with
 |some c=>Wdn f.ntmps (WdU ps 0 0) c&&Nat.ble (WbQ ps) f.ntmps&&Wci ps
 |none=>false
theorem WrI{P:Program}{T:Tab}{Γ:Ctx}(hM:P.follows .mixedOrders=true)(hT:Wag P T)(hΓ:WeZ P Γ){f:Func}{k:FuncId}(hf:P.funcs[k]?=some f){sg:Sig}(aY:Wns f sg.ps=true){ann:Nat->List Ghost}
  (h:∀d o,sg.run d=some o->∃N,den T Γ ann N sg f d some=some o):Good P k sg:=by
 unfold Wns at aY;split at aY
 .rename_i c hb;simp only[Xi]at aY;exact WtU hM hT hΓ hf hb aY.1.1 aY.2 (Xfu aY.1.2) h
 .cases aY
end Go.Sx
namespace Go.Sx
def WfC:Code->List Code
 | .seq a b=>WfC a++WfC b
 | .cond _ a b=>WfC a++WfC b
 | .block _ c=>WfC c
 | .loop c=>c::WfC c
 |_=>[]
def Wri(f:Func):Code:=match f.body with
 |some c=>c
 |none=>.skip
def WqO(f:Func)(i:Nat):Code:=(WfC (Wri f)).getD i .skip
noncomputable def Wuo{R:Type}(T:Tab)(Γ:Ctx)(ann:Nat->List Ghost)(N:Nat):Code->List Nat->(Ex->St->Option R)->Ex->St->Option R
 | .seq a b,p,k=>match p with
  |0::p=>Wuo T Γ ann N a p λe ah=>match e with
   | .normal=>sx T Γ ann N b ah k
   | .exit id=>k (.exit id) ah
   | .ret=>k .ret ah
  |_::p=>Wuo T Γ ann N b p k
  | []=>k
 | .cond _ x y,p,k=>match p with
  |0::p=>Wuo T Γ ann N x p k
  |_::p=>Wuo T Γ ann N y p k
  | []=>k
 | .block id c,p,k=>match p with
  |_::p=>Wuo T Γ ann N c p λe ah=>match e with
   | .exit bK=>if bK=id then k .normal ah else k (.exit bK) ah
   | .normal=>k .normal ah
   | .ret=>k .ret ah
  | []=>k
 |_,_,k=>k
def WvW{R:Type}(gs:List Ghost)(L:St->(Ex->St->Option R)->Option R)(K:Ex->St->Option R):Ex->St->Option R:=λe st=>match e with
 | .normal=>match WdT gs st with
  |some (c,ah)=>bif c then L ah K else none
  |none=>none
 | .exit id=>K (.exit id) st
 | .ret=>K .ret st
abbrev vI(x:Int):AVal:=.s (.one (.val (.int .i64) x))
abbrev vB(x:Bool):AVal:=.s (.one (.val .bool x))
abbrev vV(t:Ty)(x:t.den):AVal:=.s (.one (.val t x))
abbrev vO(i:Nat):AVal:=.s (.one (.own i))
abbrev vP(i o:Nat):AVal:=.s (.one (.ptr i o))
abbrev Qs(s:Sig):=WfH s.ps×WgG s.rs
structure Fn where
 F:Func
 a:Nat->List Ghost
 s:Nat->Sig
 c:Nat->Ctx
def WI:Nat->List Ghost:=λ_=>[]
def Wbo:Nat->Ctx:=λ_=>[]
noncomputable def lpM{R:Type}(T:Tab)(Γ:Ctx)(ann:Nat->List Ghost)(N:Nat)(F:Func)(i k n:Nat)(st:St)(K:Ex->St->Option R):Option R:=WmW (WjL (ann k) λst k=>sx T Γ ann N (WqO F i) st k) n st K
noncomputable def cxF(T:Tab)(Γ:Ctx)(ann:Nat->List Ghost)(N:Nat)(sg:Sig)(F:Func)(p:List Nat):Ex->St->Option (Qs sg):=Wuo (R:=Qs sg) T Γ ann N (Wri F) p (WvU T sg F.results.toList some)
noncomputable def cxL{R:Type}(T:Tab)(Γ:Ctx)(ann:Nat->List Ghost)(N:Nat)(F:Func)(i k:Nat)(p:List Nat)(n:Nat)(K:Ex->St->Option R):Ex->St->Option R:=Wuo T Γ ann N (WqO F i) p (WvW (ann k) (lpM T Γ ann N F i k n) K)
end Go.Sx
namespace Go.Sx
open Go.ChangeShapes Go.WideShapes Go.ChangeAt Go.RowKit
set_option linter.unusedVariables false
set_option linter.unusedSimpArgs false
def Wfd:(t:Ty)->t.den->Prop
 | .int k,n=>(Lit.int k n).wf=true
 | .bool,_=>True
 | .str,s=>Xc s<=maxLen
 | .slice e,l=>Xc l<=maxLen/\∀x,List.Mem x l->Wfd e x
 | .own _,_=>False
 | .prod a b,d=>Wfd a d.1/\Wfd b d.2
def WfW:(t:Ty)->t.den->Nat
 | .int _,_=>1
 | .bool,_=>1
 | .str,s=>Xc s+1
 | .slice e,l=>(List.map (WfW e) l).sum+1
 | .own _,_=>0
 | .prod a b,d=>WfW a d.1+WfW b d.2
structure Bulk{H:Type}(β:DataW H->Nat):Prop where
 lit:∀l,1<=β (.lit l)
 str:∀s,s.length+1<=β (.lit (.string s))
 nil:1<=β .nil
 slice:∀es sp,(es.map β).sum+1<=β (.slice es sp)
 agg:∀ps,(ps.map β).sum<=β (.agg ps)
def Wjy(T:Tab):List (Nat×TypeId)->Nat->Option (List Ty)
 | [],_=>some []
 |(o,ft)::fs,off=>match look T ft with
  |some te=>bif Xbp o off&&te.plain then(Wjy T fs (off+te.ty.size)).map (te.ty:: ·)else none
  |none=>none
def WdY:List Ty->Ty
 | []=>.bool
 | [t]=>t
 |t::ts=>.prod t (WdY ts)
def Wnm(T:Tab):Nat->TypeId->Bool
 |0,_=>false
 |n+1,t=>match look T t with
  |some te=>match te.shape with
   | .basic=>match te.ty with
    | .int _=>true
    | .bool=>true
    | .str=>true
    | .slice _=>false
    | .own _=>false
    | .prod _ _=>false
   | .slice e=>Wnm T n e&&(match look T e with|some dv=>dv.plain|none=>false)
   | .struct fs=>fs.all (λf=>Wnm T n f.2)&&(match Wjy T fs 0 with
    |some (t::ts)=>decide (te.ty=WdY (t::ts))
    |_=>false)
   | .ptr _=>false
   | .arr _ _=>false
  |none=>false
section
variable{P:Program}{T:Tab}{H:Type}{enc:TypeId×Value->H}{β:DataW H->Nat}{w:World}
theorem WgC{t:TypeId}{te:TE}(h:TEok P T t te):P.cellsOf t=te.size:=by
 obtain⟨i,z,hi,hs,_⟩:=h.info;unfold Program.cellsOf;rw[hi];exact hs
def Wiy(w:World):GH:=λb o=>w.cell? ⟨b,o,none⟩
theorem WqD{b:Nat}{a:Addr}{n:Nat}{cs:List Value}(h:w.cells? b a n=some cs):cs.length=n/\∀(j:Nat) (v:Value),cs[j]?=some v->w.cell? (a.add j)=some v:=by
 unfold World.cells? at h;split at h
 .refine⟨by simpa using mapM_some_length h,λj v hj=>?_⟩;have hlt:j<n:=by
   have:=mapM_some_length h;have h2:=(Xad.1 hj).1;simp at this;omega
  have:=mapM_some_get h j j (by simp[hlt]);rw[this];exact hj
 .cases h
theorem Wox{e:Ty}{a:Addr}(n:Nat)(hn:0<n):∀(k:Nat) (i0:Nat) (el:Nat->Option (DataW H×List MemPlace)) (f:List Value->Option (DataW H×List MemPlace)),
  (∀cs y,f cs=some y->∃d:e.den,Enc (Wiy w) e d cs/\Wfd e d/\WfW e d<=β y.1)->
  (∀i,i0<=i->i<i0+k->∃y cs,w.cells? 0 (a.add (i*n)) n=some cs/\f cs=some y/\el i=some y)->
  ∃(l:List e.den) (cs:List Value),l.length=k/\EncL (Enc (Wiy w) e) l cs/\(∀x∈l,Wfd e x)/\(∀(j:Nat) (v:Value),cs[j]?=some v->w.cell? (a.add (i0*n+j))=some v)/\
   cs.length=k*n/\(l.map (WfW e)).sum<=((Xdb k).map λi=>match el (i0+i)with|some y=>β y.1|none=>0).sum
 |0,i0,el,f,hf,he=>⟨[],[],rfl,rfl,by simp,by simp,by simp,by simp⟩
 |k+1,i0,el,f,hf,he=>by
  obtain⟨y,c1,h1,h2,h3⟩:=he i0 (Xn _) (by omega);obtain⟨d,xo,kS,hd3⟩:=hf _ _ h2;obtain⟨l,cs,g1,g2,g3,g4,g5,g6⟩:=Wox n hn k (i0+1) el f hf (λi uW mU=>he i (by omega) (by omega));obtain⟨hl,hg⟩:=WqD h1;refine⟨d::l,c1++cs,by simp[g1],⟨c1,cs,rfl,xo,g2⟩,λx hx=>?_,λj v hj=>?_,?_,?_⟩
  .rcases Xq.1 hx with rfl|hx
   .exact kS
   .exact g3 x hx
  .rw[Xax]at hj;split at hj
   .have:=hg j v hj;rw[Addr.add_add]at this;exact this
   .rename_i hlt;have:=g4 _ v hj;rw[hl]at this hlt;have e:(i0+1)*n+(j-n)=i0*n+j:=by rw[Xct];omega
    rw[e]at this;exact this
  .rw[Xac,hl,g5,Xct];omega
  .rw[List.range_succ_eq_map,Xam,Xam,Xeg,Xeg,Xdx];simp only[Xbb,h3];have:((λi=>match el (i0+i)with|some y=>β y.1|none=>0)∘Nat.succ)= λi=>match el (i0+1+i)with|some y=>β y.1|none=>0:=by
    funext i;simp only[Function.comp,Nat.succ_eq_add_one];rw[show i0+(i+1)=i0+1+i by omega]
   rw[this];omega
theorem Wt1{β':DataW H×List MemPlace->Nat}(xs:List (DataW H×List MemPlace)):((Xdb xs.length).map λi=>match xs[0+i]? with|some y=>β' y|none=>0).sum=(xs.map β').sum:=by
 congr 1;apply List.ext_getElem
 .simp
 .intro i h1 h2;simp at h1;simp[h1]
theorem WnN{t:Ty}{ts:List Ty}(h:ts≠ []):WdY (t::ts)= .prod t (WdY ts):=by
 cases ts with
 |nil=>exact Wl rfl h
 |cons _ _=>rfl
theorem Wi0(hT:Wag P T)(hβ:Bulk β)(f:TypeId->List Value->Option (DataW H×List MemPlace)){cs:List Value}:∀(fs:List (Nat×TypeId)) (off:Nat) (ts:List Ty) (ys:List (DataW H×List MemPlace)),ts≠ []->Wjy T fs off=some ts->
  (∀fd∈fs,∀te cs y,look T fd.2=some te->f fd.2 cs=some y->∃d:te.ty.den,Enc (Wiy w) te.ty d cs/\Wfd te.ty d/\WfW te.ty d<=β y.1)->
  ys.length=fs.length->(∀(i:Nat) (fd:Nat×TypeId),fs[i]?=some fd->f fd.2 ((cs.drop fd.1).take (P.cellsOf fd.2))=ys[i]?)->cs.length=off+(WdY ts).size->
  ∃d:(WdY ts).den,Enc (Wiy w) (WdY ts) d (cs.drop off)/\Wfd (WdY ts) d/\WfW (WdY ts) d<=(ys.map λy=>β y.1).sum
 | [],off,ts,ys,hne,ic,_,_,_,_=>by injection ic with ic;exact Wl ic.symm hne
 |(o,ft)::fs,off,ts,ys,hne,ic,hf,hlen,uX,bC=>by
  cases ys with
  |nil=>simp at hlen
  |cons y ys=>
   simp only[Wjy]at ic;split at ic
   .rename_i te hl;obtain⟨hc,ic⟩:=WaI ic;simp only[Xi]at hc;have ho:o=off:=by simpa using hc.1
    obtain⟨uY,dU,rfl⟩:=Xy.1 ic;have hsz:P.cellsOf ft=te.ty.size:=by rw[WgC (hT _ _ hl),WY hc.2]
    have h0:=uX 0 (o,ft) rfl;simp only[Xdj,hsz,ho]at h0;obtain⟨d1,e1,e2,e3⟩:=hf (o,ft) (Xh ..) te _ y hl h0;cases dY:fs with
    |nil=>
     subst dY;simp only[Wjy]at dU;injection dU with dU;subst dU;have tg:ys= []:=by cases ys with
      |nil=>rfl
      |cons _ _=>simp at hlen
     subst tg;have s7:(cs.drop off).take te.ty.size=cs.drop off:=Xbv (by rw[List.length_drop,bC];simp[WdY]);rw[s7]at e1;exact⟨d1,e1,e2,by rw[Xam,Xby,Xeg,List.sum_nil,Xbb];exact e3⟩
    |cons g gs=>
     have pL:uY≠ []:=by
      rw[dY]at dU;obtain⟨o2,ft2⟩:=g;simp only[Wjy]at dU;split at dU
      .obtain⟨_,dU⟩:=WaI dU;obtain⟨x,_,rfl⟩:=Xy.1 dU;simp
      .cases dU
     have uZ:=WnN (t:=te.ty) pL;obtain⟨d2,f1,f2,f3⟩:=Wi0 hT hβ f (cs:=cs) fs (off+te.ty.size) uY ys pL dU (λfd hP=>hf fd (Xe _ hP)) (by simpa using hlen)
      (λi fd hi=>by have:=uX (i+1) fd (by simpa using hi);simpa using this) (by rw[bC,uZ,Ty.size];omega)
     rw[uZ];refine⟨(d1,d2),⟨_,_,?_,e1,f1⟩,⟨e2,f2⟩,?_⟩
     .rw[←List.drop_drop];exact(List.take_append_drop _ _).symm
     .simp only[WfW,Xam,Xeg];omega
   .cases ic
theorem Wkv(hT:Wag P T)(hβ:Bulk β):∀(n fuel:Nat) (t:TypeId) (te:TE) (cs:List Value) (x:DataW H×List MemPlace),Wnm T n t=true->look T t=some te->
  DataW.trod enc P w 0 (λ_=>true) true fuel t cs=some x->∃d:te.ty.den,Enc (Wiy w) te.ty d cs/\Wfd te.ty d/\WfW te.ty d<=β x.1
 |0,_,_,_,_,_,h,_,_=>by cases h
 |n+1,fuel,t,te,cs,x,h,hl,hx=>by
  have bF:=hT _ _ hl;simp only[Wnm,hl]at h;obtain⟨ty,agg,shape⟩:=te;cases shape with
  |basic=>
   have hu:=bF.und.2;cases ty with
   |int k=>
    obtain⟨m,rfl,rfl,hw⟩:=DataW.trod_int hu hx;exact⟨m,rfl,hw,hβ.lit _⟩
   |bool=>
    obtain⟨b,rfl,rfl⟩:=DataW.trod_bool hu hx;exact⟨b,rfl,trivial,hβ.lit _⟩
   |str=>
    obtain⟨s,rfl,rfl,hs⟩:=DataW.trod_string hu hx;refine⟨s.data.toList,by simp[Enc],?_,hβ.str _⟩;show s.data.toList.length<=maxLen;rw[Array.length_toList];exact hs
   |slice e=>cases h
   |own e=>cases h
   |prod a b=>cases h
  |slice e=>
   simp only[Xi]at h;obtain⟨ha,hu,dv,hle,gk⟩:=bF.und;simp only at gk;subst gk;have hp:dv.plain=true:=by have:=h.2;rw[hle]at this;exact this
   have hsz:P.cellsOf e=dv.ty.size:=by rw[WgC (hT _ _ hle),WY hp]
   rcases DataW.trod_slice hu hx with⟨rfl,rfl⟩|⟨a,len,cap,elems,rest,m,rfl,rfl,rfl,hb,xp,kL,th,hel,iS,_⟩
   .exact⟨([]:List dv.ty.den),⟨_,rfl,.inl ⟨rfl,rfl⟩⟩,⟨by simp,λx hx=>by cases hx⟩,by simpa [WfW]using hβ.nil⟩
   .have key:=Wox (w:=w) (β:=β) (e:=dv.ty) (a:=a) dv.ty.size (WbO _) len 0 (λi=>elems[i]?) (λcs=>DataW.trod enc P w 0 (λ_=>true) true m e cs)
     (λcs y hy=>Wkv hT hβ n m e dv cs y h.1 hle hy) (λi _ hi=>by
      rw[Xba]at hi;have:=hel i hi;rw[hsz]at this;have hlt:i<elems.length:=by omega
      rw[Xp hlt]at this;obtain⟨cs,h1,h2⟩:=Xbu.1 this;exact⟨elems[i],cs,h1,h2,Xp hlt⟩)
    obtain⟨l,cs,g1,g2,g3,g4,g5,g6⟩:=key;refine⟨l,⟨_,rfl,?_⟩,⟨by rw[g1];omega,g3⟩,?_⟩
    .by_cases h0:len=0
     .subst h0;exact .inr (.inr ⟨a,cap,rfl,Xab g1⟩)
     .have so:0<cs.length:=by rw[g5];exact Nat.mul_pos (by omega) (WbO _)
      have pM:=g4 0 _ (Xp so);have pN:a.spot=none:=by
       rw[Xeq,Xbb]at pM;have:=World.cell?_spot pM;simpa [Addr.add]using this
      obtain⟨b,off,spot⟩:=a;subst pN;refine .inr (.inl ⟨b,off,cap,cs,by rw[g1],by rw[g1];exact xp,kL,g2,λj v hj=>?_⟩);have:=g4 j v hj;rw[Xeq,Xba,WaU]at this;exact this
    .have h1:=hβ.slice (elems.map (·.1)) (rest.map (·.1));have h2:((Xdb len).map λi=>match elems[0+i]? with|some y=>β y.1|none=>0).sum=(elems.map λy=>β y.1).sum:=by
      rw[←th];exact Wt1 elems
     rw[h2]at g6;rw[Xdx]at h1;simp only[WfW];have h3:(List.map (β∘λx=>x.1) elems)=elems.map λy=>β y.1:=rfl;rw[h3]at h1;show(List.map (WfW dv.ty) l).sum+1<=_;omega
  |struct fs=>
   simp only[Xi]at h;obtain⟨ha,fields,hu,dY,u0,_⟩:=bF.und;have h2:=h.2;split at h2
   .rename_i t1 ts xq;have gk:ty=WdY (t1::ts):=Ws h2;subst gk;obtain⟨xs,m,rfl,rfl,hcl,iw,mI⟩:=DataW.trod_struct hu hx;have hsz:P.cellsOf t=(WdY (t1::ts)).size:=by rw[WgC bF];rfl
    have key:=Wi0 (w:=w) (P:=P) hT hβ (λt cs=>DataW.trod enc P w 0 (λ_=>true) true m t cs) (cs:=cs) fs 0 (t1::ts) xs (by simp) xq
     (λfd hP te cs y pJ hy=>Wkv hT hβ n m fd.2 te cs y (Xai.1 h.1 fd hP) pJ hy) (by rw[iw,←dY];simp)
     (λi fd hi=>by
      rw[←dY]at hi;rw[Xao]at hi;obtain⟨fl,gj,he⟩:=Xy.1 hi;subst he;exact mI i fl (by simpa using gj)) (by rw[hcl,hsz,Xba])
    obtain⟨d,g1,g2,g3⟩:=key;rw[Xcg]at g1;refine⟨d,g1,g2,Xcm g3 ?_⟩;have:=hβ.agg (xs.map (·.1));rw[Xdx]at this;exact this
   .cases h2
  |ptr e=>cases h
  |arr m e=>cases h
theorem Wer{G:GH}{w:World}:∀(t:Ty) (d:t.den) (vs:List Value),Enc G t d vs->TyRel G w t d vs []
 | .int _,_,_,h=>⟨rfl,h⟩
 | .bool,_,_,h=>⟨rfl,h⟩
 | .str,_,_,h=>⟨rfl,h⟩
 | .slice _,_,_,h=>⟨rfl,h⟩
 | .own _,_,_,h=>h.elim
 | .prod a b,d,vs,⟨c1,c2,he,h1,h2⟩=>⟨c1,c2,[],[],he,rfl,Wer a _ _ h1,Wer b _ _ h2⟩
def Wn3:(ps:List PTy)->We2 ps->Prop
 | [],_=>True
 | .v t _::ps,d=>Wfd t d.1/\Wn3 ps d.2
 | .box _::_,_=>False
 | .mut _::_,_=>False
 | .clos _ _::_,_=>False
 | .kv _ _::_,_=>False
 | .rp _::_,_=>False
 | .vj _::_,_=>False
 | .boxal _ _::_,_=>False
def Wf2:(ps:List PTy)->We2 ps->Nat
 | [],_=>0
 | .v t _::ps,d=>WfW t d.1+Wf2 ps d.2
 | .box _::_,_=>0
 | .mut _::_,_=>0
 | .clos _ _::_,_=>0
 | .kv _ _::_,_=>0
 | .rp _::_,_=>0
 | .vj _::_,_=>0
 | .boxal _ _::_,_=>0
def WuV(P:Program)(T:Tab):List TypeId->List PTy->Bool
 | [],[]=>true
 |t::ts,p::ps=>(match p with
  | .v ty agg=>(match look T t with|some te=>decide (te.ty=ty)&&(te.agg==agg)|none=>false)&&Wnm T 20 t&&P.readableRec t&&Nat.blt t P.types.size&&WuV P T ts ps
  | .box _=>false
  | .mut _=>false
  | .clos _ _=>false
  | .kv _ _=>false
  | .rp _=>false
  | .vj _=>false
  | .boxal _ _=>false)
 |_,_=>false
theorem WmP(hT:Wag P T)(hβ:Bulk β):∀(ts:List TypeId) (ps:List PTy) (vs:List Value) (ds:List (DataW H)) (pl:List MemPlace),WuV P T ts ps=true->DataW.TrodAll enc P w 0 (λ_=>true) true ts vs ds pl->
  (∀(j:Nat) (t:TypeId) (v:Value),ts[j]?=some t->vs[j]?=some v->∃base,Value.okWide P w .any base t v)->
  ∃d:We2 ps,Wbj (Wiy w) w ps d vs [] []/\Wn3 ps d/\Wf2 ps d<=(ds.map β).sum
 | [],[],vs,ds,pl,_,h,_=>by
  obtain⟨rfl,rfl,_⟩:=trodAll_nil h;exact⟨(),⟨rfl,rfl,rfl⟩,trivial,by simp[Wf2]⟩
 | [],_::_,_,_,_,h,_,_=>by cases h
 |_::_,[],_,_,_,h,_,_=>by cases h
 |t::ts,.box _::ps,_,_,_,h,_,_=>by cases h
 |t::ts,.mut _::ps,_,_,_,h,_,_=>by cases h
 |t::ts,.clos _ _::ps,_,_,_,h,_,_=>by cases h
 |t::ts,.kv _ _::ps,_,_,_,h,_,_=>by cases h
 |t::ts,.rp _::ps,_,_,_,h,_,_=>by cases h
 |t::ts,.vj _::ps,_,_,_,h,_,_=>by cases h
 |t::ts,.boxal _ _::ps,_,_,_,h,_,_=>by cases h
 |t::ts,.v ty agg::ps,vs,ds,pl,hp,h,fK=>by
  obtain⟨v,vs',d,pO,p,q,rfl,rfl,rfl,h0,hr⟩:=trodAll_cons h;simp only[WuV,Xi]at hp;obtain⟨⟨⟨⟨h1,h2⟩,h3⟩,h4⟩,h5⟩:=hp;split at h1
  .rename_i te hl;simp only[Xi]at h1;have e1:te.ty=ty:=Ws h1.1;have e2:te.agg=agg:=eq_of_beq h1.2;subst e1 e2;obtain⟨fuel,hx⟩:=h0;obtain⟨x,d9,u3,fh⟩:=Wkv hT hβ 20 fuel t te _ (d,p) h2 hl hx;obtain⟨base,aY⟩:=fK 0 t v rfl rfl;obtain⟨dd,g1,g2,g3⟩:=WmP hT hβ ts ps vs' pO q h5 hr (λj t v hj hv=>fK (j+1) t v (by simpa using hj) (by simpa using hv));refine⟨(x,dd),⟨v,vs',[],[],rfl,rfl,?_,g1⟩,⟨u3,g2⟩,?_⟩
   .have hu:=(hT _ _ hl).und;unfold WiE;obtain⟨ty,ag,shape⟩:=te;simp only at d9 u3 fh⊢;have dQ:∀u:Value,u.cells= #[u]->u=v->v.cells.toList= [v]:=λu h e=>by rw[←e,h]
    cases shape with
    |basic=>
     obtain⟨ha,hu⟩:=hu;simp only at ha;subst ha;simp only[Xbl,WaE];have:v.cells.toList= [v]:=by
      cases ty with
      |int k=>obtain⟨n,rfl⟩:=okWide_int hu aY;rfl
      |bool=>obtain⟨n,rfl⟩:=okWide_bool hu aY;rfl
      |str=>obtain⟨n,rfl⟩:=okWide_string hu aY;rfl
      |slice e=>cases hu
      |own e=>cases hu
      |prod a b=>cases hu
     rw[this]at d9;exact Wer _ _ _ d9
    |slice e=>
     obtain⟨ha,hu,_⟩:=hu;simp only at ha;subst ha;simp only[Xbl,WaE];obtain⟨a,l,c,rfl⟩:=okWide_slice hu aY;exact Wer _ _ _ d9
    |struct fs=>
     obtain⟨ha,fields,hu,_⟩:=hu;simp only at ha;subst ha;simp only[Waw];obtain⟨cs,rfl,_⟩:=okWide_struct hu aY;exact⟨cs.toList,by simp,Wer _ _ _ d9⟩
    |ptr e=>simp only[Wnm,hl]at h2;cases h2
    |arr m e=>simp only[Wnm,hl]at h2;cases h2
   .have fh:WfW te.ty x<=β d:=fh;simp only[Wf2,Xam,Xeg];omega
  .cases h1
theorem Wl5:∀(ts:List TypeId) (vs:List Value) (ds:List (DataW H)) (pl:List MemPlace),DataW.TrodAll enc P w 0 (λ_=>true) true ts vs ds pl->ds.length=ts.length
 | [],vs,ds,pl,h=>by obtain⟨_,rfl,_⟩:=trodAll_nil h;rfl
 |t::ts,vs,ds,pl,h=>by
  obtain⟨v,vs',d,pO,p,q,rfl,rfl,rfl,h0,hr⟩:=trodAll_cons h;simp[Wl5 ts vs' pO q hr]
theorem Wml(ij:laidOutB P=true){W W':World}(hb:Below W.heap.size W W'){sp:Nat->Bool}:∀(ts:List TypeId) (ps:List PTy) (vs:List Value) (ds:List (DataW H)) (pl:List MemPlace),WuV P T ts ps=true->
  DataW.TrodAll enc P W 0 (λ_=>true) true ts vs ds pl->(∀p∈pl,p.block<W.heap.size)->(∀p∈pl,sp p.block=true)->DataW.TrodAll enc P W' 0 sp true ts vs ds pl
 | [],ps,vs,ds,pl,_,h,_,_=>by
  obtain⟨rfl,rfl,rfl⟩:=trodAll_nil h;exact trodAll_mk0
 |t::ts,[],_,_,_,h,_,_,_=>by cases h
 |t::ts,.box _::ps,_,_,_,h,_,_,_=>by cases h
 |t::ts,.mut _::ps,_,_,_,h,_,_,_=>by cases h
 |t::ts,.clos _ _::ps,_,_,_,h,_,_,_=>by cases h
 |t::ts,.kv _ _::ps,_,_,_,h,_,_,_=>by cases h
 |t::ts,.rp _::ps,_,_,_,h,_,_,_=>by cases h
 |t::ts,.vj _::ps,_,_,_,h,_,_,_=>by cases h
 |t::ts,.boxal _ _::ps,_,_,_,h,_,_,_=>by cases h
 |t::ts,.v ty agg::ps,vs,ds,pl,hp,h,hlt,iS=>by
  obtain⟨v,vs',d,pO,p,q,rfl,rfl,rfl,h0,hr⟩:=trodAll_cons h;simp only[WuV,Xi]at hp;obtain⟨⟨⟨⟨h1,h2⟩,h3⟩,h4⟩,h5⟩:=hp;have hrow:t<P.types.size:=by rw[Xgs]at h4;exact h4
  exact⟨p,q,WideElems.Trod_stays ij h3 hrow h0 (λx hx=>hb.same (hlt x (Xl _ hx))) (λx hx=>iS x (Xl _ hx)),
   Wml ij hb ts ps vs' pO q h5 hr (λx hx=>hlt x (Xg _ hx)) (λx hx=>iS x (Xg _ hx)),rfl⟩
theorem WsU{f:Func}{s:ChangeSpec}{apart fresh fi again:Bool}{W W':World}{args:Array Value}{v:Value}{ds gs:List (DataW H)}{before pa pv:List MemPlace}
  (hW:DataW.Whole enc P f.params.toList s.vars apart W args.toList ds gs before)
  (gF:∀(b:Nat) (sp:Nat->Bool) (hd:Bool),DataW.TrodAll enc P W' b sp hd f.resultTypes.toList (v.resultList f.resultTypes.size) (s.fn H (ds++gs)).results [])
  (hargs:∀sp:Nat->Bool,(∀p∈before,sp p.block=true)->DataW.TrodAll enc P W' 0 sp true f.params.toList args.toList (s.fn H (ds++gs)).args pa)
  (lZ:∀sp:Nat->Bool,(∀p∈before,sp p.block=true)->DataW.TrodVars enc P W' sp s.vars (s.fn H (ds++gs)).vars pv)
  (ct:before=pa++pv) (hk:W.keptBut W' (· ∈before)) (u4:∀a,a.block<W.heap.size->W'.frozen? a=W.frozen? a)
  (aY:∀(j:Nat) (t:TypeId) (r:Value),f.resultTypes[j]?=some t->(v.resultList f.resultTypes.size)[j]?=some r->Value.okWide P W' .any 0 t r):
  s.post enc P f apart fresh fi again W args v W':=by
 have fO:∀p∈before,(λb=>decide (b<W.heap.size)) p.block=true:=λp hp=>by simpa using hW.lt p hp
 refine⟨ds,gs,before,[],pa,pv,hW,gF _ _ _,hargs _ fO,lZ _ fO,World.keptBut_mono (λp hp=>⟨hp,?_⟩) hk,λ_=>?_⟩
 .rw[ct,Xm]at hp;exact Or.inr hp
 .have hlt:=hW.lt;obtain⟨_,_,_,_,_,hz,hn⟩:=hW;refine⟨aY,_,_,([]++pa)++pv,⟨[]++pa,pv,trodAll_append (hargs _ (λ_ _=>rfl)) (gF _ _ _),lZ _ (λ_ _=>rfl),rfl,?_,?_⟩,?_⟩
  .intro b off hp;have dG:MemPlace.cell b off∈before:=by rw[ct];simpa using hp
   rw[u4 ⟨b,off,none⟩ (hlt _ dG)];exact hz b off dG
  .intro ha;have:=hn ha;rw[ct]at this;simpa using this
  .intro p hp _;rw[ct];simpa using hp
theorem law_row(hT:Wag P T)(ij:laidOutB P=true){f:Func}{k:FuncId}{s:ChangeSpec}(dj:s.vars= [])(hs:∀ds:List (DataW H),ds.length=f.params.toList.length->s.fn H ds={results:=[.lit (.bool true)],args:=ds})
  {ps:List PTy} (ct:WuV P T f.params.toList ps=true) {tb:TypeId} (gF:f.resultTypes= #[tb]) (u5:P.underlying tb=some .bool) {run:Nat->We2 ps->Option (WfH ps×WgG [.v .bool false])}
  (jL:∀N,Good P k (Sig.of ps [.v .bool false] (run N))) (hβ:Bulk β) {ok:List (DataW H)->Prop} {M:Nat->Prop} (pP:∀ds m,ok ds->m<=(ds.map β).sum->M m)
  (ti:∀d:We2 ps,Wn3 ps d->M (Wf2 ps d)->∃N o,run N d=some (o,(true,()))) {apart fresh fi again:Bool}
  (W:World) (base:Nat) (args:Array Value) (ds gs:List (DataW H)) (before:List MemPlace)
  (fK:∀(j:Nat) t v,f.params[j]?=some t->args[j]?=some v->Value.okWide P W .any base t v)
  (hW:DataW.Whole enc P f.params.toList s.vars apart W args.toList ds gs before) (hk:ok ds):
  Calls P k args W λe W'=>∃v,e= .returned v/\s.post enc P f apart fresh fi again W args v W':=by
 have hW':=hW;have hlt:=hW.lt;obtain⟨p,q,hA,hV,u6,u4,aV⟩:=hW;rw[dj]at hV;obtain⟨xr,hq⟩:=trodVars_none hV;subst xr hq;rw[Xcw]at u6;subst u6;obtain⟨d,h1,h2,h3⟩:=WmP (w:=W) hT hβ f.params.toList ps args.toList ds before ct hA (λj t v hj hv=>⟨base,fK j t v (by simpa using hj) (by simpa using hv)⟩);obtain⟨N,o,ho⟩:=ti d h2 (pP ds _ hk h3);have hc:=jL N d (o,(true,())) ho (Wiy W) W args.toList [] [] h1 List.Pairwise.nil (by simp) (λb o v hv=>hv);have hargs:args.toList.toArray=args:=by simp
 rw[hargs]at hc;refine hc.mono λe W' ⟨rv,kf,ms,cE,G',he,ha⟩=>?_;have hb:Below W.heap.size W W':=⟨ha.le.os,ha.le.tape,ha.le.output,ha.le.size,λb hb=>ha.le.whole b hb (λo ⟨q,hq,_⟩=>by simp at hq)⟩;obtain⟨v,vs',n1,n2,e1,e2,e3,e4⟩:=ha.res;obtain⟨e5,_⟩:=e4;subst e5;have hv:v= .bool true:=by
  unfold WiE at e3;simp only[Xbl,WaE]at e3;have:=e3.2;simpa [Enc]using this
 subst hv;have ik:Wih rv= .bool true:=by rw[e1];rfl
 rw[ik]at he;refine⟨.bool true,he,?_⟩;have hlen:=Wl5 _ _ _ _ hA;have tj:=hs (ds++ []) (by rw[Xcw];exact hlen);refine WsU (pa:=before) (pv:=[]) hW' ?_ ?_ ?_ (by simp) (hb.frame _) (λa ha=>hb.frozen ha) (ok_one gF rfl (okWide_bool_mk u5 _))
 .intro b sp hd;rw[tj,gF];exact trodAll_cons_mk (shut_bool u5 _) trodAll_mk0
 .intro sp iS;rw[tj,Xcw];exact Wml ij hb _ _ _ _ _ ct hA hlt iS
 .intro sp iS;rw[tj,dj];rfl
end
end Go.Sx
namespace Go.Sx
set_option linter.unusedVariables false
def sortInts(xs:List Int):List Int:=xs.mergeSort λx y=>decide (x<=y)
def Zq2(N:Nat)(xs:List Int):Option ((List Int×Unit)×Unit):=bif decide (xs.length<4611686018427387904)then some ((sortInts xs,()),())else none
theorem sortInt_some{N:Nat}{xs:List Int}{o:(List Int×Unit)×Unit}(h:Zq2 N xs=some o):xs.length<4611686018427387904/\o=((sortInts xs,()),()):=by
 unfold Zq2 at h;by_cases h':xs.length<4611686018427387904
 .rw[show decide (xs.length<4611686018427387904)=true by simpa using h']at h;simp only[We]at h;injection h with h;exact⟨h',h.symm⟩
 .rw[show decide (xs.length<4611686018427387904)=false by simpa using h']at h;cases h
end Go.Sx
namespace Go.Sx
set_option linter.unusedVariables false
def WkV{α:Type}(r:α->α->Bool):List α->Bool
 | []=>true
 |x::l=>l.all (r x)&&WkV r l
def lessBy{α:Type}(cf:α->α->Int)(x y:α):Bool:=decide (cf x y<0)
def apart{α:Type}(cf:α->α->Int)(x y:α):Bool:=lessBy cf x y||lessBy cf y x
def sortBy{α:Type}(cf:α->α->Int)(xs:List α):List α:=xs.mergeSort λx y=>!lessBy cf y x
def Zmi{α:Type}(rng:α->Bool)(cf:α->α->Int)(N:Nat)(xs:List α):Option ((List α×Unit)×Unit):=
 bif xs.all rng&&(WkV (apart cf) xs&&decide (xs.length<4611686018427387904))then some ((sortBy cf xs,()),())else none
structure SwoOn{α:Type}(rng:α->Bool)(cf:α->α->Int):Prop where
 irr:∀x,rng x=true->¬cf x x<0
 tr:∀x y z,rng x=true->rng y=true->rng z=true->cf x y<0->cf y z<0->cf x z<0
 nt:∀x y z,rng x=true->rng y=true->rng z=true->¬cf x y<0->¬cf y z<0->¬cf x z<0
theorem sortBy_some{α:Type}{rng:α->Bool}{cf:α->α->Int}{N:Nat}{xs:List α}{o:(List α×Unit)×Unit}(h:Zmi rng cf N xs=some o):
  (∀x∈xs,rng x=true)/\WkV (apart cf) xs=true/\xs.length<4611686018427387904/\o=((sortBy cf xs,()),()):=by
 unfold Zmi at h;cases hb:xs.all rng&&(WkV (apart cf) xs&&decide (xs.length<4611686018427387904))
 .rw[hb]at h;cases h
 .rw[hb]at h;simp only[We]at h;injection h with h;simp only[Xi,Wh]at hb;exact⟨Xai.1 hb.1,hb.2.1,hb.2.2,h.symm⟩
theorem pairs_get{α:Type}{r:α->α->Bool}:∀{l:List α},WkV r l=true->∀(i j:Nat) (hi:i<l.length) (hj:j<l.length),i<j->r l[i] l[j]=true
 | [],_,i,_,hi,_,_=>by simp at hi
 |x::l,h,0,j+1,hi,hj,hij=>by
  simp only[WkV,Xi]at h;exact Xai.1 h.1 _ (List.getElem_mem _)
 |x::l,h,i+1,j+1,hi,hj,hij=>by
  simp only[WkV,Xi]at h;simpa using pairs_get h.2 i j (by simpa using hi) (by simpa using hj) (by omega)
def Wsb(k:Int):Bool:=decide (-1000000000<=k)&&decide (k<=1000000000)
def Wva(a:Int×Int×Int):Bool:=Wsb a.1
def cfE(a b:Int×Int×Int):Int:=a.1-b.1
def WvQ(a:Int×Int×List (Int×Int)):Bool:=Wsb a.1
def cfW(a b:Int×Int×List (Int×Int)):Int:=a.1-b.1
def WuQ(a:Int×Int×Int):Bool:=Wsb a.1&&Wsb a.2.1
def cfH(a b:Int×Int×Int):Int:=bif a.2.1==b.2.1 then a.1-b.1 else a.2.1-b.2.1
theorem Wef{k:Int}(h:Wsb k=true):-1000000000<=k/\k<=1000000000:=by unfold Wsb at h;simpa using h
theorem Wwm:SwoOn Wva cfE:=⟨λx _=>by unfold cfE;omega,λx y z _ _ _=>by unfold cfE;omega,λx y z _ _ _=>by unfold cfE;omega⟩
theorem Wwk:SwoOn WvQ cfW:=⟨λx _=>by unfold cfW;omega,λx y z _ _ _=>by unfold cfW;omega,λx y z _ _ _=>by unfold cfW;omega⟩
theorem Wb9{a b:Int×Int×Int}:cfH a b<0↔(a.2.1<b.2.1\/(a.2.1=b.2.1/\a.1<b.1)):=by
 unfold cfH;by_cases h:a.2.1=b.2.1
 .have:(a.2.1==b.2.1)=true:=by simpa using h
  rw[this];simp only[We];omega
 .have:(a.2.1==b.2.1)=false:=by simpa using h
  rw[this];simp only[Wc];omega
theorem Wvt{a b:Int×Int×Int}(h:(a.2.1 !=b.2.1)=false):a.1-b.1=cfH a b:=by
 have h:a.2.1=b.2.1:=bne_eq_false_iff_eq.1 h;unfold cfH;rw[beq_iff_eq.2 h];rfl
theorem Wu7{a b:Int×Int×Int}(h:(a.2.1 !=b.2.1)=true):a.2.1-b.2.1=cfH a b:=by
 have h:a.2.1≠b.2.1:=bne_iff_ne.1 h;unfold cfH;rw[beq_eq_false_iff_ne.2 h];rfl
theorem Wwj:SwoOn WuQ cfH:=⟨λx _=>by rw[Wb9];omega,λx y z _ _ _=>by rw[Wb9,Wb9,Wb9];omega,λx y z _ _ _=>by rw[Wb9,Wb9,Wb9];omega⟩
end Go.Sx
