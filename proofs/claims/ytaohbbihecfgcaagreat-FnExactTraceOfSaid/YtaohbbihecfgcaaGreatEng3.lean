/- The abstract machine, part 3: a reflective interpreter of the program's code over data, with its soundness over the model. -/
import Derived.Test.YtaohbbihecfgcaaGreatEng2
open List renaming mem_cons→Xr,mem_cons_of_mem→Xf,mem_cons_self→Xj,length_append→Xw,getD_eq_getElem?_getD→Xbo,getElem?_append→Xau,getElem?_cons_zero→Xdg,getElem?_eq_none→Xcn,all_eq_true→Xae,append_of_mem→Xdv,mem_append→Xn,range→Xcz,mem_filter→Xax,mem_range→Xdy,filter_cons→Xbg,mem_map→Xv,eq_nil_of_length_eq_zero→Xz,eq_nil_iff_forall_not_mem→Xek,nodup_nil→Xdd,mem_of_getElem?→Xas,nodup_cons→Xac,nil_append→Xaq,cons_append→Xbb,length_filter_le→Xef,length_range→Xfc,mem_append_left→Xm,mem_append_right→Xh,mem_flatMap→Xfo,map_cons→Xaf,map_map→Xde,map_congr_left→Xen,append_nil→Xbp,nodup_append→Xad,filter_append→Xcm,prefix_append→Xgj,map_append→Xy,map_nil→Xce,mem_erase_of_ne→Xgf,length_erase_of_mem→Xfj,length_pos_of_mem→Xfx,length_cons→Xq,getElem?_cons_succ→Xdz,getElem?_eq_some_iff→Xaa,getElem?_append_right→Xcd,getElem?_tail→Xca,mapM_cons→Xep,pairwise_singleton→Xbj,mem_singleton→Xag,take_of_length_le→Xdj,getElem?_eq_getElem→Xs,drop_zero→Xak,tail_cons→Xdx,getElem?_map→Xan,length→Xb,sum_cons→Xcw
open Nat renaming sub_self→Xcu,blt_eq→Xgq,le_refl→Xl,zero_add→Xat,zero_le→Xcf,sub_zero→Xdf,beq→Xbk,le_trans→Xbe,add_zero→Xbd,add_sub_cancel_left→Xcb,le_of_ble_eq_true→Xgc,add_mul→Xcp,zero_mul→Xem
open Option renaming getD_some→Xdn,bind_some→Xd,bind_eq_some_iff→Xbt,map_eq_some_iff→Xu
open Bool renaming and_eq_true→Xi,not_eq_true'→Xao,false_eq_true→Xbc,or_eq_true→Xcr
open Array renaming getD_eq_getD_getElem?→Xck,getElem?_setIfInBounds→Xes,getElem?_eq_getElem→Xda,getElem?_eq_some_iff→Xcy,replicate→Xdt
namespace Go.Sx
set_option linter.unusedVariables false
set_option linter.unusedSimpArgs false
theorem WoH{x y:Nat}{l:List Nat}:y∈WuE x l↔y=x\/y∈l:=by
 unfold WuE;cases h:Wb4 x l with
 |true=>
  have:=(WaF x l).1 h;simp only[Wa];exact⟨.inr,λh=>h.elim (λe=>e▸this) id⟩
 |false=>simp
theorem WjT{y:Nat}:∀(m l:List Nat),y∈WlI m l↔y∈m\/y∈l
 | [],l=>by simp[WlI]
 |x::m,l=>by
  rw[WlI,WjT m,WoH,Xr];constructor
  .rintro(h|h|h)
   .exact .inl (.inr h)
   .exact .inl (.inl h)
   .exact .inr h
  .rintro((h|h)|h)
   .exact .inr (.inl h)
   .exact .inl h
   .exact .inr (.inr h)
theorem Wit{acc:List (List Nat)}{y:Nat}:∀(ds l:List Nat),y∈Wkv acc ds l↔(∃j∈ds,y=j\/y∈acc.getD j [])\/y∈l
 | [],l=>by simp[Wkv]
 |j::ds,l=>by
  rw[Wkv,Wit ds,WjT,WoH];constructor
  .rintro(⟨k,hk,h⟩|h|h|h)
   .exact .inl ⟨k,Xf _ hk,h⟩
   .exact .inl ⟨j,Xj ..,.inr h⟩
   .exact .inl ⟨j,Xj ..,.inl h⟩
   .exact .inr h
  .rintro(⟨k,hk,h⟩|h)
   .rcases Xr.1 hk with rfl|hk
    .exact .inr (h.elim (λh=>.inr (.inl h)) .inl)
    .exact .inl ⟨k,hk,h⟩
   .exact .inr (.inr (.inr h))
def WlJ(ops:Array Oper)(S:Nat->Prop):Prop:=∀i o,ops[i]?=some o->S i->∀d∈Wmc o,S d
theorem Wjr{ops:Array Oper}{S:Nat->Prop}(hS:WlJ ops S):∀(l:List Oper) (acc:List (List Nat)),(∀(k:Nat) (o:Oper),l[k]?=some o->ops[acc.length+k]?=some o)->
  (∀i,S i->∀j∈acc.getD i [],S j)->∀i,S i->∀j∈(Wei l acc).getD i [],S j
 | [],acc,_,h=>h
 |o::l,acc,hl,h=>by
  refine Wjr hS l _ (λk o' hk=>?_) (λi hi j hj=>?_)
  .have:=hl (k+1) o' (by simpa using hk);rw[Xw];have e:acc.length+(k+1)=acc.length+ [Wkv acc (Wmc o) []].length+k:=by simp;omega
   rw[←e];exact this
  .rw[Xbo,Xau]at hj;split at hj
   .exact h i hi j (by rw[Xbo];exact hj)
   .rename_i hlt;by_cases he:i=acc.length
    .subst he;simp only[Xcu,Xdg,Xdn]at hj;rcases(Wit _ _).1 hj with⟨k,hk,iS⟩|hj
     .have hSk:=hS _ o (hl 0 o (by simp)) hi k hk;rcases iS with rfl|iS
      .exact hSk
      .exact h k hSk j iS
     .cases hj
    .have:[Wkv acc (Wmc o) []][i-acc.length]?=none:=Xcn (by simp;omega);rw[this]at hj;cases hj
theorem WoX{ops:Array Oper}{S:Nat->Prop}(hS:WlJ ops S){i j:Nat}(h:WcN (Wei ops.toList []) j i=true)(hi:S i):S j:=
 Wjr hS ops.toList [] (λk o hk=>by simpa using hk) (λi _ j hj=>by simp at hj) i hi j ((WaF _ _).1 h)
theorem WjN{ops:Array Oper}:∀(l:List Oper) (n:Nat),WrV l n=true->∀(k:Nat) (o:Oper),l[k]?=some o->∀d∈Wmc o,d<n+k
 | [],_,_,k,o,hk=>by simp at hk
 |o'::l,n,h,k,o,hk=>by
  simp only[WrV,Xi,Xae]at h;cases k with
  |zero=>
   simp at hk;subst hk;intro e he;have:=h.1 e he;rw[Xgq]at this;omega
  |succ k=>
   have:=WjN (ops:=ops) l (n+1) h.2 k o (by simpa using hk);intro e he;have:=this e he;omega
structure Order(ops:Array Oper)(l:List Nat):Prop where
 nodup:l.Nodup
 all:∀i,i<ops.size↔i∈l
 dep:∀p i s,l=p++i::s->∀o,ops[i]?=some o->∀d∈Wmc o,d∈p
theorem Order.closed{ops:Array Oper}{l:List Nat}(h:Order ops l){p s:List Nat}(e:l=p++s):WlJ ops (· ∈p):=λi o ho hi d hd=>by
 obtain⟨a,b,rfl⟩:=Xdv hi;have:=h.dep a i (b++s) (by rw[e];simp) o ho d hd;simp[this]
theorem Order.bef{ops:Array Oper}{l:List Nat}(h:Order ops l){p s:List Nat}{i j:Nat}(e:l=p++s)(hb:WcN (Wei ops.toList []) j i=true)(hi:i∈p):j∈p:=
 WoX (h.closed e) hb hi
theorem Order.bef'{ops:Array Oper}{l:List Nat}(h:Order ops l){p s:List Nat}{i j:Nat}(e:l=p++i::s)(hb:WcN (Wei ops.toList []) j i=true)(hne:j≠i):j∈p:=by
 have:=h.bef (p:=p++ [i]) (s:=s) (by rw[e];simp) hb (by simp);rcases Xn.1 this with h|h
 .exact h
 .simp at h;exact WC h hne
def unl(ops:Array Oper)(listed:Array Bool):List Nat:=(Xcz ops.size).filter λi=>!listed.getD i true
theorem Wfj{ops:Array Oper}{listed:Array Bool}{i:Nat}:i∈unl ops listed↔i<ops.size/\listed.getD i true=false:=by
 unfold unl;rw[Xax,Xdy];simp
theorem Wf9{α:Type}{p q:α->Bool}:∀(l:List α),(∀x∈l,q x=true->p x=true)->(∃x∈l,p x=true/\q x=false)->(l.filter q).length<(l.filter p).length
 | [],_,⟨x,hx,_⟩=>by cases hx
 |x::l,h,⟨y,hy,hp,hq⟩=>by
  have hle:∀(l:List α),(∀x∈l,q x=true->p x=true)->(l.filter q).length<=(l.filter p).length:=by
   intro l
   induction l with
   |nil=>intro _;simp
   |cons x l ih=>
    intro h;have:=ih λx hx=>h x (Xf _ hx);have hx:=h x (Xj ..);rw[Xbg,Xbg];cases hqx:q x with
    |true=>rw[hx hqx];simpa using this
    |false=>cases p x<;>simp<;>omega
  rw[Xbg,Xbg];rcases Xr.1 hy with rfl|hy
  .rw[hp,hq];have:=hle l λx hx=>h x (Xf _ hx);simp;omega
  .have:=Wf9 l (λx hx=>h x (Xf _ hx)) ⟨y,hy,hp,hq⟩;have hx:=h x (Xj ..);cases hqx:q x with
   |true=>rw[hx hqx];simpa using this
   |false=>cases p x<;>simp<;>omega
theorem WkC{listed:Array Bool}{i j:Nat}:(listed.setIfInBounds i true).getD j true=(if i=j then true else listed.getD j true):=by
 simp only[Xck,Xes];split
 .split<;>rfl
 .rfl
theorem Wqa{listed:Array Bool}{i j:Nat}(hi:i<listed.size):(listed.setIfInBounds i true).getD j false=(if i=j then true else listed.getD j false):=by
 simp only[Xck,Xes];split
 .simp[hi]
 .rfl
theorem WtE{listed:Array Bool}{i:Nat}(hi:i<listed.size):listed.getD i true=listed.getD i false:=by
 simp[hi]
theorem WoN{o:Oper}{e:Edge}(he:e∈o.after)(hb:Region.binds .any e=true):e.on∈Wmc o:=
 Xv.2 ⟨e,Xax.2 ⟨by simpa using he,hb⟩,rfl⟩
theorem Wor{ops:Array Oper}(hb:∀(k:Nat) (o:Oper),ops[k]?=some o->∀d∈Wmc o,d<k):∀(fuel t:Nat) (listed:Array Bool),listed.size=ops.size->(unl ops listed).length<=fuel->
  (Region.linearise.go .any ops fuel t listed []).Nodup/\
  (∀i,i∈Region.linearise.go .any ops fuel t listed []↔i∈unl ops listed)/\
  (∀p i s,Region.linearise.go .any ops fuel t listed []=p++i::s->∀o,ops[i]?=some o->∀e∈o.after,Region.binds .any e=true->listed.getD e.on false=true\/e.on∈p)
 |0,t,listed,hs,hlen=>by
  have:unl ops listed= []:=Xz (by omega);simp only[Region.linearise.go,List.reverse_nil,this];exact⟨by simp,by simp,λp i s h=>by simp at h⟩
 |fuel+1,t,listed,hs,hlen=>by
  have ly:Region.linearise.go .any ops (fuel+1) t listed []=match(Region.ready .any ops listed)[t%(Region.ready .any ops listed).length]? with
   |some i=>Region.linearise.go .any ops fuel (t/(Region.ready .any ops listed).length) (listed.setIfInBounds i true) [i]
   |none=>[]:=rfl
  rw[ly];cases hi:(Region.ready .any ops listed)[t%(Region.ready .any ops listed).length]? with
  |none=>
   have bu:Region.ready .any ops listed= []:=by
    cases hr:Region.ready .any ops listed with
    |nil=>rfl
    |cons x xs=>
     rw[hr]at hi;have hlt:t%(x::xs).length<(x::xs).length:=Nat.mod_lt _ (by simp);simp at hi;simp at hlt;omega
   have hu:unl ops listed= []:=by
    have key:∀n i,i<=n->i∉unl ops listed:=by
     intro n
     induction n with
     |zero=>
      intro i eK hm;obtain⟨h1,h2⟩:=Wfj.1 hm;have:i∈Region.ready .any ops listed:=by
       rw[mem_ready];refine⟨h2,ops[i],Xda h1,λe he kn=>?_⟩;have:=hb i _ (Xda h1) e.on (WoN he kn);omega
      rw[bu]at this;cases this
     |succ n ih=>
      intro i eK hm;obtain⟨h1,h2⟩:=Wfj.1 hm;have:i∈Region.ready .any ops listed:=by
       rw[mem_ready];refine⟨h2,ops[i],Xda h1,λe he kn=>?_⟩;have hlt:=hb i _ (Xda h1) e.on (WoN he kn);have sU:=ih e.on (by omega);have h3:e.on<ops.size:=by omega
       cases h4:listed.getD e.on true with
       |false=>exact WC (Wfj.2 ⟨h3,h4⟩) sU
       |true=>rw[←WtE (by omega)];exact h4
      rw[bu]at this;cases this
    exact Xek.2 λi=>key i i (Xl _)
   rw[hu];exact⟨Xdd,λ_=>Iff.rfl,λp i s h=>by simp at h⟩
  |some i=>
   have sW:=Xas hi;obtain⟨h1,o,ho,h3⟩:=mem_ready.1 sW;have m8:i<ops.size:=(Xcy.1 ho).1;have sX:i∈unl ops listed:=Wfj.2 ⟨m8,h1⟩;simp only[];rw[linearise_go_acc,List.reverse_singleton,List.singleton_append];have jq:(unl ops (listed.setIfInBounds i true)).length<=fuel:=by
    have:(unl ops (listed.setIfInBounds i true)).length<(unl ops listed).length:=by
     refine Wf9 _ (λx _ hx=>?_) ⟨i,Xdy.2 m8,by simpa using h1,by rw[WkC];simp⟩;rw[WkC]at hx;split at hx
     .simp at hx
     .exact hx
    omega
   obtain⟨g1,g2,g3⟩:=Wor hb fuel (t/(Region.ready .any ops listed).length) (listed.setIfInBounds i true) (by simp[hs]) jq;have hmem:∀j,j∈unl ops (listed.setIfInBounds i true)↔j∈unl ops listed/\j≠i:=λj=>by
    rw[Wfj,Wfj,WkC];constructor
    .rintro⟨q1,q2⟩;split at q2
     .cases q2
     .rename_i hne;exact⟨⟨q1,q2⟩,λe=>hne e.symm⟩
    .rintro⟨⟨q1,q2⟩,hne⟩;exact⟨q1,by rw[Wb (λe=>hne e.symm)];exact q2⟩
   refine⟨Xac.2 ⟨λhm=>?_,g1⟩,λj=>?_,λp j s e o' gR ed mm kn=>?_⟩
   .exact((hmem i).1 ((g2 i).1 hm)).2 rfl
   .rw[Xr,g2,hmem];constructor
    .rintro(rfl|h)
     .exact sX
     .exact h.1
    .intro h;by_cases he:j=i
     .exact .inl he
     .exact .inr ⟨h,he⟩
   .cases p with
    |nil=>
     simp only[Xaq,List.cons.injEq]at e;obtain⟨rfl,_⟩:=e;rw[ho]at gR;injection gR with gR;subst gR;exact .inl (h3 ed mm kn)
    |cons x p=>
     simp only[Xbb,List.cons.injEq]at e;obtain⟨rfl,e⟩:=e;rcases g3 p j s e o' gR ed mm kn with h|h
     .rw[Wqa (by omega)]at h;split at h
      .rename_i he;exact .inr (by rw[he];simp)
      .exact .inl h
     .exact .inr (Xf _ h)
theorem Wim{ops:Array Oper}{t:Nat}(hb:∀(k:Nat) (o:Oper),ops[k]?=some o->∀d∈Wmc o,d<k):Order ops (Region.linearise .any ops t):=by
 have hu:∀i,i∈unl ops (Xdt ops.size false)↔i<ops.size:=λi=>by
  rw[Wfj];constructor
  .exactλh=>h.1
  .exactλh=>⟨h,by simp[h]⟩
 obtain⟨h1,h2,h3⟩:=Wor hb ops.size t (Xdt ops.size false) (by simp) (by
  have:=Xef (λi=>!(Xdt ops.size false).getD i true) (Xcz ops.size);rw[Xfc]at this;exact this)
 refine⟨h1,λi=>by unfold Region.linearise;rw[h2,hu],λp i s e o ho d hd=>?_⟩;unfold Wmc at hd;obtain⟨ed,mm,rfl⟩:=Xv.1 hd;obtain⟨mm,kn⟩:=Xax.1 mm;rcases h3 p i s e o ho ed (by simpa using mm) kn with h|h
 .exfalso;rw[Xck,Array.getElem?_replicate]at h;split at h<;>simp at h
 .exact h
theorem WiY{ops:Array Oper}{t:Nat}(hb:∀(k:Nat) (o:Oper),ops[k]?=some o->∀d∈Wmc o,d<k):Order ops (Region.schedule true ops t):=by
 unfold Region.schedule;rw[Wf (by simp)];exact Wim hb
end Go.Sx
namespace Go.Sx
set_option linter.unusedVariables false
set_option linter.unusedSimpArgs false
def Wq3(n:Nat)(kept:List Nat)(o:Oper):Bool:=match o.dst with
 |some d=>Nat.blt d n&& !Wb4 d kept
 |none=>true
def Wdw(n:Nat)(kept:List Nat):Code->Bool
 | .region _ ops _=>ops.toList.all (Wq3 n kept)
 | .seq a b=>Wdw n kept a&&Wdw n kept b
 | .cond _ x y=>Wdw n kept x&&Wdw n kept y
 | .block _ c=>Wdw n kept c
 | .loop c=>Wdw n kept c
 |_=>true
theorem WnE{nt:Slots}{n:Nat}{kept:List Nat}(hn:nt.n=n)(hk:∀p∈nt.kept,p.1∈kept){o:Oper}(h:Wq3 n kept o=true):∀d,o.dst=some d->nt.Ok d:=λd hd=>by
 unfold Wq3 at h;rw[hd]at h;simp only[Xi,Xao]at h;refine⟨by have h1:=h.1;rw[Xgq]at h1;rw[hn];exact h1,λp hp e=>?_⟩;have:=hk p hp;rw[e]at this;rw[(WaF d kept).2 this]at h;exact WC h.2 (by simp)
def Ex.to:Ex->Exit
 | .normal=>.normal
 | .exit id=>.exit id
 | .ret=>.ret
section
variable{w0:World}{F:CS}{nt:Slots}{G0:GH}{P:Program}{T:Tab}{Γ:Ctx}{A:List (Nat×An)}{R:Type}{r:R}
def Wqy(w0:World)(F:CS)(nt:Slots)(G0:GH)(k:St->Option R)(r:R)(K:Act->World->Prop):Prop:=
 ∀st a w G ν,Rel w0 F nt G0 G ν st a w->k st=some r->K a w
theorem Wny{G:GH}{ν:Nat->Nu}{st:St}{a:Act}{w:World}(hr:Rel w0 F nt G0 G ν st a w){ops:Array Oper}{j:Nat}{t:Tmp}(ht:(ops[j]?).bind (·.dst)=some t){b:Bool}(hb:(Wq st.env t).bind asB=some b):
  a.tmps[t]?=some (.bool b)/\yielded ops a.tmps j=some b:=by
 cases hl:Wq st.env t with
 |none=>simp[hl]at hb
 |some x=>
  simp only[hl,Xd]at hb;obtain⟨v,hv,hx⟩:=hr.env t x hl;have:=Wnb x v b hx hb;subst this;refine⟨hv,?_⟩;unfold yielded;rw[ht];simp[hv]
theorem Ws8(hT:Waf P T)(hΓ:WeY P Γ){ops:Array Oper}{o:Oper}(hd:∀d,o.dst=some d->nt.Ok d){k:St->Option R}{K:Act->World->Prop}{Q:Exit->Act->World->Prop}(hK:Wqy w0 F nt G0 k r K)
  {st:St} {a:Act} {w:World} {G:GH} {ν:Nat->Nu} (hr:Rel w0 F nt G0 G ν st a w) (h:rxg T Γ A ops o st k=some r):
  if Region.wanted o (yielded ops a.tmps)then o.wp P a w K Q else K (a.put o.dst undef) w:=by
 unfold rxg at h;have gS:∀af,Rel w0 F nt G0 G ν af a w->Rel w0 F nt G0 G ν (af.put o.dst (.tup [])) (a.put o.dst undef) w:=λaf bP=>
  bP.put hd ⟨[],rfl,rfl,λj x v hj=>by simp at hj⟩
 have ee:∀b:Bool,AValRel G ν st.nx (one .bool b) (.bool b):=λb=>WM (t:=.bool) (d:=b) (v:=.bool b) rfl;split at h
 .rename_i hg;simp only[Region.wanted,hg,W2];exact WqZ hT hΓ hr hd h (λaf a' w' G' ν' bP hk=>hK _ _ _ _ _ bP hk)
 .rename_i j want hg;split at h
  .rename_i t ht;split at h
   .rename_i hl;obtain⟨v,hv,hx⟩:=hr.env t _ hl;have lw:v=undef:=by
     obtain⟨vs,h1,h2,_⟩:=hx;rw[h1,Xz h2];rfl
    subst lw;have hy:yielded ops a.tmps j=none:=by
     unfold yielded;rw[ht];simp only[Xd,hv];rfl
    simp only[Region.wanted,hg,hy];rw[Wb (by simp)];exact hK _ _ _ _ _ (gS _ hr) h
   .rename_i x _ hl;split at h
    .rename_i b hb;obtain⟨hv,hy⟩:=Wny hr ht (b:=b) (by rw[hl];exact hb);simp only[Region.wanted,hg,hy];have mn:=hr.rebind hv (ee b);cases b with
     |true=>
      simp only[Wa]at h;cases want with
      |true=>
       simp only[W2]at h;simp only[beq_self_eq_true,W2];exact WqZ hT hΓ mn hd h (λaf a' w' G' ν' bP hk=>hK _ _ _ _ _ bP hk)
      |false=>
       simp only[Xbc,Wal]at h;rw[Wb (by simp)];exact hK _ _ _ _ _ (gS _ mn) h
     |false=>
      simp only[Wc]at h;cases want with
      |true=>
       simp only[W2]at h;rw[Wb (by simp)];exact hK _ _ _ _ _ (gS _ mn) h
      |false=>
       simp only[Xbc,Wal]at h;simp only[beq_self_eq_true,W2];exact WqZ hT hΓ mn hd h (λaf a' w' G' ν' bP hk=>hK _ _ _ _ _ bP hk)
    .cases h
   .cases h
  .cases h
theorem Wtb(hT:Waf P T)(hΓ:WeY P Γ){ops:Array Oper}:∀(l:List Oper),(∀o∈l,∀d,o.dst=some d->nt.Ok d)->∀{k:St->Option R} {Q:Exit->Act->World->Prop},Wqy w0 F nt G0 k r (Q .normal)->
  Wqy w0 F nt G0 (λst=>rxs T Γ A ops l st k) r (wpList P ops Q l)
 | [],_,k,Q,hK=>λst a w G ν hr h=>hK st a w G ν hr h
 |o::l,hd,k,Q,hK=>λst a w G ν hr h=>by
  have ih:=Wtb (ops:=ops) hT hΓ l (λo ho=>hd o (Xf _ ho)) hK;have h:rxg T Γ A ops o st (λaf=>match opG A o af with
   |some (c,co)=>bif c then rxs T Γ A ops l co k else none
   |none=>none)=some r:=h
  have sY:Wqy w0 F nt G0 (λaf=>match opG A o af with
   |some (c,co)=>bif c then rxs T Γ A ops l co k else none
   |none=>none) r (wpList P ops Q l):=λdF a1 w1 G1 ν1 ko h1=>by
   have h1:(match opG A o dF with
    |some (c,co)=>bif c then rxs T Γ A ops l co k else none
    |none=>none)=some r:=h1
   split at h1
   .rename_i c ak hg;obtain⟨rfl,h1⟩:=WaC h1;have:∃G' ν',Rel w0 F nt G0 G' ν' ak a1 w1:=by
     unfold opG at hg;split at hg
     .split at hg
      .injection hg with hg;injection hg with _ hg;subst hg;exact⟨G1,ν1,ko⟩
      .exact WlZ ko hg
     .injection hg with hg;injection hg with _ hg;subst hg;exact⟨G1,ν1,ko⟩
     .injection hg with hg;injection hg with _ hg;subst hg;exact⟨G1,ν1,ko⟩
     .injection hg with hg;injection hg with _ hg;subst hg;exact⟨G1,ν1,ko⟩
     .injection hg with hg;injection hg with _ hg;subst hg;exact⟨G1,ν1,ko⟩
    obtain⟨G2,ν2,iB⟩:=this;exact ih ak a1 w1 G2 ν2 iB h1
   .cases h1
  have:=Ws8 hT hΓ (hd o (Xj ..)) (Q:=Q) sY hr h;unfold wpList;split
  .rename_i hw;rw[Wf hw]at this;exact .inl this
  .rename_i hw;rw[Wb hw]at this;exact this
end
end Go.Sx
namespace Go.Sx
set_option linter.unusedVariables false
set_option linter.unusedSimpArgs false
section
variable{T:Tab}{Γ:Ctx}{A:List (Nat×An)}{ops:Array Oper}
theorem WkF{R:Type}(o:Oper)(st:St)(k:St->Option R):rx1 T Γ A o st k=(rx1 T Γ A o st some).bind k:=by
 unfold rx1;rw[WfX,WfX o st (λx objs nx=>some _),Option.bind_assoc];rfl
theorem Wsc{R:Type}(o:Oper)(st:St)(k:St->Option R):rxg T Γ A ops o st k=(rxg T Γ A ops o st some).bind k:=by
 unfold rxg;cases o.guard with
 |none=>exact WkF o st k
 |some g=>
  obtain⟨j,want⟩:=g;simp only;cases(ops[j]?).bind (·.dst)with
  |none=>rfl
  |some t=>
   simp only;cases Wq st.env t with
   |none=>rfl
   |some x=>
    have main:(match asB x with
      |some b=>bif b
       then(if want then rx1 T Γ A o (st.put (some t) (one .bool true)) k else k ((st.put (some t) (one .bool true)).put o.dst (.tup [])))
       else(if want then k ((st.put (some t) (one .bool false)).put o.dst (.tup []))else rx1 T Γ A o (st.put (some t) (one .bool false)) k)
      |none=>none)=(match asB x with
      |some b=>bif b
       then(if want then rx1 T Γ A o (st.put (some t) (one .bool true)) some else some ((st.put (some t) (one .bool true)).put o.dst (.tup [])))
       else(if want then some ((st.put (some t) (one .bool false)).put o.dst (.tup []))else rx1 T Γ A o (st.put (some t) (one .bool false)) some)
      |none=>none).bind k:=by
     cases asB x with
     |none=>rfl
     |some b=>
      cases b<;>cases want
      .exact WkF _ _ _
      .rfl
      .rfl
      .exact WkF _ _ _
    cases x with
    |s y=>exact main
    |tup l=>
     cases l with
     |nil=>rfl
     |cons y l=>exact main
theorem WoE{R:Type}{o:Oper}{st:St}{k:St->Option R}{r:R}(h:rxg T Γ A ops o st k=some r):∃af,rxg T Γ A ops o st some=some af/\k af=some r:=by
 rw[Wsc]at h;exact Xbt.1 h
structure Eff(o:Oper)(v:AVal)(pre:W9)(aj:Nat)(st af:St):Prop where
 env:∀t,Wq af.env t=if o.dst=some t then some v else Wq st.env t
 objs:af.objs=pre++st.objs
 nx:af.nx=aj
theorem Wc0(st:St)(dst:Option Tmp)(x:AVal)(t:Nat):Wq (st.put dst x).env t=if dst=some t then some x else Wq st.env t:=by
 cases dst with
 |none=>simp[St.put]
 |some d=>
  simp only[St.put];rw[WG];by_cases h:d=t
  .subst h;simp
  .rw[Wb h,Wb (by simpa using h)]
theorem WeS{st ak:St}{x:Operand}(h:∀t∈WrJ x,Wq ak.env t=Wq st.env t):ev ak x=ev st x:=by
 cases x with
 |tmp t=>exact h t (by simp[WrJ])
 |_=>rfl
theorem WgH{st:St}{x:Operand}{v:AVal}:∀(l:List Operand),x∈l->ev st x=some v->∀id∈WaN v,id∈Wef st l
 | [],h,_,_,_=>by cases h
 |y::l,h,hv,id,bz=>by
  simp only[Wef];rcases Xr.1 h with rfl|h
  .rw[hv];exact Xm _ bz
  .split
   .exact Xh _ (WgH l h hv id bz)
   .exact WgH l h hv id bz
theorem Wge{st ak:St}:∀(l:List Operand),(∀x∈l,ev ak x=ev st x)->Wef ak l=Wef st l
 | [],_=>rfl
 |x::l,h=>by simp only[Wef,h x (Xj ..),Wge l λy hy=>h y (Xf _ hy)]
theorem WqQ{o:Oper}{st af ak:St}(h:rx1 T Γ A o st some=some af)(he:∀x∈W8 o.op,ev ak x=ev st x)
  (hm:WaI o=true->ak.objs=st.objs/\ak.nx=st.nx) (hf:WaI o=false->∀id∈WcJ o st,Wq ak.objs id=Wq st.objs id):
  ∃v pre aj,Eff o v pre aj st af/\(WaI o=false->pre= []/\aj=st.nx)/\
   ∃bJ,rx1 T Γ A o ak some=some bJ/\(WaI o=true->Eff o v pre aj ak bJ)/\(WaI o=false->Eff o v [] ak.nx ak bJ):=by
 unfold rx1 at*;rw[WfX]at h;obtain⟨⟨v,objs',aj⟩,h1,h2⟩:=Xbt.1 h;injection h2 with h2;subst h2;cases dX:WaI o with
 |true=>
  obtain⟨e1,e2⟩:=hm dX;obtain⟨pre,rfl⟩:=Wpz o st v objs' aj h1;refine⟨v,pre,aj,⟨λt=>Wc0 _ _ _ _,by cases o.dst<;>rfl,by cases o.dst<;>rfl⟩,by simp,?_⟩;have h3:rxe T Γ A o ak WcK=some (v,pre++st.objs,aj):=by
   obtain⟨pK,rz,nx2⟩:=ak;simp only at e1 e2;subst e1 e2;rw[WrP o (env:=pK) (st:=st) WcK he];exact h1
  refine⟨_,?_,λ_=>⟨λt=>Wc0 (⟨ak.env,pre++st.objs,aj⟩) o.dst v t,?_,?_⟩,by simp⟩
  .rw[WfX,h3];rfl
  .rw[e1];cases o.dst<;>rfl
  .cases o.dst<;>rfl
 |false=>
  rw[WlR dX]at h1;obtain⟨u,h3,h4⟩:=Xbt.1 h1;injection h4 with h4;have e1:u=v:=Wn (λp:Out=>p.1) h4;have e2:st.objs=objs':=Wn (λp:Out=>p.2.1) h4;have e3:st.nx=aj:=Wn (λp:Out=>p.2.2) h4;subst e1 e2 e3;refine⟨u,[],st.nx,⟨λt=>Wc0 _ _ _ _,by cases o.dst<;>rfl,by cases o.dst<;>rfl⟩,by simp,?_⟩;have h5:Ws9 T o ak=some u:=by
   rw[←h3];refine Wo0 dX he λsZ x hx v hv id bz=>hf dX id ?_;unfold WcJ;rw[sZ];exact WgH _ hx hv id bz
  refine⟨_,?_,by simp,λ_=>⟨λt=>Wc0 (⟨ak.env,ak.objs,ak.nx⟩) o.dst u t,?_,?_⟩⟩
  .rw[WfX,WlR dX,h5];rfl
  .cases o.dst<;>rfl
  .cases o.dst<;>rfl
theorem WtS{x:AVal}{b:Bool}(h:asB x=some b):x=one .bool b:=by
 unfold asB at h;split at h
 .injection h with h;subst h;rfl
 .cases h
theorem WdF{st:St}{t:Nat}{x:AVal}(h:Wq st.env t=some x)(t':Nat):Wq (st.put (some t) x).env t'=Wq st.env t':=by
 rw[Wc0];split
 .rename_i e;injection e with e;subst e;exact h.symm
 .rfl
theorem WdS(st:St)(d:Option Tmp)(x:AVal):(st.put d x).objs=st.objs:=by cases d<;>rfl
theorem WhD(st:St)(d:Option Tmp)(x:AVal):(st.put d x).nx=st.nx:=by cases d<;>rfl
theorem Wgj{o:Oper}{st ak:St}(h:∀x∈W8 o.op,ev ak x=ev st x):WcJ o ak=WcJ o st:=by
 unfold WcJ;rw[Wge _ h]
theorem Wqq{o:Oper}{st af ak:St}(h:rxg T Γ A ops o st some=some af)(he:∀t∈Wde ops o,Wq ak.env t=Wq st.env t)
  (hm:WaI o=true->ak.objs=st.objs/\ak.nx=st.nx) (hf:WaI o=false->∀id∈WcJ o st,Wq ak.objs id=Wq st.objs id):
  ∃v pre aj,Eff o v pre aj st af/\(WaI o=false->pre= []/\aj=st.nx)/\
   ∃bJ,rxg T Γ A ops o ak some=some bJ/\(WaI o=true->Eff o v pre aj ak bJ)/\(WaI o=false->Eff o v [] ak.nx ak bJ):=by
 have rD:∀x∈W8 o.op,ev ak x=ev st x:=λx hx=>WeS λt ht=>he t (by
  unfold Wde;exact Xm _ (Xfo.2 ⟨x,hx,ht⟩))
 unfold rxg at h⊢;cases hg:o.guard with
 |none=>
  rw[hg]at h;exact WqQ h rD hm hf
 |some g=>
  obtain⟨j,want⟩:=g;rw[hg]at h;simp only at h⊢;cases ht:(ops[j]?).bind (·.dst)with
  |none=>rw[ht]at h;cases h
  |some t=>
   rw[ht]at h;simp only at h⊢;have ig:Wq ak.env t=Wq st.env t:=he t (by
    unfold Wde;refine Xh _ ?_;rw[hg];simp only;rw[ht];simp)
   rw[ig];cases hx:Wq st.env t with
   |none=>rw[hx]at h;cases h
   |some x=>
    rw[hx]at h;have skip:∀(s s2:St) (s':St),some (s.put o.dst (.tup []))=some s'->(∀t,Wq s.env t=Wq st.env t)->s.objs=st.objs->s.nx=st.nx->(∀t,Wq s2.env t=Wq ak.env t)->s2.objs=ak.objs->s2.nx=ak.nx->
      ∃v pre aj,Eff o v pre aj st s'/\(WaI o=false->pre= []/\aj=st.nx)/\
       ∃bJ,some (s2.put o.dst (.tup []))=some bJ/\(WaI o=true->Eff o v pre aj ak bJ)/\(WaI o=false->Eff o v [] ak.nx ak bJ):=by
     intro s s2 s' hs a1 a2 a3 b1 b2 b3;injection hs with hs;subst hs;refine⟨.tup [],[],st.nx,⟨λt=>?_,by rw[WdS,a2];rfl,by rw[WhD,a3]⟩,λ_=>⟨rfl,rfl⟩,_,rfl,λdX=>⟨λt=>?_,by rw[WdS,b2];rfl,by rw[WhD,b3];exact(hm dX).2⟩,λ_=>⟨λt=>?_,by rw[WdS,b2];rfl,by rw[WhD,b3]⟩⟩
     .rw[Wc0,a1]
     .rw[Wc0,b1]
     .rw[Wc0,b1]
    have doit:∀b:Bool,x=one .bool b->rx1 T Γ A o (st.put (some t) (one .bool b)) some=some af->
      ∃v pre aj,Eff o v pre aj st af/\(WaI o=false->pre= []/\aj=st.nx)/\
       ∃bJ,rx1 T Γ A o (ak.put (some t) (one .bool b)) some=some bJ/\(WaI o=true->Eff o v pre aj ak bJ)/\(WaI o=false->Eff o v [] ak.nx ak bJ):=by
     intro b hb h1;subst hb;have l1:=WdF hx;have l2:=WdF (st:=ak) (t:=t) (x:=one .bool b) (by rw[ig];exact hx);have m9:∀x∈W8 o.op,ev (st.put (some t) (one .bool b)) x=ev st x:=λx hx=>WeS λt' _=>l1 t';have pL:∀x∈W8 o.op,ev (ak.put (some t) (one .bool b)) x=ev ak x:=λx hx=>WeS λt' _=>l2 t';obtain⟨v,pre,aj,e1,e2,bJ,e3,e4,e5⟩:=WqQ (ak:=ak.put (some t) (one .bool b)) h1 (λx hx=>by rw[pL x hx,m9 x hx,rD x hx])
      (λdX=>hm dX) (λgu id bz=>hf gu id (by rw[←Wgj m9];exact bz))
     refine⟨v,pre,aj,⟨λt'=>by rw[e1.env,l1],e1.objs,e1.nx⟩,e2,bJ,e3,λdX=>⟨λt'=>by rw[(e4 dX).env,l2],(e4 dX).objs,(e4 dX).nx⟩,λdX=>⟨λt'=>by rw[(e5 dX).env,l2],(e5 dX).objs,(e5 dX).nx⟩⟩
    have main:(match asB x with
      |some b=>bif b
       then(if want then rx1 T Γ A o (st.put (some t) (one .bool true)) some else some ((st.put (some t) (one .bool true)).put o.dst (.tup [])))
       else(if want then some ((st.put (some t) (one .bool false)).put o.dst (.tup []))else rx1 T Γ A o (st.put (some t) (one .bool false)) some)
      |none=>none)=some af->∃v pre aj,Eff o v pre aj st af/\(WaI o=false->pre= []/\aj=st.nx)/\
       ∃bJ,(match asB x with
      |some b=>bif b
       then(if want then rx1 T Γ A o (ak.put (some t) (one .bool true)) some else some ((ak.put (some t) (one .bool true)).put o.dst (.tup [])))
       else(if want then some ((ak.put (some t) (one .bool false)).put o.dst (.tup []))else rx1 T Γ A o (ak.put (some t) (one .bool false)) some)
      |none=>none)=some bJ/\(WaI o=true->Eff o v pre aj ak bJ)/\(WaI o=false->Eff o v [] ak.nx ak bJ):=by
     intro h;cases hb:asB x with
     |none=>rw[hb]at h;cases h
     |some b=>
      rw[hb]at h;have ee:=WtS hb;have r1:∀b',b'=b->∀t',Wq (st.put (some t) (one .bool b')).env t'=Wq st.env t':=λb' e=>by subst e;exact WdF (by rw[hx,ee])
      have r2:∀b',b'=b->∀t',Wq (ak.put (some t) (one .bool b')).env t'=Wq ak.env t':=λb' e=>by subst e;exact WdF (by rw[ig,hx,ee])
      cases b<;>cases want
      .exact doit false ee h
      .exact skip _ _ _ h (r1 _ rfl) (WdS _ _ _) (WhD _ _ _) (r2 _ rfl) (WdS _ _ _) (WhD _ _ _)
      .exact skip _ _ _ h (r1 _ rfl) (WdS _ _ _) (WhD _ _ _) (r2 _ rfl) (WdS _ _ _) (WhD _ _ _)
      .exact doit true ee h
    cases x with
    |s y=>exact main h
    |tup l=>
     cases l with
     |nil=>exact skip st ak af h (λ_=>rfl) rfl rfl (λ_=>rfl) rfl rfl
     |cons y l=>exact main h
end
end Go.Sx
namespace Go.Sx
set_option linter.unusedVariables false
set_option linter.unusedSimpArgs false
structure Rc where
 i:Nat
 v:AVal
 pre:W9
 nx:Nat
 ids:List Nat
 mv:Bool
section
variable{T:Tab}{Γ:Ctx}{A:List (Nat×An)}{ops:Array Oper}
structure StepTo(T:Tab)(Γ:Ctx)(A:List (Nat×An))(ops:Array Oper)(ρ:Rc)(o:Oper)(st af:St):Prop where
 at_:ops[ρ.i]?=some o
 isM:ρ.mv=WaI o
 lk:ρ.mv=false->ρ.ids=WcJ o st
 run:rxg T Γ A ops o st some=some af
 env:∀t,Wq af.env t=if o.dst=some t then some ρ.v else Wq st.env t
 objs:af.objs=if ρ.mv then ρ.pre++st.objs else st.objs
 nx:af.nx=if ρ.mv then ρ.nx else st.nx
def Wtt(T:Tab)(Γ:Ctx)(A:List (Nat×An))(ops:Array Oper):List Rc->St->St->Prop
 | [],st,af=>st=af
 |ρ::l,st,af=>∃o dF,StepTo T Γ A ops ρ o st dF/\Wtt T Γ A ops l dF af
theorem Wrl{i:Nat}{o:Oper}{st af:St}(hi:ops[i]?=some o)(h:rxg T Γ A ops o st some=some af):
  ∃ρ:Rc,ρ.i=i/\StepTo T Γ A ops ρ o st af:=by
 obtain⟨v,pre,aj,e1,e2,_⟩:=Wqq (ak:=st) h (λ_ _=>rfl) (λ_=>⟨rfl,rfl⟩) (λ_ _ _=>rfl);refine⟨⟨i,v,pre,aj,WcJ o st,WaI o⟩,rfl,hi,rfl,λ_=>rfl,h,e1.env,?_,?_⟩
 .simp only;cases hm:WaI o with
  |true=>simpa using e1.objs
  |false=>rw[e1.objs,(e2 hm).1];rfl
 .simp only;cases hm:WaI o with
  |true=>simpa using e1.nx
  |false=>rw[e1.nx,(e2 hm).2];rfl
theorem StepTo.move{ρ:Rc}{o:Oper}{st af ak:St}(h:StepTo T Γ A ops ρ o st af)(he:∀t∈Wde ops o,Wq ak.env t=Wq st.env t)
  (hm:ρ.mv=true->ak.objs=st.objs/\ak.nx=st.nx) (hf:ρ.mv=false->∀id∈ρ.ids,Wq ak.objs id=Wq st.objs id):
  ∃bJ,StepTo T Γ A ops ρ o ak bJ:=by
 obtain⟨v,pre,aj,e1,e2,bJ,e3,e4,e5⟩:=Wqq (ak:=ak) h.run he (λdX=>hm (by rw[h.isM];exact dX)) (λgu id bz=>hf (by rw[h.isM];exact gu) id (by rw[h.lk (by rw[h.isM];exact gu)];exact bz));have hv:∀t,o.dst=some t->v=ρ.v:=λt ht=>by
  have a:=e1.env t;have b:=h.env t;rw[Wf ht]at a b;rw[a]at b;injection b
 have oZ:ρ.mv=false->WcJ o ak=WcJ o st:=λ_=>Wgj λx hx=>WeS λt ht=>he t (by
  unfold Wde;exact Xm _ (Xfo.2 ⟨x,hx,ht⟩))
 cases dX:WaI o with
 |true=>
  have hρ:ρ.mv=true:=by rw[h.isM];exact dX
  have e4:=e4 dX;obtain⟨q1,q2⟩:=hm hρ;refine⟨bJ,h.at_,h.isM,λhf=>(by rw[hρ]at hf;cases hf),e3,λt=>?_,?_,?_⟩
  .rw[e4.env];split
   .rename_i ht;rw[hv t ht]
   .rfl
  .rw[e4.objs,hρ];simp only[W2];have a:=e1.objs;have b:=h.objs;rw[hρ]at b;simp only[W2]at b;rw[a]at b;rw[List.append_cancel_right b]
  .rw[e4.nx,hρ];simp only[W2];have a:=e1.nx;have b:=h.nx;rw[hρ]at b;simp only[W2]at b;rw[←a,b]
 |false=>
  have hρ:ρ.mv=false:=by rw[h.isM];exact dX
  have e5:=e5 dX;refine⟨bJ,h.at_,h.isM,λhf=>by rw[oZ hρ];exact h.lk hρ,e3,λt=>?_,?_,?_⟩
  .rw[e5.env];split
   .rename_i ht;rw[hv t ht]
   .rfl
  .rw[e5.objs,hρ];rfl
  .rw[e5.nx,hρ];rfl
def WrQ(ids:List Nat)(pre:W9):Prop:=∀id∈ids,id∉WgU pre
def WuO(B:List (List Nat))(x y:Rc):Prop:=
 (x.mv=false->y.mv=true->WcN B x.i y.i=true\/WrQ x.ids y.pre)/\
 (x.mv=true->y.mv=false->WcN B x.i y.i=true\/WrQ y.ids x.pre)
theorem Web{α:Type}:∀(l:List Nat) (k:List Nat->α),WfS l k=k l
 | [],_=>rfl
 |x::l,k=>by rw[WfS,Web l]
theorem Wlp{α:Type}:∀(l:List (List Nat)) (k:List (List Nat)->α),Woj l k=k l
 | [],_=>rfl
 |x::l,k=>by rw[Woj,Web,Wlp l]
theorem WjU{ids:List Nat}{pre:W9}(h:WgG ids (WgU pre)=true):WrQ ids pre:=λid bz hk=>by
 unfold WgG at h;have:=Xae.1 h id bz;rw[(WaF id _).2 hk]at this;cases this
theorem WpW(pre objs:W9):Wry objs (pre++objs)=WgU pre:=by
 unfold Wry;simp
theorem Wj5{B:List (List Nat)}{R:Type}{k:St->Option R}{r:R}:∀(l:List Nat) (fl mu:List (Nat×List Nat)) (st:St),rdx T Γ A ops B l fl mu st k=some r->
  ∃(rs:List Rc) (af:St),rs.map (·.i)=l/\Wtt T Γ A ops rs st af/\k af=some r/\rs.Pairwise (WuO B)/\
   (∀p∈fl,∀ρ∈rs,ρ.mv=true->WcN B p.1 ρ.i=true\/WrQ p.2 ρ.pre)/\
   (∀p∈mu,∀ρ∈rs,ρ.mv=false->WcN B p.1 ρ.i=true\/WgG ρ.ids p.2=true)
 | [],fl,mu,st,h=>⟨[],st,rfl,rfl,h,List.Pairwise.nil,by simp,by simp⟩
 |i::l,fl,mu,st,h=>by
  simp only[rdx]at h;cases ho:ops[i]? with
  |none=>rw[ho]at h;cases h
  |some o=>
   rw[ho]at h;simp only at h;cases hm:WaI o with
   |true=>
    simp only[hm,Wa]at h;obtain⟨dF,h1,h2⟩:=WoE h;rw[Web]at h2;obtain⟨ju,h2⟩:=WaC h2;obtain⟨ρ,hi,hs⟩:=Wrl ho h1;have hρ:ρ.mv=true:=by rw[hs.isM];exact hm
    have az:=hs.objs;rw[hρ]at az;simp only[W2]at az;rw[az,WpW]at ju h2;obtain⟨rs,af,q1,q2,q3,q4,q5,q6⟩:=Wj5 l _ _ _ h2;refine⟨ρ::rs,af,by simp[hi,q1],⟨o,dF,hs,q2⟩,q3,List.Pairwise.cons (λy hy=>⟨λhf=>(by rw[hρ]at hf;cases hf),λ_ lz=>?_⟩) q4,λp hp y hy lA=>?_,λp hp y hy lz=>?_⟩
    .rcases q6 (i,WgU ρ.pre) (Xj ..) y hy lz with h|h
     .rw[hi];exact .inl h
     .exact .inr (WjU h)
    .rcases Xr.1 hy with rfl|hy
     .have:=Xae.1 ju p hp;rw[Xcr]at this;rw[hi];exact this.imp id WjU
     .exact q5 p hp y hy lA
    .rcases Xr.1 hy with rfl|hy
     .rw[hρ]at lz;cases lz
     .exact q6 p (Xf _ hp) y hy lz
   |false=>
    simp only[hm,Wc]at h;rw[Web]at h;obtain⟨ju,h⟩:=WaC h;obtain⟨dF,h1,h2⟩:=WoE h;obtain⟨ρ,hi,hs⟩:=Wrl ho h1;have hρ:ρ.mv=false:=by rw[hs.isM];exact hm
    have pM:=hs.lk hρ;rw[←pM]at ju h2;obtain⟨rs,af,q1,q2,q3,q4,q5,q6⟩:=Wj5 l _ _ _ h2;refine⟨ρ::rs,af,by simp[hi,q1],⟨o,dF,hs,q2⟩,q3,List.Pairwise.cons (λy hy=>⟨λ_ lA=>?_,λhf=>(by rw[hρ]at hf;cases hf)⟩) q4,λp hp y hy lA=>?_,λp hp y hy lz=>?_⟩
    .rw[hi];exact q5 (i,ρ.ids) (Xj ..) y hy lA
    .rcases Xr.1 hy with rfl|hy
     .rw[hρ]at lA;cases lA
     .exact q5 p (Xf _ hp) y hy lA
    .rcases Xr.1 hy with rfl|hy
     .have:=Xae.1 ju p hp;rw[Xcr]at this;rw[hi];exact this
     .exact q6 p hp y hy lz
def Wd4(ops:Array Oper)(i:Nat):Option Tmp:=(ops[i]?).bind (·.dst)
def Woe(ops:Array Oper):List Rc->(Nat->Option AVal)->Nat->Option AVal
 | [],e,t=>e t
 |ρ::a,e,t=>Woe ops a (λt'=>if Wd4 ops ρ.i=some t' then some ρ.v else e t') t
def Whq:List Rc->W9×Nat->W9×Nat
 | [],m=>m
 |ρ::a,m=>Whq a (if ρ.mv then(ρ.pre++m.1,ρ.nx)else m)
theorem Wgq:∀(rs:List Rc) (st af:St),Wtt T Γ A ops rs st af->(∀t,Wq af.env t=Woe ops rs (Wq st.env) t)/\(af.objs,af.nx)=Whq rs (st.objs,st.nx)
 | [],st,af,h=>by cases h;exact⟨λ_=>rfl,rfl⟩
 |ρ::rs,st,af,⟨o,dF,hs,h⟩=>by
  obtain⟨h1,h2⟩:=Wgq rs dF af h;have e:(Wq dF.env)= λt'=>if Wd4 ops ρ.i=some t' then some ρ.v else Wq st.env t':=funext λt=>by
   rw[hs.env];unfold Wd4;rw[hs.at_];rfl
  refine⟨λt=>by rw[h1,e];rfl,?_⟩;rw[h2,Whq];congr 1;rw[hs.objs,hs.nx];split<;>rfl
theorem WjM:∀(a:List Rc) (ρ:Rc) (b:List Rc) (st af:St),Wtt T Γ A ops (a++ρ::b) st af->∃o dF ak,Wtt T Γ A ops a st dF/\StepTo T Γ A ops ρ o dF ak
 | [],ρ,b,st,af,⟨o,dF,hs,h⟩=>⟨o,st,dF,rfl,hs⟩
 |x::a,ρ,b,st,af,⟨o,dF,hs,h⟩=>by
  obtain⟨o',s1,s2,h1,h2⟩:=WjM a ρ b dF af h;exact⟨o',s1,s2,⟨o,dF,hs,h1⟩,h2⟩
theorem Wbh:∀(a:List Rc) (m:W9×Nat),Whq a m=Whq (a.filter (·.mv)) m
 | [],_=>rfl
 |ρ::a,m=>by
  rw[Whq,Wbh a,Xbg];cases h:ρ.mv with
  |true=>simp only[W2,Whq,h]
  |false=>simp only[Xbc,Wal]
theorem WdR:∀(a b:List Rc) (m:W9×Nat),Whq (a++b) m=Whq b (Whq a m)
 | [],_,_=>rfl
 |ρ::a,b,m=>by rw[Xbb,Whq,WdR a b];rfl
theorem Wip{pre objs:W9}{id:Nat}(h:id∉WgU pre):Wq (pre++objs) id=Wq objs id:=by
 induction pre with
 |nil=>rfl
 |cons p pre ih=>
  obtain⟨j,ob⟩:=p;simp only[WgU,Xaf,Xr,not_or]at h;rw[Xbb,WG,Wb (λe=>h.1 e.symm)];exact ih h.2
theorem WhB{id:Nat}:∀(a:List Rc) (m:W9×Nat),(∀ρ∈a,ρ.mv=true->id∉WgU ρ.pre)->Wq (Whq a m).1 id=Wq m.1 id
 | [],_,_=>rfl
 |ρ::a,m,h=>by
  rw[Whq,WhB a _ λx hx=>h x (Xf _ hx)];split
  .rename_i hm;exact Wip (h ρ (Xj ..) hm)
  .rfl
def Wki(ops:Array Oper):Prop:=∀i j t,Wd4 ops i=some t->Wd4 ops j=some t->i=j
theorem Wf6{t:Nat}:∀(a:List Rc) (e:Nat->Option AVal),(∀ρ∈a,Wd4 ops ρ.i≠some t)->Woe ops a e t=e t
 | [],_,_=>rfl
 |ρ::a,e,h=>by
  rw[Woe,Wf6 a _ λx hx=>h x (Xf _ hx),Wb (h ρ (Xj ..))]
theorem WhL{t:Nat}(h1:Wki ops):∀(a:List Rc) (e:Nat->Option AVal),(a.map (·.i)).Nodup->∀ρ∈a,Wd4 ops ρ.i=some t->Woe ops a e t=some ρ.v
 | [],_,_,_,h,_=>by cases h
 |x::a,e,hn,ρ,hρ,ht=>by
  rw[Xaf,Xac]at hn;rw[Woe];rcases Xr.1 hρ with rfl|hρ
  .rw[Wf6 a _ λy hy s0=>hn.1 (by rw[h1 _ _ _ ht s0];exact Xv.2 ⟨y,hy,rfl⟩),Wf ht]
  .exact WhL h1 a _ hn.2 ρ hρ ht
theorem WjL{t:Nat}(h1:Wki ops){a b:List Rc}{e:Nat->Option AVal}(ha:(a.map (·.i)).Nodup)(hb:(b.map (·.i)).Nodup)
  (h:∀ρ,Wd4 ops ρ.i=some t->(ρ∈a↔ρ∈b)):Woe ops a e t=Woe ops b e t:=by
 by_cases hx:∃ρ∈a,Wd4 ops ρ.i=some t
 .obtain⟨ρ,hρ,ht⟩:=hx;rw[WhL h1 a e ha ρ hρ ht,WhL h1 b e hb ρ ((h ρ ht).1 hρ) ht]
 .rw[Wf6 a e λρ hρ ht=>hx ⟨ρ,hρ,ht⟩,Wf6 b e λρ hρ ht=>hx ⟨ρ,(h ρ ht).2 hρ,ht⟩]
end
end Go.Sx
namespace Go.Sx
set_option linter.unusedVariables false
set_option linter.unusedSimpArgs false
theorem Wfp{α:Type}{x:α}:∀{a c b d:List α},(a++x::b).Nodup->a++x::b=c++x::d->a=c
 | [],[],_,_,_,_=>rfl
 | [],y::c,b,d,hn,h=>by
  simp only[Xaq,Xbb,List.cons.injEq]at h;obtain⟨rfl,h⟩:=h;rw[Xaq,Xac]at hn;exact WC (by rw[h];simp) hn.1
 |y::a,[],b,d,hn,h=>by
  simp only[Xaq,Xbb,List.cons.injEq]at h;obtain⟨rfl,h⟩:=h;rw[Xbb,Xac]at hn;exact WC (by simp) hn.1
 |y::a,z::c,b,d,hn,h=>by
  simp only[Xbb,List.cons.injEq]at h;obtain⟨rfl,h⟩:=h;rw[Xbb,Xac]at hn;rw[Wfp hn.2 h]
def WaB(ops:Array Oper)(i:Nat):Bool:=match ops[i]? with
 |some o=>WaI o
 |none=>false
theorem Rel.same{w0:World}{F:CS}{nt:Slots}{G0 G:GH}{ν:Nat->Nu}{st ak:St}{a:Act}{w:World}(h:Rel w0 F nt G0 G ν st a w)
  (he:∀t,Wq ak.env t=Wq st.env t) (ho:ak.objs=st.objs) (hn:ak.nx=st.nx):Rel w0 F nt G0 G ν ak a w:=
 ⟨h.defers,h.ntm,h.par,λi x hx=>by rw[he]at hx;rw[hn];exact h.env i x hx,by rw[ho,hn];exact h.h,h.gx⟩
theorem Wtl:∀(rs:List Rc),(rs.map (·.i)).Nodup->∃rec:Nat->Rc,∀ρ∈rs,rec ρ.i=ρ
 | [],_=>⟨λi=>⟨i,.tup [],[],0,[],false⟩,by simp⟩
 |ρ::rs,h=>by
  rw[Xaf,Xac]at h;obtain⟨rec,hr⟩:=Wtl rs h.2;refine⟨λi=>if i=ρ.i then ρ else rec i,λx hx=>?_⟩;rcases Xr.1 hx with rfl|hx
  .simp
  .simp only;rw[Wb (λe=>h.1 (by rw[←e];exact Xv.2 ⟨x,hx,rfl⟩))];exact hr x hx
section
variable{w0:World}{F:CS}{nt:Slots}{G0:GH}{P:Program}{T:Tab}{Γ:Ctx}{A:List (Nat×An)}{ops:Array Oper}{Q:Exit->Act->World->Prop}
theorem Wqu(hT:Waf P T)(hΓ:WeY P Γ)(hd:∀o∈ops,∀d,o.dst=some d->nt.Ok d){l L:List Nat}(hl:Order ops l)(hL:Order ops L)(ee:Wki ops)
  (hsl:∀(i:Nat) (o:Oper) (t:Nat),ops[i]?=some o->t∈Wde ops o->∀j,Wd4 ops j=some t->j=i\/WcN (Wei ops.toList []) j i=true\/WcN (Wei ops.toList []) i j=true)
  (hσ:l.filter (WaB ops)=L.filter (WaB ops)) {rs:List Rc} {st af:St} (iD:rs.map (·.i)=L) (jv:Wtt T Γ A ops rs st af) (ce:rs.Pairwise (WuO (Wei ops.toList [])))
  (hK:∀a w G ν,Rel w0 F nt G0 G ν af a w->Q .normal a w) {a:Act} {w:World} {G:GH} {ν:Nat->Nu} (hr:Rel w0 F nt G0 G ν st a w):wpOps P ops Q l a w:=by
 have aS:(rs.map (·.i)).Nodup:=by rw[iD];exact hL.nodup
 obtain⟨rec,cx⟩:=Wtl rs aS;have hLr:L.map rec=rs:=by
  rw[←iD,Xde]
  conv=>rhs;rw[←List.map_id rs]
  exact Xen λρ hρ=>cx ρ hρ
 have ii:∀i,i∈l↔i∈L:=λi=>by rw[←hl.all,hL.all]
 have iE:∀i∈L,(rec i).i=i/\rec i∈rs:=λi hi=>by
  rw[←iD]at hi;obtain⟨ρ,hρ,rfl⟩:=Xv.1 hi;rw[cx ρ hρ];exact⟨rfl,hρ⟩
 have dj:∀i∈L,∃pre post o dF ak,L=pre++i::post/\Wtt T Γ A ops (pre.map rec) st dF/\StepTo T Γ A ops (rec i) o dF ak:=λi hi=>by
  obtain⟨pre,post,e⟩:=Xdv hi;have:rs=pre.map rec++rec i::post.map rec:=by rw[←hLr,e];simp
  rw[this]at jv;obtain⟨o,dF,ak,h1,h2⟩:=WjM _ _ _ _ _ jv;exact⟨pre,post,o,dF,ak,e,h1,h2⟩
 have gh:∀i∈L,(rec i).mv=WaB ops i:=λi hi=>by
  obtain⟨pre,post,o,dF,ak,e,h1,h2⟩:=dj i hi;rw[h2.isM];have:=h2.at_;rw[(iE i hi).1]at this;unfold WaB;rw[this]
 have fC:∀(p:List Nat),(∀i∈p,i∈L)->(p.map rec).filter (·.mv)=(p.filter (WaB ops)).map rec:=by
  intro p
  induction p with
  |nil=>intro _;rfl
  |cons i p ih=>
   intro h;have:=ih λj hj=>h j (Xf _ hj);rw[Xaf,Xbg,Xbg,gh i (h i (Xj ..))];split
   .rw[Xaf,this]
   .exact this
 have lB:∀(p:List Nat),(∀i∈p,i∈L)->(p.map rec).map (·.i)=p:=by
  intro p h;rw[Xde]
  conv=>rhs;rw[←List.map_id p]
  exact Xen λi hi=>(iE i (h i hi)).1
 have eK:∀(p:List Nat),(∀i∈p,i∈L)->∀i∈L,(rec i∈p.map rec↔i∈p):=λp hp i hi=>by
  constructor
  .intro h;obtain⟨j,hj,e⟩:=Xv.1 h;have:j=i:=by rw[←(iE j (hp j hj)).1,←(iE i hi).1,e]
   rw[←this];exact hj
  .exactλh=>Xv.2 ⟨i,h,rfl⟩
 have kQ:∀i j pre post,L=pre++i::post->j∈post->WuO (Wei ops.toList []) (rec i) (rec j):=λi j pre post e hj=>by
  have:rs=pre.map rec++rec i::post.map rec:=by rw[←hLr,e];simp
  rw[this,List.pairwise_append]at ce;exact(List.pairwise_cons.1 ce.2.1).1 _ (Xv.2 ⟨j,hj,rfl⟩)
 suffices main:∀(s p:List Nat),l=p++s->∀(ak:St) (a:Act) (w:World) (G:GH) (ν:Nat->Nu),Rel w0 F nt G0 G ν ak a w->
   (∀t,Wq ak.env t=Woe ops (p.map rec) (Wq st.env) t)->(ak.objs,ak.nx)=Whq (p.map rec) (st.objs,st.nx)->wpOps P ops Q s a w from
  main l [] rfl st a w G ν hr (λ_=>rfl) rfl
 intro s
 induction s with
 |nil=>
  intro p e ak a w G ν iB he hm;rw[Xbp]at e;subst e;obtain⟨f1,f2⟩:=Wgq _ _ _ jv;have na:∀i∈l,i∈L:=λi hi=>(ii i).1 hi;refine hK a w G ν (iB.same (λt=>?_) ?_ ?_)
  .rw[f1,he];refine WjL ee aS (by rw[lB l na];exact hl.nodup) λρ _=>?_;constructor
   .intro hρ;have hi:ρ.i∈L:=by rw[←iD];exact Xv.2 ⟨ρ,hρ,rfl⟩
    rw[←cx ρ hρ];exact(eK l na ρ.i hi).2 ((ii _).2 hi)
   .intro hρ;obtain⟨i,hi,rfl⟩:=Xv.1 hρ;exact(iE i (na i hi)).2
  .have:Whq (l.map rec) (st.objs,st.nx)=Whq rs (st.objs,st.nx):=by
    rw[Wbh,fC l na,hσ,←fC L (λi hi=>hi),←Wbh,hLr]
   rw[this,←f2]at hm;exact(Wn (·.1) hm).symm
  .have:Whq (l.map rec) (st.objs,st.nx)=Whq rs (st.objs,st.nx):=by
    rw[Wbh,fC l na,hσ,←fC L (λi hi=>hi),←Wbh,hLr]
   rw[this,←f2]at hm;exact(Wn (·.2) hm).symm
 |cons i s ih=>
  intro p e ak a w G ν iB he hm;have mo:i∈L:=(ii i).1 (by rw[e];simp);have nb:∀j∈p,j∈L:=λj hj=>(ii j).1 (by rw[e];exact Xm _ hj);obtain⟨pre,post,o,dF,s7,eL,h1,h2⟩:=dj i mo;have ij:∀j∈pre,j∈L:=λj hj=>by rw[eL];exact Xm _ hj
  have oG:ops[i]?=some o:=by have:=h2.at_;rw[(iE i mo).1]at this;exact this
  obtain⟨g1,g2⟩:=Wgq _ _ _ h1;have kp:=hl.nodup;have kq:=hL.nodup;rw[e]at kp;rw[eL]at kq;have nc:i∉p:=λh=>(Xad.1 kp).2.2 i h i (Xj ..) rfl;have ik:i∉pre:=λh=>(Xad.1 kq).2.2 i h i (Xj ..) rfl;have lC:∀t∈Wde ops o,Wq ak.env t=Wq dF.env t:=λt ht=>by
   rw[he,g1];refine WjL ee (by rw[lB p nb];exact(Xad.1 kp).1) (by rw[lB pre ij];exact(Xad.1 kq).1) λρ hρt=>?_;have key:∀j∈L,Wd4 ops j=some t->(j∈p↔j∈pre):=λj hj py=>by
    rcases hsl i o t oG ht j py with rfl|hb|hb
    .exact⟨λh=>WC h nc,λh=>WC h ik⟩
    .by_cases nd:j=i
     .subst nd;exact⟨λh=>WC h nc,λh=>WC h ik⟩
     .exact⟨λ_=>hL.bef' eL hb nd,λ_=>hl.bef' e hb nd⟩
    .exact⟨λh=>WC (hl.bef e hb h) nc,λh=>WC (hL.bef eL hb h) ik⟩
   constructor
   .intro hρ;obtain⟨j,hj,rfl⟩:=Xv.1 hρ;have nf:=nb j hj;rw[(iE j nf).1]at hρt;exact Xv.2 ⟨j,(key j nf hρt).1 hj,rfl⟩
   .intro hρ;obtain⟨j,hj,rfl⟩:=Xv.1 hρ;have nf:=ij j hj;rw[(iE j nf).1]at hρt;exact Xv.2 ⟨j,(key j nf hρt).2 hj,rfl⟩
  have rE:Whq (p.map rec) (st.objs,st.nx)=Whq ((p.filter (WaB ops)).map rec) (st.objs,st.nx):=by rw[Wbh,fC p nb]
  have kR:Whq (pre.map rec) (st.objs,st.nx)=Whq ((pre.filter (WaB ops)).map rec) (st.objs,st.nx):=by rw[Wbh,fC pre ij]
  obtain⟨s9,h3⟩:=h2.move (ak:=ak) lC (λdX=>by
   have oH:WaB ops i=true:=by rw[←gh i mo];exact dX
   have:p.filter (WaB ops)=pre.filter (WaB ops):=by
    have q:=hσ;rw[e,eL,Xcm,Xcm,Xbg,Xbg,Wf oH,Wf oH]at q;refine Wfp ?_ q;have:=hl.nodup.filter (WaB ops);rw[e,Xcm,Xbg,Wf oH]at this;exact this
   rw[rE,this,←kR,←g2]at hm;exact⟨Wn (·.1) hm,Wn (·.2) hm⟩) (λgu id bz=>by
   have q:(p.filter (WaB ops))<+:l.filter (WaB ops):=by rw[e,Xcm];exact Xgj _ _
   have q2:(pre.filter (WaB ops))<+:l.filter (WaB ops):=by rw[hσ,eL,Xcm];exact Xgj _ _
   have pq:ak.objs=(Whq ((p.filter (WaB ops)).map rec) (st.objs,st.nx)).1:=by rw[←rE,←hm]
   have ov:dF.objs=(Whq ((pre.filter (WaB ops)).map rec) (st.objs,st.nx)).1:=by rw[←kR,←g2]
   rw[pq,ov];rcases List.prefix_or_prefix_of_prefix q q2 with⟨X,hX⟩|⟨X,hX⟩
   .
    rw[←hX,Xy,WdR];refine(WhB _ _ λρ hρ hρm=>?_).symm;obtain⟨m,mp,rfl⟩:=Xv.1 hρ;have gT:m∈pre:=(Xax.1 (by rw[←hX];exact Xh _ mp:m∈pre.filter (WaB ops))).1;have lD:m∉p:=λhmem=>by
     have pN:WaB ops m=true:=(Xax.1 (by rw[←hX];exact Xh _ mp:m∈pre.filter (WaB ops))).2;have jw:(pre.filter (WaB ops)).Nodup:=(Xad.1 kq).1.filter _;rw[←hX]at jw;exact(Xad.1 jw).2.2 m (Xax.2 ⟨hmem,pN⟩) m mp rfl
    obtain⟨u,v,eu⟩:=Xdv gT;have hf:=kQ m i u (v++i::post) (by rw[eL,eu];simp) (by simp);rcases hf.2 hρm gu with hb|hb
    .rw[(iE m (ij m gT)).1,(iE i mo).1]at hb;exact WC (hl.bef' e hb (λhc=>ik (hc▸gT))) lD
    .exact hb id bz
   .rw[←hX,Xy,WdR];refine WhB _ _ λρ hρ hρm=>?_;obtain⟨m,mp,rfl⟩:=Xv.1 hρ;have rF:m∈p.filter (WaB ops):=by rw[←hX];exact Xh _ mp
    have kr:m∈p:=(Xax.1 rF).1;have lD:m∉pre:=λhmem=>by
     have pN:WaB ops m=true:=(Xax.1 rF).2;have jw:(p.filter (WaB ops)).Nodup:=(Xad.1 kp).1.filter _;rw[←hX]at jw;exact(Xad.1 jw).2.2 m (Xax.2 ⟨hmem,pN⟩) m mp rfl
    have rG:=nb m kr;have lE:m∈post:=by
     rw[eL]at rG;rcases Xn.1 rG with h|h
     .exact WC h lD
     .rcases Xr.1 h with h|h
      .exact WC (h▸kr) nc
      .exact h
    have hf:=kQ i m pre post eL lE;rcases hf.1 gu hρm with hb|hb
    .rw[(iE m (nb m kr)).1,(iE i mo).1]at hb;exact WC (hl.bef e hb kr) nc
    .exact hb id bz)
  have ta:∀d,o.dst=some d->nt.Ok d:=hd o (Array.mem_of_getElem? oG);have oI:=Ws8 (F:=F) (G0:=G0) (w0:=w0) hT hΓ ta (Q:=Q) (k:=some) (r:=s9) (K:=wpOps P ops Q s) (λtc a' w' G' ν' hr4 h4=>by
   injection h4 with h4;subst h4;refine ih (p++ [i]) (by rw[e];simp) tc a' w' G' ν' hr4 (λt=>?_) ?_
   .rw[h3.env];have hv:Woe ops ((p++ [i]).map rec) (Wq st.env) t=if Wd4 ops i=some t then some (rec i).v else Woe ops (p.map rec) (Wq st.env) t:=by
     rw[Xy];have gen:∀(x:List Rc) (y:Rc) (e:Nat->Option AVal),Woe ops (x++ [y]) e t=if Wd4 ops y.i=some t then some y.v else Woe ops x e t:=by
      intro x
      induction x with
      |nil=>intro y e;rfl
      |cons z x ih=>intro y e;rw[Xbb,Woe,ih];rfl
     rw[List.map_singleton,gen,(iE i mo).1]
    rw[hv,he];have:Wd4 ops i=o.dst:=by unfold Wd4;rw[oG];rfl
    rw[this]
   .rw[Xy,WdR,←hm];simp only[Xaf,Xce,Whq];rw[h3.objs,h3.nx];split<;>rfl) iB h3.run
  rw[wpOps_cons];unfold wpOp;rw[oG];simp only;split
  .rename_i hw;rw[Wf hw]at oI;exact .inl oI
  .rename_i hw;rw[Wb hw]at oI;exact oI
end
end Go.Sx
namespace Go.Sx
set_option linter.unusedVariables false
set_option linter.unusedSimpArgs false
theorem WjI:∀{l:List (Nat×Nat)},Wbe (l.map (·.1))=true->∀p∈l,∀q∈l,p.1=q.1->p=q
 | [],_,p,hp,_,_,_=>by cases hp
 |x::l,h,p,hp,q,hq,e=>by
  have hn:=(WeL _).1 h;simp only[Xaf,Wbe,Xi]at h;rw[Xaf,Xac]at hn;rcases Xr.1 hp with h1|h1
  .rcases Xr.1 hq with h2|h2
   .rw[h1,h2]
   .exact WC (Xv.2 ⟨q,h2,by rw[←e,h1]⟩) hn.1
  .rcases Xr.1 hq with h2|h2
   .exact WC (Xv.2 ⟨p,h1,by rw[e,h2]⟩) hn.1
   .exact WjI h.2 p h1 q h2 e
theorem Wjk:∀(l:List Oper) (n k:Nat) (o:Oper) (d:Nat),l[k]?=some o->o.dst=some d->(d,n+k)∈Whb l n
 | [],_,k,o,d,h,_=>by simp at h
 |x::l,n,k,o,d,h,hd=>by
  cases k with
  |zero=>
   simp at h;subst h;simp only[Whb,hd];exact Xj ..
  |succ k=>
   have:=Wjk l (n+1) k o d (by simpa using h) hd;have e:n+(k+1)=n+1+k:=by omega
   rw[e];simp only[Whb];split
   .exact Xf _ this
   .exact this
theorem Whg{ops:Array Oper}{B:List (List Nat)}{D:List (Nat×Nat)}:∀(l:List Oper) (n:Nat),Wkn ops B D l n=true->∀(k:Nat) (o:Oper),l[k]?=some o->∀t∈Wde ops o,∀p∈D,p.1=t->
  p.2=n+k\/WcN B p.2 (n+k)=true\/WcN B (n+k) p.2=true
 | [],_,_,k,o,h=>by simp at h
 |x::l,n,h,k,o,hk=>by
  simp only[Wkn,Xi]at h;cases k with
  |zero=>
   simp at hk;subst hk;intro t ht p hp e;have:=Xae.1 (Xae.1 h.1 t ht) p hp;simp only[Xcr,Xao]at this;rcases this with((h1|h1)|h1)|h1
   .rw[e]at h1;simp at h1
   .exact .inl (by simpa using h1)
   .exact .inr (.inl h1)
   .exact .inr (.inr h1)
  |succ k=>
   have:=Whg l (n+1) h.2 k o (by simpa using hk);have e:n+(k+1)=n+1+k:=by omega
   rw[e];exact this
structure RegOk(ops:Array Oper):Prop where
 back:∀(k:Nat) (o:Oper),ops[k]?=some o->∀d∈Wmc o,d<k
 one:Wki ops
 slots:∀(i:Nat) (o:Oper) (t:Nat),ops[i]?=some o->t∈Wde ops o->∀j,Wd4 ops j=some t->j=i\/WcN (Wei ops.toList []) j i=true\/WcN (Wei ops.toList []) i j=true
theorem Wh1{ops:Array Oper}{j t:Nat}(h:Wd4 ops j=some t):(t,j)∈Whb ops.toList 0:=by
 unfold Wd4 at h;obtain⟨o,ho,hd⟩:=Xbt.1 h;have:=Wjk ops.toList 0 j o t (by simpa using ho) hd;rw[Xat]at this;exact this
theorem WpE{ops:Array Oper}(h:Wtq ops (Wei ops.toList [])=true):RegOk ops:=by
 simp only[Wtq,Xi]at h;obtain⟨⟨h1,h2⟩,h3⟩:=h;refine⟨λk o ho e he=>?_,λi j t hi hj=>?_,λi o t ho ht j hj=>?_⟩
 .have:=WjN (ops:=ops) ops.toList 0 h1 k o (by simpa using ho) e he;omega
 .have:=WjI h2 _ (Wh1 hi) _ (Wh1 hj) rfl;exact Wn (·.2) this
 .have:=Whg ops.toList 0 h3 i o (by simpa using ho) t ht _ (Wh1 hj) rfl;simpa using this
theorem WjZ{ops:Array Oper}:∀(l done:List Nat),WiT ops l done=true->done.Nodup->(∀i∈done,i<ops.size)->
  (done++l).Nodup/\(∀i∈done++l,i<ops.size)/\(done++l).length=ops.size/\(∀p i s,l=p++i::s->∀o,ops[i]?=some o->∀d∈Wmc o,d∈done++p)
 | [],done,h,hn,hlt=>by
  simp only[WiT]at h;exact⟨by simpa using hn,by simpa using hlt,by simpa using h,λp i s e=>by simp at e⟩
 |x::l,done,h,hn,hlt=>by
  simp only[WiT,Xi,Xao]at h;obtain⟨⟨h1,h2⟩,h3⟩:=h;have hx:x∉done:=λhm=>by rw[(WaF x done).2 hm]at h1;cases h1
  cases ho:ops[x]? with
  |none=>rw[ho]at h2;cases h2
  |some o=>
   rw[ho]at h2;have lu:x<ops.size:=(Xcy.1 ho).1;obtain⟨g1,g2,g3,g4⟩:=WjZ l (x::done) h3 (Xac.2 ⟨hx,hn⟩) (λi hi=>by
    rcases Xr.1 hi with rfl|hi
    .exact lu
    .exact hlt i hi)
   have jx:List.Perm (x::done++l) (done++x::l):=by simpa using(List.perm_middle (a:=x) (l₁:=done) (l₂:=l)).symm
   refine⟨jx.nodup_iff.1 g1,λi hi=>g2 i (jx.mem_iff.2 hi),by rw[←jx.length_eq];exact g3,λp i s e o' gR d hd=>?_⟩;cases p with
   |nil=>
    simp only[Xaq,List.cons.injEq]at e;obtain⟨rfl,_⟩:=e;rw[ho]at gR;injection gR with gR;subst gR;have:=Xae.1 h2 d hd;simpa using(WaF d done).1 this
   |cons y p=>
    simp only[Xbb,List.cons.injEq]at e;obtain⟨rfl,e⟩:=e;have:=g4 p i s e o' gR d hd;simp only[Xbb,Xr,Xn]at this⊢;rcases this with h|h|h
    .exact .inr (.inl h)
    .exact .inl h
    .exact .inr (.inr h)
theorem Wnw{l:List Nat}{n:Nat}(hn:l.Nodup)(hlt:∀i∈l,i<n)(hlen:l.length=n):∀i,i<n->i∈l:=by
 intro i hi;refine Classical.byContradiction λh=>?_;have h1:(i::l).Nodup:=Xac.2 ⟨h,hn⟩;have h2:∀j∈i::l,j∈Xcz n:=λj hj=>by
  rw[Xdy];rcases Xr.1 hj with rfl|hj
  .exact hi
  .exact hlt j hj
 have key:∀(a b:List Nat),a.Nodup->(∀x∈a,x∈b)->a.length<=b.length:=by
  intro a
  induction a with
  |nil=>intro b _ _;simp
  |cons x a ih=>
   intro b lF fL;rw[Xac]at lF;have ng:x∈b:=fL x (Xj ..);have:=ih (b.erase x) lF.2 λy hy=>(Xgf (λe=>lF.1 (by rw[←e];exact hy))).2 (fL y (Xf _ hy));rw[Xfj ng]at this;have hpos:=Xfx ng;simp;omega
 have:=key _ _ h1 h2;rw[Xfc,Xq]at this;omega
theorem Wnm{ops:Array Oper}{l:List Nat}(h:WiT ops l []=true):Order ops l:=by
 obtain⟨h1,h2,h3,h4⟩:=WjZ l [] h Xdd (by simp);rw[Xaq]at h1 h2 h3;exact⟨h1,λi=>⟨Wnw h1 h2 h3 i,h2 i⟩,λp i s e o ho d hd=>by simpa using h4 p i s e o ho d hd⟩
theorem WjD:∀(l:List Oper) (n i:Nat),i∈Wg5 l n↔n<=i/\∃o,l[i-n]?=some o/\WaI o=true
 | [],n,i=>by simp[Wg5]
 |o::l,n,i=>by
  have ih:=WjD l (n+1) i;have nh:(n<=i/\∃o',(o::l)[i-n]?=some o'/\WaI o'=true)↔(i=n/\WaI o=true)\/(n+1<=i/\∃o',l[i-(n+1)]?=some o'/\WaI o'=true):=by
   by_cases hi:i=n
   .subst hi;constructor
    .rintro⟨_,o',h1,h2⟩;rw[Xcu]at h1;injection h1 with h1;subst h1;exact .inl ⟨rfl,h2⟩
    .rintro(⟨_,h⟩|⟨h,_⟩)
     .exact⟨Xl _,o,by rw[Xcu];rfl,h⟩
     .omega
   .constructor
    .rintro⟨h0,o',h1,h2⟩;have e:i-n=(i-(n+1))+1:=by omega
     rw[e,Xdz]at h1;exact .inr ⟨by omega,o',h1,h2⟩
    .rintro(⟨h,_⟩|⟨h0,o',h1,h2⟩)
     .exact WC h hi
     .have e:i-n=(i-(n+1))+1:=by omega
      exact⟨by omega,o',by rw[e,Xdz];exact h1,h2⟩
  rw[nh,←ih];simp only[Wg5];cases hm:WaI o with
  |true=>simp
  |false=>simp
theorem Wl0{ops:Array Oper}{i:Nat}:i∈Wg5 ops.toList 0↔WaB ops i=true:=by
 rw[WjD];unfold WaB;simp only[Xcf,true_and,Xdf,Array.getElem?_toList];cases ops[i]? with
 |none=>simp
 |some o=>simp
theorem Wod{B:List (List Nat)}:∀(σ rem:List Nat) (n:Nat),σ.length<=n->σ.Nodup->(∀i,i∈rem↔i∈σ)->(∀p m s,σ=p++m::s->∀m'∈m::s,WcN B m' m=false)->σ∈Wt3 B n rem
 | [],rem,n,hn,aS,hmem,hb=>by
  have:rem= []:=Xek.2 λi hi=>by have:=(hmem i).1 hi;cases this
  subst this;cases n<;>simp[Wt3]
 |m::s,rem,0,hn,_,_,_=>by simp at hn
 |m::s,rem,n+1,hn,aS,hmem,hb=>by
  have hm:m∈rem:=(hmem m).2 (Xj ..);rw[Xac]at aS;cases hrem:rem with
  |nil=>rw[hrem]at hm;cases hm
  |cons x xs=>
   rw[←hrem];have td:Wt3 B (n+1) rem=(rem.filter λm=>rem.all λm'=>!WcN B m' m).flatMap λm=>(Wt3 B n (rem.filter λx=>!Xbk x m)).map (m:: ·):=by rw[hrem];rfl
   rw[td];refine Xfo.2 ⟨m,Xax.2 ⟨hm,Xae.2 λm' dV=>?_⟩,Xv.2 ⟨s,?_,rfl⟩⟩
   .rw[hb [] m s rfl m' ((hmem m').1 dV)];rfl
   .refine Wod s _ n (by simpa using hn) aS.2 (λi=>?_) (λp q s' e=>hb (m::p) q s' (by rw[e];rfl));rw[Xax,hmem,Xr];constructor
    .rintro⟨h1,h2⟩;rcases h1 with rfl|h1
     .simp at h2
     .exact h1
    .intro h;refine⟨.inr h,?_⟩;have hne:i≠m:=λe=>aS.1 (e▸h);cases hb':Xbk i m with
     |false=>rfl
     |true=>exact WC (Nat.eq_of_beq_eq_true hb') hne
theorem Wtd:∀(l m:List Nat),eqN l m=true->l=m
 | [],[],_=>rfl
 | [],_::_,h=>by cases h
 |_::_,[],h=>by cases h
 |i::l,j::m,h=>by
  simp only[eqN,Xi]at h;have:i=j:=by simpa using h.1
  rw[this,Wtd l m h.2]
theorem Wre{α:Type}{a b:Option α}{r:α}(h:WbJ a b=some r):a=some r/\b=some r:=by
 unfold WbJ at h;split at h
 .rename_i e;exact⟨h,e▸h⟩
 .cases h
section
variable{w0:World}{F:CS}{nt:Slots}{G0:GH}{P:Program}{T:Tab}{Γ:Ctx}{A:List (Nat×An)}{R:Type}{r:R}
theorem WoI{ops:Array Oper}{B:List (List Nat)}{st:St}{k:St->Option R}:∀(l:List (List Nat)),Wuw T Γ A ops B st k l=some r->∀σ∈l,∃L,WiT ops L []=true/\L.filter (λi=>Wb4 i σ)=σ/\rdx T Γ A ops B L [] [] st k=some r
 | [],_,σ,hσ=>by cases hσ
 |τ::l,h,σ,hσ=>by
  have one:WfS (WkW ops.toList B ops.size [] τ) (λL=>bif WiT ops L []&&eqN (L.filter λi=>Wb4 i τ) τ then rdx T Γ A ops B L [] [] st k else none)=some r->∃L,WiT ops L []=true/\L.filter (λi=>Wb4 i τ)=τ/\rdx T Γ A ops B L [] [] st k=some r:=λh=>by
   rw[Web]at h;obtain⟨hc,h⟩:=WaC h;simp only[Xi]at hc;exact⟨_,hc.1,Wtd _ _ hc.2,h⟩
  cases l with
  |nil=>
   simp only[Wuw]at h;rcases Xr.1 hσ with rfl|hσ
   .exact one h
   .cases hσ
  |cons x l=>
   have h:WbJ (WfS (WkW ops.toList B ops.size [] τ) (λL=>bif WiT ops L []&&eqN (L.filter λi=>Wb4 i τ) τ then rdx T Γ A ops B L [] [] st k else none)) (Wuw T Γ A ops B st k (x::l))=some r:=h;obtain⟨h1,h2⟩:=Wre h;rcases Xr.1 hσ with rfl|hσ
   .exact one h1
   .exact WoI (x::l) h2 σ hσ
theorem Wsb(hM:P.follows .mixedOrders=true)(hT:Waf P T)(hΓ:WeY P Γ){id:Nat}{ops:Array Oper}(hd:∀o∈ops,∀d,o.dst=some d->nt.Ok d){k:St->Option R}{Q:Exit->Act->World->Prop}(hK:Wqy w0 F nt G0 k r (Q .normal)):
  Wqy w0 F nt G0 (λst=>WtD T Γ A ops st k) r ((Code.region id ops true).wp P Q):=λst a w G ν hr h=>by
 simp only[WtD,Wlp]at h;obtain⟨pO,h⟩:=WaC h;have hR:=WpE pO;refine wp_region_draw λt=>?_;rw[hM];have hl:Order ops (Region.schedule true ops t):=WiY hR.back;generalize Region.schedule true ops t=l at hl;have hσ:l.filter (WaB ops)∈Wt3 (Wei ops.toList []) ops.size (Wg5 ops.toList 0):=by
  refine Wod _ _ _ ?_ (hl.nodup.filter _) (λi=>?_) (λp m s e m' dV=>?_)
  .refine Xbe (Xef _ _) ?_;have eb:l.length<=(Xcz ops.size).length:=by
    have key:∀(a b:List Nat),a.Nodup->(∀x∈a,x∈b)->a.length<=b.length:=by
     intro a
     induction a with
     |nil=>intro b _ _;simp
     |cons x a ih=>
      intro b lF fL;rw[Xac]at lF;have ng:x∈b:=fL x (Xj ..);have:=ih (b.erase x) lF.2 λy hy=>(Xgf (λe=>lF.1 (by rw[←e];exact hy))).2 (fL y (Xf _ hy));rw[Xfj ng]at this;have hpos:=Xfx ng;simp;omega
    exact key _ _ hl.nodup λx hx=>Xdy.2 ((hl.all x).2 hx)
   rw[Xfc]at eb;exact eb
  .rw[Wl0,Xax];constructor
   .intro h;refine⟨(hl.all i).1 ?_,h⟩;unfold WaB at h;split at h
    .rename_i o ho;exact(Xcy.1 ho).1
    .cases h
   .exactλh=>h.2
  .cases hb:WcN (Wei ops.toList []) m' m with
   |false=>rfl
   |true=>
    exfalso;have jW:m∈l:=(Xax.1 (by rw[e];simp:m∈l.filter (WaB ops))).1;obtain⟨u,v,eu⟩:=Xdv jW;have hm'u:m'∈u++ [m]:=hl.bef (p:=u++ [m]) (s:=v) (by rw[eu];simp) hb (by simp);have rH:WaB ops m=true:=(Xax.1 (by rw[e];simp:m∈l.filter (WaB ops))).2;have ni:=hl.nodup.filter (WaB ops);have e2:l.filter (WaB ops)=u.filter (WaB ops)++m::v.filter (WaB ops):=by rw[eu,Xcm,Xbg,Wf rH]
    have tf:p=u.filter (WaB ops):=by
     refine Wfp (b:=s) (d:=v.filter (WaB ops)) (x:=m) ?_ ?_
     .rw[←e];exact ni
     .rw[←e,e2]
    rcases Xr.1 dV with rfl|hm's
    .
     have:=hl.bef (p:=u++ [m']) (s:=v) (by rw[eu];simp) hb (by simp);have hcl:WlJ ops (λj=>j∈u\/(j=m'/\False)):=λi o ho hi d hd=>by
      rcases hi with hi|⟨_,hf⟩
      .exact .inl (hl.closed (p:=u) (s:=m'::v) eu i o ho hi d hd)
      .exact hf.elim
     have back:∀(j i:Nat),WcN (Wei ops.toList []) j i=true->j<i:=λj i nd=>by
      have hcl2:WlJ ops (λx=>x<i\/(x=i)):=λx o ho hx d hd=>by
       have:d<x:=hR.back x o ho d hd;omega
      refine Classical.byContradiction λhn=>?_;have hlt:∀(l:List Oper) (acc:List (List Nat)),(∀(k:Nat) (o:Oper),l[k]?=some o->ops[acc.length+k]?=some o)->(∀i,∀j∈acc.getD i [],j<i)->∀i,∀j∈(Wei l acc).getD i [],j<i:=by
       intro l
       induction l with
       |nil=>intro acc _ h;exact h
       |cons o l ih=>
        intro acc hl h;refine ih _ (λk o' hk=>?_) (λi j hj=>?_)
        .have:=hl (k+1) o' (by simpa using hk);rw[Xw];have e:acc.length+(k+1)=acc.length+ [Wkv acc (Wmc o) []].length+k:=by simp;omega
         rw[←e];exact this
        .rw[Xbo,Xau]at hj;split at hj
         .exact h i j (by rw[Xbo];exact hj)
         .by_cases he:i=acc.length
          .subst he;simp only[Xcu,Xdg,Xdn]at hj;rcases(Wit _ _).1 hj with⟨k,hk,iS⟩|hj
           .have ow:k<acc.length:=hR.back acc.length o (hl 0 o (by simp)) k hk;rcases iS with rfl|iS
            .exact ow
            .have:=h k j iS;omega
           .cases hj
          .have:[Wkv acc (Wmc o) []][i-acc.length]?=none:=Xcn (by simp;omega);rw[this]at hj;cases hj
      exact hn (hlt ops.toList [] (λk o hk=>by simpa using hk) (λi j hj=>by simp at hj) i j ((WaF _ _).1 nd))
     have:=back m' m' hb;omega
    .
     have hm'l:m'∈p:=by
      rw[tf];rcases Xn.1 hm'u with h|h
      .refine Xax.2 ⟨h,?_⟩;exact(Xax.1 (by rw[e];simp[hm's]:m'∈l.filter (WaB ops))).2
      .simp at h;subst h;rw[e]at ni;have:=(Xac.1 (Xad.1 ni).2.1).1;exact WC hm's this
     rw[e]at ni;exact(Xad.1 ni).2.2 m' hm'l m' (Xf _ hm's) rfl
 obtain⟨L,g1,g2,g3⟩:=WoI _ h _ hσ;have hL:=Wnm g1;obtain⟨rs,af,q1,q2,q3,q4,_,_⟩:=Wj5 _ _ _ _ g3;have hf:l.filter (WaB ops)=L.filter (WaB ops):=by
  rw[←g2];refine List.filter_congr λi hi=>?_;cases hm:WaB ops i with
  |true=>exact(WaF _ _).2 (Xax.2 ⟨(hl.all i).1 ((hL.all i).2 hi),hm⟩)
  |false=>
   cases he:Wb4 i (l.filter (WaB ops))with
   |false=>rfl
   |true=>
    have:=(Xax.1 ((WaF _ _).1 he)).2;rw[hm]at this;cases this
 have bP:Rel w0 F nt G0 G ν st a {w with drawn:=w.drawn+1}:=⟨hr.defers,hr.ntm,hr.par,hr.env,?_,hr.gx⟩
 .exact Wqu hT hΓ hd hl hL hR.one hR.slots hf q1 q2 q4 (λa w G ν hr=>hK af a w G ν hr q3) bP
 .exact hr.h.drew
end
end Go.Sx
namespace Go.Sx
set_option linter.unusedVariables false
set_option linter.unusedSimpArgs false
section
variable{w0:World}{F:CS}{nt:Slots}{G0:GH}{P:Program}{T:Tab}{Γ:Ctx}{A:List (Nat×An)}{R:Type}{r:R}
theorem WnG(hM:P.follows .mixedOrders=true)(hT:Waf P T)(hΓ:WeY P Γ){n:Nat}{kept:List Nat}(hn:nt.n=n)(lG:∀p∈nt.kept,p.1∈kept){ann:Nat->List Ghost}{N:Nat}:∀(c:Code),Wdw n kept c=true->∀{k:Ex->St->Option R} {Q:Exit->Act->World->Prop},
  (∀e,Wqy w0 F nt G0 (k e) r (Q e.to))->Wqy w0 F nt G0 (λst=>sx T Γ ann N c st k) r (c.wp P Q)
 | .skip,_,k,Q,hK=>λst a w G ν hr h=>wp_skip (hK .normal st a w G ν hr h)
 | .exit id,_,k,Q,hK=>λst a w G ν hr h=>wp_exit (hK (.exit id) st a w G ν hr h)
 | .ret,_,k,Q,hK=>λst a w G ν hr h=>wp_ret (hK .ret st a w G ν hr h)
 | .region id ops draw,ci,k,Q,hK=>λst a w G ν hr h=>by
  have kg:Wqy w0 F nt G0 (λaf=>match WdX (ann id) af with|some (c,co)=>bif c then k .normal co else none|none=>none) r (Q .normal):=λaf a' w' G' ν' bP h'=>by
   simp only at h';split at h'
   .rename_i c co hg;obtain⟨rfl,h'⟩:=WaC h';obtain⟨G2,ν2,iB⟩:=Wdk _ _ _ _ _ bP hg;exact hK .normal _ _ _ _ _ iB h'
   .cases h'
  have nj:∀o∈ops,∀d,o.dst=some d->nt.Ok d:=λo ho=>WnE hn lG (Xae.1 ci o (by simpa using ho));cases draw with
  |true=>exact Wsb hM hT hΓ nj kg st a w G ν hr h
  |false=>exact wp_region_list (Wtb hT hΓ ops.toList (λo ho=>nj o (by simpa using ho)) kg st a w G ν hr h)
 | .seq x y,ci,k,Q,hK=>λst a w G ν hr h=>by
  simp only[Wdw,Xi]at ci;refine wp_seq (WnG hM hT hΓ hn lG x ci.1 (Q:=Exit.then (y.wp P Q) Q) (λe=>?_) st a w G ν hr h);cases e with
  |normal=>exact WnG hM hT hΓ hn lG y ci.2 hK
  |exit id=>exact hK (.exit id)
  |ret=>exact hK .ret
 | .cond c x y,ci,k,Q,hK=>λst a w G ν hr h=>by
  simp only[Wdw,Xi]at ci;simp only[sx]at h;split at h
  .rename_i b hb;cases hv:ev st c with
   |none=>simp[hv]at hb
   |some v=>
    simp only[hv,Xd]at hb;have hc:=Wnb v _ b (WL hr c v hv) hb;refine wp_cond hc ?_;cases b with
    |true=>exact WnG hM hT hΓ hn lG x ci.1 hK st a w G ν hr h
    |false=>exact WnG hM hT hΓ hn lG y ci.2 hK st a w G ν hr h
  .cases h
 | .block id c,ci,k,Q,hK=>λst a w G ν hr h=>by
  simp only[Wdw]at ci;refine wp_block (WnG hM hT hΓ hn lG c ci (Q:=Exit.inBlock id Q) (λe=>?_) st a w G ν hr h);cases e with
  |normal=>exact hK .normal
  |exit bN=>
   intro af a' w' G' ν' bP h';simp only[Ex.to,Exit.inBlock];split
   .rename_i he;simp only[he,W2]at h';exact hK .normal _ _ _ _ _ bP h'
   .rename_i he;simp only[he,Wal]at h';exact hK (.exit bN) _ _ _ _ _ bP h'
  |ret=>exact hK .ret
 | .loop c,ci,k,Q,hK=>λst a w G ν hr h=>by
  simp only[Wdw]at ci;refine wp_loop_rounds N ?_;have key:∀(m:Nat),Wqy w0 F nt G0 (λst=>WmX (WjH (ann (Wfl c)) λst k=>sx T Γ ann N c st k) m st k) r (Code.rounds P c Q m):=by
   intro m
   induction m with
   |zero=>intro st a w G ν hr h;cases h
   |succ m ih=>
    intro st a w G ν hr h;rw[rounds_succ];have h:sx T Γ ann N c st (λe af=>match e with
     | .normal=>match WdX (ann (Wfl c)) af with
      |some (b,co)=>bif b then WmX (WjH (ann (Wfl c)) λst k=>sx T Γ ann N c st k) m co k else none
      |none=>none
     | .exit id=>k (.exit id) af
     | .ret=>k .ret af)=some r:=by
     rw[←h];simp only[WmX,WjH];congr 1
    refine WnG hM hT hΓ hn lG c ci (Q:=Exit.then (Code.rounds P c Q m) Q) (λe=>?_) st a w G ν hr h;cases e with
    |normal=>
     intro af a' w' G' ν' bP h';simp only at h';split at h'
     .rename_i b co hg;obtain⟨rfl,h'⟩:=WaC h';obtain⟨G2,ν2,iB⟩:=Wdk _ _ _ _ _ bP hg;exact ih _ _ _ _ _ iB h'
     .cases h'
    |exit id=>exact hK (.exit id)
    |ret=>exact hK .ret
  have h:(match WdX (ann (Wfl c)) st with
   |some (b,af)=>bif b then WmX (WjH (ann (Wfl c)) λst k=>sx T Γ ann N c st k) N af k else none
   |none=>none)=some r:=h
  split at h
  .rename_i b af hg;obtain⟨rfl,h⟩:=WaC h;obtain⟨G2,ν2,iB⟩:=Wdk _ _ _ _ _ hr hg;exact key N _ _ _ _ _ iB h
  .cases h
 | .scope ..,_,k,Q,hK=>λst a w G ν hr h=>by cases h
 | .label ..,_,k,Q,hK=>λst a w G ν hr h=>by cases h
 | .goto ..,_,k,Q,hK=>λst a w G ν hr h=>by cases h
 | .rangeFunc ..,_,k,Q,hK=>λst a w G ν hr h=>by cases h
 | .refuse ..,_,k,Q,hK=>λst a w G ν hr h=>by cases h
end
end Go.Sx
namespace Go.Sx
set_option linter.unusedVariables false
set_option linter.unusedSimpArgs false
section
variable{w0:World}{F:CS}{nt:Slots}{G0 G G':GH}{ν:Nat->Nu}{φ:Nat->CS}{objs:W9}{nx aj:Nat}{st af:St}{a:Act}{w w':World}{P:Program}{T:Tab}{Γ:Ctx}
theorem Wha:∀(xs:List AVal) (j i:Nat),Wq (WgL j xs) i=if j<=i then xs[i-j]? else none
 | [],j,i=>by simp[WgL,Wq]
 |x::xs,j,i=>by
  simp only[WgL];rw[WG,Wha xs (j+1) i];by_cases h:j=i
  .subst h;simp
  .by_cases h2:j<=i
   .have h3:j+1<=i:=by omega
    rw[Wb h,Wf h3,Wf h2,show i-j=(i-(j+1))+1 by omega];rfl
   .rw[Wb h,Wb h2,Wb (by omega)]
theorem Wjl:∀(l:List Nat),WrK (WjX l)=l
 | []=>rfl
 |i::l=>by
  show i::WrK (WjX l)=i::l;rw[Wjl l]
theorem Wjq:∀(ps:List PTy) (d:We1 ps) (objs:W9) (nx n:Nat),WjV ps n=true->∃ids,ids.length=n/\(WP ps d objs nx).1.take n=WjX ids
 |_,_,_,_,0,_=>⟨[],rfl,rfl⟩
 | [],_,_,_,_+1,h=>by cases h
 | .v _ _::_,_,_,_,_+1,h=>by cases h
 | .mut _::_,_,_,_,_+1,h=>by cases h
 | .clos _ _::_,_,_,_,_+1,h=>by cases h
 | .kv _ _::_,_,_,_,_+1,h=>by cases h
 | .rp _::_,_,_,_,_+1,h=>by cases h
 | .vj _::_,_,_,_,_+1,h=>by cases h
 | .boxal _ _::_,_,_,_,_+1,h=>by cases h
 | .box t::ps,d,objs,nx,n+1,h=>by
  obtain⟨ids,h1,h2⟩:=Wjq ps d.2 ((nx,.box (unfold t d.1 (nx+1)).1)::((unfold t d.1 (nx+1)).2.1++objs)) (unfold t d.1 (nx+1)).2.2 n h;refine⟨nx::ids,by simp[h1],?_⟩;simp only[WP,List.take_succ_cons,h2];rfl
theorem Wb5:∀(ps:List PTy) (d:We1 ps) (vs:List Value) (ns:List Pc) (ks:List Nu) (objs:W9) (nx aj:Nat),Wcd ps=true->Wa5 G w ps d vs ns ks->At ν φ nx ns->nx+ns.length<=aj->
  (WP ps d objs nx).2.2=nx+ns.length/\
  (∀id ob,Wq (WP ps d objs nx).2.1 id=some ob->(nx<=id/\id<nx+ns.length/\Wch G ν aj w id (φ id) ob)\/Wq objs id=some ob)/\
  (WP ps d objs nx).1.length=vs.length/\∀(j:Nat) (x:AVal) (v:Value),(WP ps d objs nx).1[j]?=some x->vs[j]?=some v->AValRel G ν aj x v
 | [],d,vs,ns,ks,objs,nx,aj,_,⟨h1,h2,h3⟩,_,_=>by
  subst h1 h2;exact⟨rfl,λid ob h=>.inr h,rfl,λj x v h=>by simp[WP]at h⟩
 | .v t agg::ps,d,vs,ns,ks,objs,nx,aj,fj,⟨v,vs',n1,n2,h1,h2,h3,h4⟩,hν,hx=>by
  subst h2;obtain⟨us,iM⟩:=Wm4 h3;have bv:=W1 _ _ _ _ iM;have hlen:(n1++n2).length=t.owns+n2.length:=by rw[Xw,bv]
  obtain⟨_,o1⟩:=Wao t d.1 nx us n1 iM hν.left;obtain⟨e1,e2,e3,e4⟩:=Wb5 ps d.2 vs' n2 ks ((unfold t d.1 nx).2.1++objs) (nx+t.owns) aj fj h4 (hν.right bv) (by omega);simp only[WP,WaE];refine⟨by rw[e1,hlen];omega,λid ob hl=>?_,by rw[h1];simp[e3],λj x u hj hu=>?_⟩
  .rcases e2 id ob hl with⟨g1,g2,g3⟩|g
   .exact .inl ⟨by omega,by omega,g3⟩
   .rcases WK g with g|g
    .obtain⟨g1,g2,e,xs,rfl,g3⟩:=o1 id ob g;exact .inl ⟨g1,by omega,g3⟩
    .exact .inr g
  .rw[h1]at hu;cases j with
   |zero=>simp at hj hu;subst hj hu;exact WkH h3 hν.left (by omega)
   |succ j=>exact e4 j x u (by simpa using hj) (by simpa using hu)
 | .kv t agg::ps,d,vs,ns,ks,objs,nx,aj,fj,⟨v,vs',n1,n2,ks',h1,h2,_,h3,h4⟩,hν,hx=>by
  subst h2;obtain⟨us,iM⟩:=Wm4 h3;have bv:=W1 _ _ _ _ iM;have hlen:(n1++n2).length=t.owns+n2.length:=by rw[Xw,bv]
  obtain⟨_,o1⟩:=Wao t d.1 nx us n1 iM hν.left;obtain⟨e1,e2,e3,e4⟩:=Wb5 ps d.2 vs' n2 ks' ((unfold t d.1 nx).2.1++objs) (nx+t.owns) aj fj h4 (hν.right bv) (by omega);simp only[WP,WaE];refine⟨by rw[e1,hlen];omega,λid ob hl=>?_,by rw[h1];simp[e3],λj x u hj hu=>?_⟩
  .rcases e2 id ob hl with⟨g1,g2,g3⟩|g
   .exact .inl ⟨by omega,by omega,g3⟩
   .rcases WK g with g|g
    .obtain⟨g1,g2,e,xs,rfl,g3⟩:=o1 id ob g;exact .inl ⟨g1,by omega,g3⟩
    .exact .inr g
  .rw[h1]at hu;cases j with
   |zero=>simp at hj hu;subst hj hu;exact WkH h3 hν.left (by omega)
   |succ j=>exact e4 j x u (by simpa using hj) (by simpa using hu)
 | .box t::ps,d,vs,ns,ks,objs,nx,aj,fj,⟨b,o,vs',n1,n2,ks',h1,h2,h3,⟨us,hrow,hmem,gv⟩,h6⟩,hν,hx=>by
  subst h2;have bv:=W1 _ _ _ _ gv;have hlen:((⟨WbR b o,rng b o t.size⟩:Pc)::(n1++n2)).length=1+t.owns+n2.length:=by rw[Xq,Xw,bv];omega
  obtain⟨hν0,hφ0⟩:ν nx=WbR b o/\φ nx=rng b o t.size:=by have:=hν 0 _ rfl;simpa using this
  have hν1:At ν φ (nx+1) (n1++n2):=hν.right (n1:=[⟨WbR b o,rng b o t.size⟩]) rfl;obtain⟨c1,o1⟩:=Wao t d.1 (nx+1) us n1 gv hν1.left;have cX:=WbN t d.1 (nx+1);obtain⟨e1,e2,e3,e4⟩:=Wb5 ps d.2 vs' n2 ks' ((nx,.box (unfold t d.1 (nx+1)).1)::((unfold t d.1 (nx+1)).2.1++objs)) (nx+1+t.owns) aj fj h6 (hν1.right bv) (by omega);simp only[WP,WaE];refine⟨by rw[e1,hlen];omega,λid ob hl=>?_,by rw[h1];simp[e3],λj x u hj hu=>?_⟩
  .rcases e2 id ob hl with⟨g1,g2,g3⟩|g
   .exact .inl ⟨by omega,by omega,g3⟩
   .rw[WG]at g;split at g
    .rename_i e;subst e;injection g with g;subst g;exact .inl ⟨Xl _,by omega,b,us,by rw[hν0];rfl,by rw[hν0,cX];exact hrow,by rw[hν0];exact hmem,c1 aj (by omega),by rw[hν0,cX,hφ0];exactλ_ _ hh=>hh⟩
    .rcases WK g with g|g
     .obtain⟨g1,g2,e,xs,rfl,g3⟩:=o1 id ob g;exact .inl ⟨by omega,by omega,g3⟩
     .exact .inr g
  .rw[h1]at hu;cases j with
   |zero=>
    simp at hj hu;subst hj hu;exact⟨⟨by omega,b,by rw[hν0];rfl,by rw[hν0];rfl⟩,rfl⟩
   |succ j=>exact e4 j x u (by simpa using hj) (by simpa using hu)
 | .vj _::_,_,_,_,_,_,_,_,_,h,_,_=>h.elim
 | .boxal t lf::ps,d,vs,ns,ks,objs,nx,aj,fj,⟨b,o,b',pc,vs',n1,n2,ks',h1,h2,h3,⟨us,hrow,hmem,gv⟩,h4,h5,h7,h6⟩,hν,hx=>by
  subst h2;have bv:=W1 _ _ _ _ gv;have hlen:((⟨WbR b o,rng b o t.size⟩:Pc)::(n1++n2)).length=1+t.owns+n2.length:=by rw[Xq,Xw,bv];omega
  obtain⟨hν0,hφ0⟩:ν nx=WbR b o/\φ nx=rng b o t.size:=by have:=hν 0 _ rfl;simpa using this
  have hν1:At ν φ (nx+1) (n1++n2):=hν.right (n1:=[⟨WbR b o,rng b o t.size⟩]) rfl;obtain⟨c1,o1⟩:=Wao t d.1 (nx+1) us n1 gv hν1.left;have cX:=WbN t d.1 (nx+1);have oJ:lf<n1.length:=(Xaa.1 h4).1;have hνl:ν (nx+1+lf)=pc.nu:=(hν1.left lf pc h4).1;obtain⟨e1,e2,e3,e4⟩:=Wb5 ps d.2.2 vs' n2 ks' ((nx,.box (unfold t d.1 (nx+1)).1)::((unfold t d.1 (nx+1)).2.1++objs)) (nx+1+t.owns) aj fj h6 (hν1.right bv) (by omega);simp only[WP,WaE];refine⟨by rw[e1,hlen];omega,λid ob hl=>?_,by rw[h1];simp[e3],λj x u hj hu=>?_⟩
  .rcases e2 id ob hl with⟨g1,g2,g3⟩|g
   .exact .inl ⟨by omega,by omega,g3⟩
   .rw[WG]at g;split at g
    .rename_i e;subst e;injection g with g;subst g;exact .inl ⟨Xl _,by omega,b,us,by rw[hν0];rfl,by rw[hν0,cX];exact hrow,by rw[hν0];exact hmem,c1 aj (by omega),by rw[hν0,cX,hφ0];exactλ_ _ hh=>hh⟩
    .rcases WK g with g|g
     .obtain⟨g1,g2,e,xs,rfl,g3⟩:=o1 id ob g;exact .inl ⟨by omega,by omega,g3⟩
     .exact .inr g
  .rw[h1]at hu
   match j with
   |0=>
    simp at hj hu;subst hj hu;exact⟨⟨by omega,b,by rw[hν0];rfl,by rw[hν0];rfl⟩,rfl⟩
   |1=>
    simp at hj hu;subst hj hu;exact⟨⟨by omega,by rw[hνl];exact h7,b',by rw[hνl];exact h5,by rw[hνl];rfl⟩,rfl⟩
   |j+2=>exact e4 j x u (by simpa using hj) (by simpa using hu)
 | .rp t::ps,d,vs,ns,ks,objs,nx,aj,fj,⟨b,o,us,vs',h1,h2,h3,h4⟩,hν,hx=>by
  obtain⟨e1,e2,e3,e4⟩:=Wb5 ps d.2 vs' ns ks objs nx aj fj h4 hν hx;simp only[WP];refine⟨e1,e2,by rw[h1];simp[e3],λj x u hj hu=>?_⟩;rw[h1]at hu;cases j with
  |zero=>
   simp at hj hu;subst hj hu;exact⟨⟨b,o,us,by rw[Xbd],h2,h3⟩,rfl⟩
  |succ j=>exact e4 j x u (by simpa using hj) (by simpa using hu)
 | .mut e::ps,d,vs,ns,ks,objs,nx,aj,fj,⟨pc,vs',n2,ks',h1,h2,h3,h4,h5⟩,hν,hx=>by
  subst h2;have hlen:(pc::n2).length=1+n2.length:=by rw[Xq];omega
  obtain⟨hν0,hφ0⟩:ν nx=pc.nu/\φ nx=pc.fp:=by have:=hν 0 _ rfl;simpa using this
  obtain⟨e1,e2,e3,e4⟩:=Wb5 ps d.2 vs' n2 ks' ((nx,.arr e d.1)::objs) (nx+1) aj fj h5 (hν.right (n1:=[pc]) rfl) (by omega);simp only[WP];refine⟨by rw[e1,hlen];omega,λid ob hl=>?_,by rw[h1];simp[e3],λj x u hj hu=>?_⟩
  .rcases e2 id ob hl with⟨g1,g2,g3⟩|g
   .exact .inl ⟨by omega,by omega,g3⟩
   .rw[WG]at g;split at g
    .rename_i e;subst e;injection g with g;subst g;refine .inl ⟨Xl _,by omega,?_⟩;show OwnL w (TyRel G w _) _ (ν nx) d.1 (φ nx);rw[hν0,hφ0];exact h4
    .exact .inr g
  .rw[h1]at hu;cases j with
   |zero=>
    simp at hj hu;subst hj hu;exact⟨⟨by omega,by rw[hν0]⟩,Wiy _⟩
   |succ j=>exact e4 j x u (by simpa using hj) (by simpa using hu)
 | .clos g n::ps,d,vs,ns,ks,objs,nx,aj,fj,⟨cvs,vs',h1,h2,h3,h4⟩,hν,hx=>by
  simp only[Wcd,Xi]at fj;obtain⟨e1,e2,e3,e4⟩:=Wb5 ps d (cvs++vs') ns ks objs nx aj fj.2 h4 hν hx;obtain⟨ids,g1,g2⟩:=Wjq ps d objs nx n fj.1;simp only[WP];rw[g2,Wjl];have hlen:(WP ps d objs nx).1.length=n+vs'.length:=by rw[e3,Xw,h2]
  have pP:∀(j id:Nat),ids[j]?=some id->(WP ps d objs nx).1[j]?=some (AVal.s (.one (.ptr id 0))):=λj id hj=>by
   have hlt:j<n:=by rw[←g1];exact(Xaa.1 hj).1
   have:((WP ps d objs nx).1.take n)[j]?=some (.s (.one (.ptr id 0))):=by rw[g2];simp[WjX,hj]
   rw[List.getElem?_take,Wf hlt]at this;exact this
  refine⟨e1,e2,by rw[h1];simp[hlen],λj x u hj hu=>?_⟩;rw[h1]at hu;cases j with
  |zero=>
   simp at hj hu;subst hj hu;refine⟨⟨cvs,rfl,by rw[h2,g1],λj id u hj hu=>?_⟩,rfl⟩;have hlt:j<cvs.length:=(Xaa.1 hu).1;obtain⟨⟨q1,q2⟩,q3⟩:=e4 j _ u (pP j id hj) (by rw[List.getElem?_append_left hlt];exact hu);exact⟨q1,q3,q2⟩
  |succ j=>
   have hj':(WP ps d objs nx).1[n+j]?=some x:=by
    rw[←List.getElem?_drop];simpa using hj
   exact e4 (n+j) x u hj' (by rw[Xcd (by omega),h2,Xcb];simpa using hu)
theorem Wc2:∀(ps:List PTy) (d:We1 ps) (vs:List Value) (ns:List Pc) (ks:List Nu),Wa5 G w ps d vs ns ks->vs.length<=WbD ps
 | [],d,vs,ns,ks,⟨h1,_,_⟩=>by rw[h1];exact Xl _
 | .v t agg::ps,d,vs,ns,ks,⟨v,vs',n1,n2,h1,h2,h3,h4⟩=>by rw[h1,Xq];have:=Wc2 ps _ _ _ _ h4;simp only[WbD];omega
 | .box t::ps,d,vs,ns,ks,⟨b,o,vs',n1,n2,ks',h1,h2,h3,h4,h6⟩=>by rw[h1,Xq];have:=Wc2 ps _ _ _ _ h6;simp only[WbD];omega
 | .mut e::ps,d,vs,ns,ks,⟨pc,vs',n2,ks',h1,h2,h3,h4,h5⟩=>by rw[h1,Xq];have:=Wc2 ps _ _ _ _ h5;simp only[WbD];omega
 | .clos g n::ps,d,vs,ns,ks,⟨cvs,vs',h1,h2,h3,h4⟩=>by rw[h1,Xq];have:=Wc2 ps _ _ _ _ h4;simp at this;simp only[WbD];omega
 | .kv t agg::ps,d,vs,ns,ks,⟨v,vs',n1,n2,ks',h1,h2,iO,h3,h4⟩=>by rw[h1,Xq];have:=Wc2 ps _ _ _ _ h4;simp only[WbD];omega
 | .rp t::ps,d,vs,ns,ks,⟨b,o,us,vs',h1,h2,h3,h4⟩=>by rw[h1,Xq];have:=Wc2 ps _ _ _ _ h4;simp only[WbD];omega
 | .vj _::_,_,_,_,_,h=>h.elim
 | .boxal t lf::ps,d,vs,ns,ks,⟨b,o,b',pc,vs',n1,n2,ks',h1,h2,h3,h4,h5,h6,h7,h8⟩=>by rw[h1,Xq,Xq];have:=Wc2 ps _ _ _ _ h8;simp only[WbD];omega
def WnA(i:Nat)(vs:List Value):List (Nat×Value):=match vs with
 |v::_=>[(i,v)]
 | []=>[]
def WH:List PTy->Nat->Nat->List Value->List (Nat×Value)
 | [],_,_,_=>[]
 |_::ps,i,k+1,vs=>WH ps i k vs
 | .v _ _::ps,i,0,vs=>WH ps (i+1) 0 vs.tail
 | .box _::ps,i,0,vs=>WnA i vs++WH ps (i+1) 0 vs.tail
 | .mut _::ps,i,0,vs=>WnA i vs++WH ps (i+1) 0 vs.tail
 | .clos _ n::ps,i,0,vs=>WnA i vs++WH ps (i+1) n vs.tail
 | .kv _ _::ps,i,0,vs=>WnA i vs++WH ps (i+1) 0 vs.tail
 | .rp _::ps,i,0,vs=>WH ps (i+1) 0 vs.tail
 | .vj _::ps,i,0,vs=>WH ps (i+1) 0 vs.tail
 | .boxal _ _::ps,i,0,vs=>WnA i vs++WH ps (i+2) 0 vs.tail.tail
theorem Wbf{i:Nat}{vs:List Value}{p:Nat×Value}(h:p∈WnA i vs):p.1=i/\vs[0]?=some p.2:=by
 unfold WnA at h;split at h
 .simp at h;subst h;exact⟨rfl,rfl⟩
 .cases h
theorem WU:∀(ps:List PTy) (i k:Nat) (vs:List Value),∀p∈WH ps i k vs,p.1∈WdY ps i k
 | [],_,_,_,p,h=>by simp[WH]at h
 | .v _ _::ps,i,k+1,vs,p,h=>WU ps i k vs p h
 | .box _::ps,i,k+1,vs,p,h=>WU ps i k vs p h
 | .mut _::ps,i,k+1,vs,p,h=>WU ps i k vs p h
 | .clos _ _::ps,i,k+1,vs,p,h=>WU ps i k vs p h
 | .v _ _::ps,i,0,vs,p,h=>WU ps (i+1) 0 vs.tail p h
 | .box _::ps,i,0,vs,p,h=>by
  simp only[WH]at h;rcases Xn.1 h with h|h
  .rw[(Wbf h).1];exact Xj ..
  .exact Xf _ (WU ps (i+1) 0 vs.tail p h)
 | .mut _::ps,i,0,vs,p,h=>by
  simp only[WH]at h;rcases Xn.1 h with h|h
  .rw[(Wbf h).1];exact Xj ..
  .exact Xf _ (WU ps (i+1) 0 vs.tail p h)
 | .clos _ n::ps,i,0,vs,p,h=>by
  simp only[WH]at h;rcases Xn.1 h with h|h
  .rw[(Wbf h).1];exact Xj ..
  .exact Xf _ (WU ps (i+1) n vs.tail p h)
 | .kv _ _::ps,i,k+1,vs,p,h=>WU ps i k vs p h
 | .kv _ _::ps,i,0,vs,p,h=>by
  simp only[WH]at h;rcases Xn.1 h with h|h
  .rw[(Wbf h).1];exact Xj ..
  .exact Xf _ (WU ps (i+1) 0 vs.tail p h)
 | .rp _::ps,i,k+1,vs,p,h=>WU ps i k vs p h
 | .rp _::ps,i,0,vs,p,h=>WU ps (i+1) 0 vs.tail p h
 | .vj _::ps,i,k+1,vs,p,h=>WU ps i k vs p h
 | .vj _::ps,i,0,vs,p,h=>WU ps (i+1) 0 vs.tail p h
 | .boxal _ _::ps,i,k+1,vs,p,h=>WU ps i k vs p h
 | .boxal _ _::ps,i,0,vs,p,h=>by
  simp only[WH]at h;rcases Xn.1 h with h|h
  .rw[(Wbf h).1];exact Xj ..
  .exact Xf _ (WU ps (i+2) 0 vs.tail.tail p h)
theorem WN:∀(ps:List PTy) (i k:Nat) (vs:List Value),∀p∈WH ps i k vs,i<=p.1/\vs[p.1-i]?=some p.2
 | [],_,_,_,p,h=>by simp[WH]at h
 | .v _ _::ps,i,k+1,vs,p,h=>WN ps i k vs p h
 | .box _::ps,i,k+1,vs,p,h=>WN ps i k vs p h
 | .mut _::ps,i,k+1,vs,p,h=>WN ps i k vs p h
 | .clos _ _::ps,i,k+1,vs,p,h=>WN ps i k vs p h
 | .v _ _::ps,i,0,vs,p,h=>by
  obtain⟨h1,h2⟩:=WN ps (i+1) 0 vs.tail p h;refine⟨by omega,?_⟩;rw[show p.1-i=(p.1-(i+1))+1 by omega,←Xca];exact h2
 | .box _::ps,i,0,vs,p,h=>by
  simp only[WH]at h;rcases Xn.1 h with h|h
  .obtain⟨h1,h2⟩:=Wbf h;rw[h1];exact⟨Xl _,by rw[Xcu];exact h2⟩
  .obtain⟨h1,h2⟩:=WN ps (i+1) 0 vs.tail p h;refine⟨by omega,?_⟩;rw[show p.1-i=(p.1-(i+1))+1 by omega,←Xca];exact h2
 | .mut _::ps,i,0,vs,p,h=>by
  simp only[WH]at h;rcases Xn.1 h with h|h
  .obtain⟨h1,h2⟩:=Wbf h;rw[h1];exact⟨Xl _,by rw[Xcu];exact h2⟩
  .obtain⟨h1,h2⟩:=WN ps (i+1) 0 vs.tail p h;refine⟨by omega,?_⟩;rw[show p.1-i=(p.1-(i+1))+1 by omega,←Xca];exact h2
 | .clos _ n::ps,i,0,vs,p,h=>by
  simp only[WH]at h;rcases Xn.1 h with h|h
  .obtain⟨h1,h2⟩:=Wbf h;rw[h1];exact⟨Xl _,by rw[Xcu];exact h2⟩
  .obtain⟨h1,h2⟩:=WN ps (i+1) n vs.tail p h;refine⟨by omega,?_⟩;rw[show p.1-i=(p.1-(i+1))+1 by omega,←Xca];exact h2
 | .kv _ _::ps,i,k+1,vs,p,h=>WN ps i k vs p h
 | .kv _ _::ps,i,0,vs,p,h=>by
  simp only[WH]at h;rcases Xn.1 h with h|h
  .obtain⟨h1,h2⟩:=Wbf h;rw[h1];exact⟨Xl _,by rw[Xcu];exact h2⟩
  .obtain⟨h1,h2⟩:=WN ps (i+1) 0 vs.tail p h;refine⟨by omega,?_⟩;rw[show p.1-i=(p.1-(i+1))+1 by omega,←Xca];exact h2
 | .rp _::ps,i,k+1,vs,p,h=>WN ps i k vs p h
 | .rp _::ps,i,0,vs,p,h=>by
  obtain⟨h1,h2⟩:=WN ps (i+1) 0 vs.tail p h;refine⟨by omega,?_⟩;rw[show p.1-i=(p.1-(i+1))+1 by omega,←Xca];exact h2
 | .vj _::ps,i,k+1,vs,p,h=>WN ps i k vs p h
 | .vj _::ps,i,0,vs,p,h=>by
  obtain⟨h1,h2⟩:=WN ps (i+1) 0 vs.tail p h;refine⟨by omega,?_⟩;rw[show p.1-i=(p.1-(i+1))+1 by omega,←Xca];exact h2
 | .boxal _ _::ps,i,k+1,vs,p,h=>WN ps i k vs p h
 | .boxal _ _::ps,i,0,vs,p,h=>by
  simp only[WH]at h;rcases Xn.1 h with h|h
  .obtain⟨h1,h2⟩:=Wbf h;rw[h1];exact⟨Xl _,by rw[Xcu];exact h2⟩
  .obtain⟨h1,h2⟩:=WN ps (i+2) 0 vs.tail.tail p h;refine⟨by omega,?_⟩;rw[show p.1-i=(p.1-(i+2))+1+1 by omega,←Xca,←Xca];exact h2
def WlG(tmps:Array Value):ResultVar->Sem Value
 | .tmp t=>pure (tmps.getD t undef)
 | .cell b t=>do loadVar t (←asAddr (tmps.getD b undef))
theorem Wkh(hT:Waf P T)(hr:Rel w0 F nt G0 G ν st a w):∀(l:List ResultVar) (xs:List AVal),Wet T st l=some xs->
  ∃vs:List Value,(l.mapM (WlG a.tmps)).run P w= .ok vs w/\vs.length=xs.length/\
   ∀(j:Nat) (x:AVal) (v:Value),xs[j]?=some x->vs[j]?=some v->AValRel G ν st.nx x v
 | [],xs,h=>by
  simp only[Wet]at h;injection h with h;subst h;exact⟨[],by simp,rfl,λj x v hj=>by simp at hj⟩
 | .tmp t::l,xs,h=>by
  simp only[Wet]at h;split at h
  .rename_i x oD h1 h2;injection h with h;subst h;obtain⟨vs,h3,h4,h5⟩:=Wkh hT hr l oD h2;obtain⟨v,hv,hx⟩:=hr.env t x h1;refine⟨v::vs,?_,by simp[h4],λj y u hj hu=>?_⟩
   .have lH:a.tmps.getD t undef=v:=by simp[Xck,hv]
    simp only[Xep,Sem.run_bind,WlG,Sem.run_pure,Result.andThen_ok,h3,lH]
   .cases j with
    |zero=>simp at hj hu;subst hj hu;exact hx
    |succ j=>exact h5 j y u (by simpa using hj) (by simpa using hu)
  .cases h
 | .cell b t::l,xs,h=>by
  simp only[Wet]at h;split at h
  .rename_i x oD h1 h2;injection h with h;subst h;obtain⟨vs,h3,h4,h5⟩:=Wkh hT hr l oD h2;cases hb:Wq st.env b with
   |none=>simp[hb]at h1
   |some y=>
    simp only[hb,Xd]at h1;obtain⟨v,hv,hx⟩:=hr.env b y hb;obtain⟨u,hu,tg⟩:=WgY hT hr.h hx h1;refine⟨u::vs,?_,by simp[h4],λj z q hj hq=>?_⟩
    .have lH:a.tmps.getD b undef=v:=by simp[Xck,hv]
     unfold Instr.loadAt at hu;rw[Sem.run_bind]at hu;obtain⟨p,rfl⟩:∃p,v= .pointer (some p):=by
      unfold Instr.sureAddr at hu;split at hu
      .exact⟨_,rfl⟩
      .simp[stuck]at hu
     simp only[Instr.sureAddr,Sem.run_pure,Result.andThen_ok]at hu;have ha:(asAddr (.pointer (some p))).run P w= .ok p w:=rfl;simp only[Xep,Sem.run_bind,WlG,Sem.run_pure,Result.andThen_ok,lH,ha,hu,h3]
    .cases j with
     |zero=>simp at hj hq;subst hj hq;exact tg
     |succ j=>exact h5 j z q (by simpa using hj) (by simpa using hq)
  .cases h
theorem Wdz(h:HR w0 F G ν φ objs nx w)(hg:GLe G G'):∀(rs:List PTy) (xs:List AVal) (vs:List Value) (A:Outs (Wgs rs)),vs.length=xs.length->
  (∀(j:Nat) (x:AVal) (v:Value),xs[j]?=some x->vs[j]?=some v->AValRel G ν nx x v)->Lent G' w φ objs A.lent->A.moved.Nodup->WaU rs xs objs=some A->
  ∃ns,Wga G' w rs A.d vs ns/\Sep (fps ns)/\(∀q∈ns,CS.le q.fp (FromL φ objs A.moved))/\(∀i∈A.moved,Live objs i)
 | [],xs,vs,A,hlen,hx,hl,aS,hf=>by
  simp only[WaU]at hf;split at hf
  .injection hf with hf;subst hf;have fy:vs= []:=Xz (by simpa using hlen);exact⟨[],⟨fy,rfl⟩,List.Pairwise.nil,by simp,by simp⟩
  .cases hf
 | .v t agg::rs,xs,vs,A,hlen,hx,hl,aS,hf=>by
  simp only[WaU]at hf;split at hf
  .rename_i x xs;split at hf
   .rename_i d m l A' h1 h2;injection hf with hf;subst hf
    match vs,hlen with
    |v::vs,hlen=>
     cases hc:cellsOf agg x with
     |none=>simp[hc]at h1
     |some cs=>
      simp[hc]at h1;obtain⟨k1,k2,k3⟩:=Xad.1 aS;obtain⟨n1,g1,g2,g3,g4,_⟩:=Wkm h hg (hx 0 x v rfl rfl) (hl.mono (λi hi=>Xm _ hi)) k1 hc h1;obtain⟨n2,g5,g6,g7,g8⟩:=Wdz h hg rs xs vs A' (by simpa using hlen) (λj y u hj hu=>hx (j+1) y u (by simpa using hj) (by simpa using hu)) (hl.mono (λi hi=>Xh _ hi)) k2 h2;refine⟨n1++n2,⟨v,vs,n1,n2,rfl,rfl,g1,g5⟩,Wb0 h g2 g6 g3 g7 (λi hi hj=>k3 i hi i hj rfl),λq hq=>?_,λi hi=>?_⟩
      .rcases Xn.1 hq with hq|hq
       .exactλb o hh=>FromL.mono (λi hi=>Xm _ hi) b o (g3 q hq b o hh)
       .exactλb o hh=>FromL.mono (λi hi=>Xh _ hi) b o (g7 q hq b o hh)
      .rcases Xn.1 hi with hi|hi
       .exact g4 i hi
       .exact g8 i hi
   .cases hf
  .cases hf
 | .box t::rs,xs,vs,A,hlen,hx,hl,aS,hf=>by
  simp only[WaU]at hf;split at hf
  .rename_i id xs;split at hf
   .rename_i cs bc;split at hf
    .rename_i d m l A' h1 h2;injection hf with hf;subst hf
     match vs,hlen with
     |v::vs,hlen=>
      obtain⟨k0,k1⟩:=Xac.1 aS;obtain⟨k2,k3,k4⟩:=Xad.1 k1;obtain⟨⟨_,b,hνb,rfl⟩,_⟩:=hx 0 _ v rfl rfl;have aJ:Live objs id:=⟨_,bc,by simp⟩;obtain⟨b'',us,kt,hrow,hmem,bA,fi⟩:Wch G ν nx w id (φ id) (.box cs):=h.ob _ _ bc;rw[hνb]at kt;injection kt with kt;subst kt;obtain⟨n1,g1,g2,g3,g4,_⟩:=Wab h hg t cs us d m l bA (hl.mono (λi hi=>Xm _ hi)) k2 h1;have cX:cs.length=t.size:=by rw[←bA.1];exact WD _ _ _ _ g1
      obtain⟨n2,g5,g6,g7,g8⟩:=Wdz h hg rs xs vs A' (by simpa using hlen) (λj y u hj hu=>hx (j+1) y u (by simpa using hj) (by simpa using hu)) (hl.mono (λi hi=>Xh _ hi)) k3 h2;rw[cX]at hrow fi;refine⟨⟨WbR b ((ν id).off+0),rng b ((ν id).off+0) t.size⟩::(n1++n2),⟨b,(ν id).off+0,vs,n1,n2,rfl,rfl,⟨us,hrow,hmem,g1⟩,g5⟩,?_,λq hq=>?_,λi hi=>?_⟩
      .refine Wb0 h (n1:=[⟨WbR b ((ν id).off+0),rng b ((ν id).off+0) t.size⟩]) (m:=[id]) (l:=m++A'.moved) (Xbj _ _) (Wb0 h g2 g6 g3 g7 (λi hi hj=>k4 i hi i hj rfl)) (λq hq=>?_) (λq hq=>?_) (λi hi hj=>k0 (by rw[←Xag.1 hi];exact hj))
       .rw[Xag.1 hq];exactλb o hh=>⟨id,by simp,aJ,fi b o hh⟩
       .rcases Xn.1 hq with hq|hq
        .exactλb o hh=>FromL.mono (λi hi=>Xm _ hi) b o (g3 q hq b o hh)
        .exactλb o hh=>FromL.mono (λi hi=>Xh _ hi) b o (g7 q hq b o hh)
      .rcases Xr.1 hq with rfl|hq
       .exactλb o hh=>⟨id,by simp,aJ,fi b o hh⟩
       .rcases Xn.1 hq with hq|hq
        .exactλb o hh=>FromL.mono (λi hi=>Xf _ (Xm _ hi)) b o (g3 q hq b o hh)
        .exactλb o hh=>FromL.mono (λi hi=>Xf _ (Xh _ hi)) b o (g7 q hq b o hh)
      .rcases Xr.1 hi with rfl|hi
       .exact aJ
       .rcases Xn.1 hi with hi|hi
        .exact g4 i hi
        .exact g8 i hi
    .cases hf
   .cases hf
  .cases hf
 | .mut _::_,_,_,_,_,_,_,_,h=>by simp only[WaU]at h;cases h
 | .clos _ _::_,_,_,_,_,_,_,_,h=>by simp only[WaU]at h;cases h
 | .kv _ _::_,_,_,_,_,_,_,_,h=>by simp only[WaU]at h;cases h
 | .rp _::_,_,_,_,_,_,_,_,h=>by simp only[WaU]at h;cases h
 | .vj t::rs,xs,vs,A,hlen,hx,hl,aS,hf=>by
  simp only[WaU]at hf;split at hf
  .rename_i cs xs;split at hf
   .rename_i hcl;split at hf
    .rename_i d m l A' h1 h2;injection hf with hf;subst hf
     match vs,hlen with
     |v::vs,hlen=>
      obtain⟨k1,k2,k3⟩:=Xad.1 aS;obtain⟨us,rfl,bA⟩:=hx 0 _ v rfl rfl;obtain⟨n1,g1,g2,g3,g4,_⟩:=Wab h hg t (cs.take t.size) (us.take t.size) d m l (bA.take t.size) (hl.mono (λi hi=>Xm _ hi)) k1 h1;obtain⟨n2,g5,g6,g7,g8⟩:=Wdz h hg rs xs vs A' (by simpa using hlen) (λj y u hj hu=>hx (j+1) y u (by simpa using hj) (by simpa using hu)) (hl.mono (λi hi=>Xh _ hi)) k2 h2;have cX:us.length=t.size+1:=by rw[bA.1,hcl]
      have hlt:t.size<us.length:=by omega
      have e0:us=us.take t.size++ [us[t.size]]:=by
       rw[←List.take_succ_eq_append_getElem hlt,Xdj (by omega)]
      have ho:=(bA.2 t.size (cs[t.size]'(by omega)) us[t.size] (Xs (by omega)) (Xs hlt)).2;refine⟨n1++n2,⟨us.take t.size,us[t.size],vs,n1,n2,by rw[←e0],ho,rfl,g1,g5⟩,Wb0 h g2 g6 g3 g7 (λi hi hj=>k3 i hi i hj rfl),λq hq=>?_,λi hi=>?_⟩
      .rcases Xn.1 hq with hq|hq
       .exactλb o hh=>FromL.mono (λi hi=>Xm _ hi) b o (g3 q hq b o hh)
       .exactλb o hh=>FromL.mono (λi hi=>Xh _ hi) b o (g7 q hq b o hh)
      .rcases Xn.1 hi with hi|hi
       .exact g4 i hi
       .exact g8 i hi
    .cases hf
   .cases hf
  .cases hf
 | .boxal _ _::_,_,_,_,_,_,_,_,h=>by simp only[WaU]at h;cases h
theorem Wn6{p:PTy}{ps:List PTy}{k:Nat}(h:WjV (p::ps) (k+1)=true):(∃t,p= .box t)/\WjV ps k=true:=by
 cases p with
 |box t=>exact⟨⟨t,rfl⟩,h⟩
 |_=>cases h
theorem WfM(hr:Rel w0 F nt G0 G ν st a w){i:Nat}{u:Value}(hp:a.tmps[i]?=some u):(Wq st.env i).getD (.tup [])= .tup []\/AValRel G ν st.nx ((Wq st.env i).getD (.tup [])) u:=by
 cases he:Wq st.env i with
 |none=>exact .inl rfl
 |some y=>
  obtain⟨v,hv,hx⟩:=hr.env i y he;rw[hp]at hv;injection hv with hv;subst hv;exact .inr hx
theorem WaA{wb:World}{Gb:GH}(hr:Rel w0 F nt G0 G ν st a w):∀(ps:List PTy) (d:We1 ps) (vs:List Value) (ns:List Pc) (ks:List Nu) (i k:Nat),Wa5 Gb wb ps d vs ns ks->Wcd ps=true->WjV ps k=true->k<=vs.length->
  (∀p∈WH ps i k (vs.drop k),a.tmps[p.1]?=some p.2)->(WA ps i k st).length+k=vs.length/\
  ∀(j:Nat) (x:AVal) (v:Value),(WA ps i k st)[j]?=some x->vs[k+j]?=some v->x= .tup []\/AValRel G ν st.nx x v
 | [],d,vs,ns,ks,i,k,⟨h1,_,_⟩,_,_,hk,_=>by
  subst h1;have:k=0:=by simpa using hk
  subst this;exact⟨rfl,λj x v hj=>by simp[WA]at hj⟩
 |p::ps,d,vs,ns,ks,i,k+1,h,hc,hb,hk,hp=>by
  obtain⟨⟨t,rfl⟩,hb'⟩:=Wn6 hb;obtain⟨b,o,vs',n1,n2,ks',h1,h2,h3,h4,h6⟩:=h;subst h1;have jm:Wcd ps=true:=hc;obtain⟨e1,e2⟩:=WaA hr ps d.2 vs' n2 ks' i k h6 jm hb' (by simpa using hk) (by simpa [WH]using hp);refine⟨by simp only[WA,Xq];omega,λj x v hj hv=>e2 j x v (by simpa [WA]using hj) ?_⟩;rw[show k+1+j=(k+j)+1 by omega]at hv;simpa using hv
 | .v t agg::ps,d,vs,ns,ks,i,0,⟨v,vs',n1,n2,h1,h2,h3,h4⟩,hc,_,_,hp=>by
  subst h1;obtain⟨e1,e2⟩:=WaA hr ps d.2 vs' n2 ks (i+1) 0 h4 hc (by cases ps<;>rfl) (Xcf _) (by simpa [WH]using hp);refine⟨by simp only[WA,Xq];omega,λj x u hj hu=>?_⟩;cases j with
  |zero=>simp[WA]at hj;exact .inl hj.symm
  |succ j=>exact e2 j x u (by simpa [WA]using hj) (by simpa using hu)
 | .rp t::ps,d,vs,ns,ks,i,0,⟨b,o,us,vs',h1,h2,h3,h4⟩,hc,_,_,hp=>by
  subst h1;obtain⟨e1,e2⟩:=WaA hr ps d.2 vs' ns ks (i+1) 0 h4 hc (by cases ps<;>rfl) (Xcf _) (by simpa [WH]using hp);refine⟨by simp only[WA,Xq];omega,λj x u hj hu=>?_⟩;cases j with
  |zero=>simp[WA]at hj;exact .inl hj.symm
  |succ j=>exact e2 j x u (by simpa [WA]using hj) (by simpa using hu)
 | .box t::ps,d,vs,ns,ks,i,0,⟨b,o,vs',n1,n2,ks',h1,h2,h3,h4,h6⟩,hc,_,_,hp=>by
  subst h1;simp only[WH,Xak,Xdx]at hp;obtain⟨e1,e2⟩:=WaA hr ps d.2 vs' n2 ks' (i+1) 0 h6 hc (by cases ps<;>rfl) (Xcf _) (λp gK=>hp p (Xh _ (by simpa using gK)));refine⟨by simp only[WA,Xq];omega,λj x u hj hu=>?_⟩;cases j with
  |zero=>
   simp[WA]at hj hu;subst hj hu;exact WfM hr (hp (i,_) (Xm _ (Xj ..)))
  |succ j=>exact e2 j x u (by simpa [WA]using hj) (by simpa using hu)
 | .vj _::_,_,_,_,_,_,_,h,_,_,_,_=>h.elim
 | .boxal t lf::ps,d,vs,ns,ks,i,0,⟨b,o,b',pc,vs',n1,n2,ks',h1,h2,h3,h4,h5,h6,h7,h8⟩,hc,_,_,hp=>by
  subst h1;simp only[WH,Xak,Xdx]at hp;obtain⟨e1,e2⟩:=WaA hr ps d.2.2 vs' n2 ks' (i+2) 0 h8 hc (by cases ps<;>rfl) (Xcf _) (λp gK=>hp p (Xh _ (by simpa using gK)));refine⟨by simp only[WA,Xq];omega,λj x u hj hu=>?_⟩
  match j with
  |0=>
   simp[WA]at hj hu;subst hj hu;exact WfM hr (hp (i,_) (Xm _ (Xj ..)))
  |1=>simp[WA]at hj;exact .inl hj.symm
  |j+2=>exact e2 j x u (by simpa [WA]using hj) (by simpa using hu)
 | .mut e::ps,d,vs,ns,ks,i,0,⟨pc,vs',n2,ks',h1,h2,h3,h4,h5⟩,hc,_,_,hp=>by
  subst h1;simp only[WH,Xak,Xdx]at hp;obtain⟨e1,e2⟩:=WaA hr ps d.2 vs' n2 ks' (i+1) 0 h5 hc (by cases ps<;>rfl) (Xcf _) (λp gK=>hp p (Xh _ (by simpa using gK)));refine⟨by simp only[WA,Xq];omega,λj x u hj hu=>?_⟩;cases j with
  |zero=>
   simp[WA]at hj hu;subst hj hu;exact WfM hr (hp (i,_) (Xm _ (Xj ..)))
  |succ j=>exact e2 j x u (by simpa [WA]using hj) (by simpa using hu)
 | .clos g n::ps,d,vs,ns,ks,i,0,⟨cvs,vs',h1,h2,h3,h4⟩,hc,_,_,hp=>by
  subst h1;simp only[Wcd,Xi]at hc;simp only[WH,Xak,Xdx]at hp;obtain⟨e1,e2⟩:=WaA hr ps d (cvs++vs') ns ks (i+1) n h4 hc.2 hc.1 (by simp[h2]) (λp gK=>hp p (Xh _ (by rw[List.drop_left' h2]at gK;exact gK)));refine⟨by simp only[WA,Xq];simp at e1;omega,λj x u hj hu=>?_⟩;cases j with
  |zero=>
   simp[WA]at hj hu;subst hj hu;exact WfM hr (hp (i,_) (Xm _ (Xj ..)))
  |succ j=>exact e2 j x u (by simpa [WA]using hj) (by rw[Xcd (by omega),h2,Xcb];simpa using hu)
 | .kv t agg::ps,d,vs,ns,ks,i,0,⟨v,vs',n1,n2,ks',h1,h2,iO,h3,h4⟩,hc,_,_,hp=>by
  subst h1;simp only[WH,Xak,Xdx]at hp;obtain⟨e1,e2⟩:=WaA hr ps d.2 vs' n2 ks' (i+1) 0 h4 hc (by cases ps<;>rfl) (Xcf _) (λp gK=>hp p (Xh _ (by simpa using gK)));refine⟨by simp only[WA,Xq];omega,λj x u hj hu=>?_⟩;cases j with
  |zero=>
   simp[WA]at hj hu;subst hj hu;exact WfM hr (hp (i,_) (Xm _ (Xj ..)))
  |succ j=>exact e2 j x u (by simpa [WA]using hj) (by simpa using hu)
theorem Wok{G G':GH}{wb w:World}{nu nk:Nu}{e:Ty}{xs ys:List e.den}{S S':CS}(h4:OwnL wb (TyRel G wb e) e.size nu xs S)(hown:OwnL w (TyRel G' w e) e.size nk ys S')(hx:nu.hdr=nk.hdr):OwnL w (TyRel G' w e) e.size nu ys S':=by
 unfold Nu.hdr at hx;cases hb:nk.blk with
 |none=>
  cases hb':nu.blk with
  |some b=>simp[hb,hb']at hx
  |none=>
   have k1:=Wb8 h4 hb';have k2:=Wb8 hown hb;refine⟨by rw[k2,←h4.1,k1],h4.2.1,?_⟩;simp only[hb'];exact k2
 |some b=>
  cases hb':nu.blk with
  |none=>simp[hb,hb']at hx
  |some b'=>
   simp only[hb,hb']at hx;injection hx with x1 x2 x3;injection x1 with x1;injection x1 with x1 x4 _;have e1:=h4.2.1;have e2:=hown.2.1;have:nu=nk:=by
    obtain⟨a1,a2,a3,a4,a5⟩:=nu;obtain⟨b1,b2,b3,b4,b5⟩:=nk;simp only at hb hb' x1 x2 x3 x4 e1 e2;subst hb hb' x1 x2 x3 x4;rw[e1,e2]
   rw[this];exact hown
theorem WeT{G G':GH}{wb w:World}:∀(t:Ty) (d0 d:t.den) (us:List Value) (n1 n2:List Pc),TyRel G wb t d0 us n1->TyRel G' w t d us n2->∃n3,TyRel G' w t d us n3/\nus n3=nus n1/\fps n3=fps n2
 | .own e,d0,d,us,n1,n2,⟨pc,h1,h2,h3⟩,⟨ek,g1,g2,g3⟩=>by
  subst h1 g1;have hx:pc.nu.hdr=ek.nu.hdr:=by rw[h2]at g2;simpa using g2
  exact⟨[⟨pc.nu,ek.fp⟩],⟨_,rfl,h2,Wok h3 g3 hx⟩,rfl,rfl⟩
 | .prod a b,d0,d,us,n1,n2,⟨v1,v2,m1,m2,h1,h2,h3,h4⟩,⟨u1,u2,k1,k2,g1,g2,g3,g4⟩=>by
  have l1:=WD a _ _ _ h3;have l2:=WD a _ _ _ g3;obtain⟨q1,q2⟩:=List.append_inj (h1.symm.trans g1) (by rw[l1,l2]);subst q1 q2 h2 g2;obtain⟨a1,a2,a3,a4⟩:=WeT a _ _ _ _ _ h3 g3;obtain⟨b1,b2,b3,b4⟩:=WeT b _ _ _ _ _ h4 g4;exact⟨a1++b1,⟨_,_,a1,b1,h1,rfl,a2,b2⟩,by unfold nus at a3 b3⊢;rw[Xy,Xy,a3,b3],by unfold fps at a4 b4⊢;rw[Xy,Xy,a4,b4]⟩
 | .int _,d0,d,us,n1,n2,h,g=>by obtain⟨h1,_⟩:=h;obtain⟨g1,g2⟩:=g;subst h1 g1;exact⟨[],⟨rfl,g2⟩,rfl,rfl⟩
 | .bool,d0,d,us,n1,n2,h,g=>by obtain⟨h1,_⟩:=h;obtain⟨g1,g2⟩:=g;subst h1 g1;exact⟨[],⟨rfl,g2⟩,rfl,rfl⟩
 | .str,d0,d,us,n1,n2,h,g=>by obtain⟨h1,_⟩:=h;obtain⟨g1,g2⟩:=g;subst h1 g1;exact⟨[],⟨rfl,g2⟩,rfl,rfl⟩
 | .slice _,d0,d,us,n1,n2,h,g=>by obtain⟨h1,_⟩:=h;obtain⟨g1,g2⟩:=g;subst h1 g1;exact⟨[],⟨rfl,g2⟩,rfl,rfl⟩
theorem Wrk{G G':GH}{wb w:World}{t:Ty}{agg:Bool}{d0 d:t.den}{v:Value}{n1 n2:List Pc}(h:Wi3 G wb t agg d0 v n1)(g:Wi3 G' w t agg d v n2):∃us n3,TyRel G' w t d us n3/\nus n3=nus n1/\fps n3=fps n2:=by
 unfold Wi3 at h g;split at h
 .rename_i ha;rw[Wf ha]at g;obtain⟨us,h1,h2⟩:=h;obtain⟨th,g1,g2⟩:=g;have:us=th:=by
   rw[h1]at g1;injection g1 with g1;have:=Wn Array.toList g1;simpa using this
  subst this;exact⟨us,WeT _ _ _ _ _ _ h2 g2⟩
 .rename_i ha;rw[Wb ha]at g;exact⟨_,WeT _ _ _ _ _ _ h g⟩
structure OOk(G':GH)(φ:Nat->CS)(objs:W9)(w:World)(ps:List PTy)(B:OutK (WfH ps))(ks:List Nu)(kf:List CS)(ms:List Pc):Prop where
 outs:Wbj G' w ps B.d ks kf ms
 sepk:Sep kf
 sepm:Sep (fps ms)
 kf:∀S∈kf,CS.le S (FromL φ objs B.kept)
 ms:∀q∈ms,CS.le q.fp (FromL φ objs B.moved)
theorem WuK(h:HR w0 F G ν φ objs nx w){k1 k2:List CS}{m l:List Nat}(h1:Sep k1)(h2:Sep k2)(g1:∀S∈k1,CS.le S (FromL φ objs m))(g2:∀S∈k2,CS.le S (FromL φ objs l))(hd:∀i∈m,i∉l):Sep (k1++k2):=
 Wni h1 h2 (A:=FromL φ objs m) (B:=FromL φ objs l) g1 g2 (FromL.disj h hd)
theorem Wg9{wb:World}{Gb:GH}(hg:GLe G G')(h:HR w0 F G ν φ objs nx w){t:Ty}{ps:List PTy}{id b o:Nat}{cs:List Cell}{dd:t.den}{m l:List Nat}{A:OutK (WfH ps)}{ks:List Nu}{kf:List CS}{ms:List Pc}
  (hx:CellRel G ν nx (.ptr id 0) (.pointer (some ⟨b,o,none⟩))) (ho:Wq objs id=some (.box cs)) (g1:Waq t cs objs=some (dd,m,l)) (hl:Lent G' w φ objs l) (hk:(id::A.kept).Nodup) (hm:(m++A.moved).Nodup) (hA:OOk G' φ objs w ps A ks kf ms):
  ∃nn,Wfa G' w t dd b o nn/\Sep (rng b o t.size::kf)/\Sep (fps (nn++ms))/\(∀S∈rng b o t.size::kf,CS.le S (FromL φ objs (id::A.kept)))/\(∀q∈nn++ms,CS.le q.fp (FromL φ objs (m++A.moved))):=by
 obtain⟨_,b',ti,gU⟩:=hx;injection gU with gU;injection gU with gU;injection gU with gU ke _;subst gU ke;have aJ:Live objs id:=⟨_,ho,by simp⟩;obtain⟨b'',us,oK,hrow,hmem,bA,fi⟩:Wch G ν nx w id (φ id) (.box cs):=h.ob _ _ ho;rw[ti]at oK;injection oK with oK;subst oK;obtain⟨k1,k2⟩:=Xac.1 hk;obtain⟨k3,k4,k5⟩:=Xad.1 hm;obtain⟨nn,e1,e2,e3,_⟩:=Wab h hg t cs us dd m l bA hl k3 g1;have cX:cs.length=t.size:=by rw[←bA.1];exact WD _ _ _ _ e1
 rw[cX]at hrow fi;have gg:CS.le (rng b ((ν id).off+0) t.size) (FromL φ objs [id]):=λb o hh=>⟨id,by simp,aJ,fi b o hh⟩;refine⟨nn,⟨us,hrow,hmem,e1⟩,?_,Wb0 h e2 hA.sepm e3 hA.ms (λi hi hj=>k5 i hi i hj rfl),λS hS=>?_,λq hq=>?_⟩
 .exact WuK h (k1:=[rng b ((ν id).off+0) t.size]) (m:=[id]) (Xbj _ _) hA.sepk (λS hS=>by rw[Xag.1 hS];exact gg) hA.kf (λi hi hj=>k1 (by rw[←Xag.1 hi];exact hj))
 .rcases Xr.1 hS with rfl|hS
  .exactλb o hh=>FromL.mono (λi hi=>by rw[Xag.1 hi];exact Xj ..) b o (gg b o hh)
  .exactλb o hh=>FromL.mono (λi hi=>Xf _ hi) b o (hA.kf S hS b o hh)
 .rcases Xn.1 hq with hq|hq
  .exactλb o hh=>FromL.mono (λi hi=>Xm _ hi) b o (e3 q hq b o hh)
  .exactλb o hh=>FromL.mono (λi hi=>Xh _ hi) b o (hA.ms q hq b o hh)
theorem WaL{wb:World}{Gb:GH}(hg:GLe G G')(h:HR w0 F G ν φ objs nx w):∀(ps:List PTy) (d:We1 ps) (vs:List Value) (ns:List Pc) (ks:List Nu) (xs:List AVal) (B:OutK (WfH ps)),Wa5 Gb wb ps d vs ns ks->xs.length=vs.length->
  (∀(j:Nat) (x:AVal) (v:Value),xs[j]?=some x->vs[j]?=some v->x= .tup []\/AValRel G ν nx x v)->Lent G' w φ objs B.lent->B.kept.Nodup->B.moved.Nodup->WZ ps xs objs=some B->
  ∃kf ms,OOk G' φ objs w ps B ks kf ms
 | [],d,vs,ns,ks,xs,B,⟨_,_,hk⟩,_,_,_,_,_,hf=>by
  simp only[WZ]at hf;injection hf with hf;subst hf;exact⟨[],[],⟨hk,rfl,rfl⟩,List.Pairwise.nil,List.Pairwise.nil,by simp,by simp⟩
 | .v t agg::ps,d,vs,ns,ks,xs,B,⟨v,vs',n1,n2,h1,h2,h3,h4⟩,hlen,hp,hl,hk,hm,hf=>by
  subst h1;simp only[WZ]at hf;cases hA:WZ ps xs.tail objs with
  |none=>simp[hA]at hf
  |some A=>
   simp[hA]at hf;subst hf
   match xs,hlen with
   |x::xs,hlen=>
    obtain⟨kf,ms,hO⟩:=WaL hg h ps d.2 vs' n2 ks xs A h4 (by simpa using hlen) (λj y u hj hu=>hp (j+1) y u (by simpa using hj) (by simpa using hu)) hl hk hm hA;exact⟨kf,ms,hO.outs,hO.sepk,hO.sepm,hO.kf,hO.ms⟩
 | .rp t::ps,d,vs,ns,ks,xs,B,⟨b,o,us,vs',h1,h2,h3,h4⟩,hlen,hp,hl,hk,hm,hf=>by
  subst h1;simp only[WZ]at hf;cases hA:WZ ps xs.tail objs with
  |none=>simp[hA]at hf
  |some A=>
   simp[hA]at hf;subst hf
   match xs,hlen with
   |x::xs,hlen=>
    obtain⟨kf,ms,hO⟩:=WaL hg h ps d.2 vs' ns ks xs A h4 (by simpa using hlen) (λj y u hj hu=>hp (j+1) y u (by simpa using hj) (by simpa using hu)) hl hk hm hA;exact⟨kf,ms,hO.outs,hO.sepk,hO.sepm,hO.kf,hO.ms⟩
 | .box t::ps,d,vs,ns,ks,xs,B,⟨b,o,vs',n1,n2,ks',h1,h2,h3,h4,h6⟩,hlen,hp,hl,hk,hm,hf=>by
  subst h1;simp only[WZ]at hf;split at hf
  .rename_i id xs;split at hf
   .rename_i cs ho;split at hf
    .rename_i dd m l A g1 g2;injection hf with hf;subst hf;have hx:=((hp 0 _ _ rfl rfl).resolve_left (λe=>by cases e)).1;obtain⟨kf,ms,hO⟩:=WaL hg h ps d.2 vs' n2 ks' xs A h6 (by simpa using hlen) (λj y u hj hu=>hp (j+1) y u (by simpa using hj) (by simpa using hu)) (hl.mono λj hj=>Xh _ hj) (Xac.1 hk).2 (Xad.1 hm).2.1 g2;obtain⟨nn,e1,e2,e3,e4,e5⟩:=Wg9 (wb:=wb) (Gb:=Gb) hg h hx ho g1 (hl.mono λj hj=>Xm _ hj) hk hm hO;exact⟨_,nn++ms,⟨b,o,ks',kf,nn,ms,h3,rfl,rfl,e1,hO.outs⟩,e2,e3,e4,e5⟩
    .cases hf
   .cases hf
  .cases hf
 | .vj _::_,_,_,_,_,_,_,h,_,_,_,_,_,_=>h.elim
 | .boxal t lf::ps,d,vs,ns,ks,xs,B,⟨b,o,b',pc,vs',n1,n2,ks',h1,h2,h3,h4,h5,h6,h7,h8⟩,hlen,hp,hl,hk,hm,hf=>by
  subst h1;simp only[WZ]at hf;split at hf
  .rename_i id y xs;split at hf
   .rename_i cs ho;split at hf
    .rename_i dd m l A g1 g2;injection hf with hf;subst hf;have hx:=((hp 0 _ _ rfl rfl).resolve_left (λe=>by cases e)).1;obtain⟨kf,ms,hO⟩:=WaL hg h ps d.2.2 vs' n2 ks' xs A h8 (by simpa using hlen) (λj y u hj hu=>hp (j+2) y u (by simpa using hj) (by simpa using hu)) (hl.mono λj hj=>Xh _ hj) (Xac.1 hk).2 (Xad.1 hm).2.1 g2;obtain⟨nn,e1,e2,e3,e4,e5⟩:=Wg9 (wb:=wb) (Gb:=Gb) hg h hx ho g1 (hl.mono λj hj=>Xm _ hj) hk hm hO;exact⟨_,nn++ms,⟨b,o,ks',kf,nn,ms,h3,rfl,rfl,e1,hO.outs⟩,e2,e3,e4,e5⟩
    .cases hf
   .cases hf
  .cases hf
 | .mut e::ps,d,vs,ns,ks,xs,B,⟨pc,vs',n2,ks',h1,h2,h3,h4,h5⟩,hlen,hp,hl,hk,hm,hf=>by
  subst h1;simp only[WZ]at hf;split at hf
  .rename_i id xs;split at hf
   .rename_i e' ys ho;split at hf
    .rename_i dd A g1 g2;injection hf with hf;subst hf;obtain⟨iF,hd⟩:=Wap g1;subst iF;simp only at hd;subst hd;obtain⟨⟨_,hx⟩,_⟩:=(hp 0 _ _ rfl rfl).resolve_left (λe=>by cases e);have aJ:Live objs id:=⟨_,ho,by simp⟩;have hown:OwnL w (TyRel G w e') e'.size (ν id) ys (φ id):=h.ob _ _ ho;have hown':=WcL hg (Same.refl _ w) (λ_ _ hh=>hh) hown;obtain⟨k1,k2⟩:=Xac.1 hk;obtain⟨kf,ms,hO⟩:=WaL hg h ps d.2 vs' n2 ks' xs A h5 (by simpa using hlen) (λj y u hj hu=>hp (j+1) y u (by simpa using hj) (by simpa using hu)) hl k2 hm g2;refine⟨φ id::kf,ms,⟨⟨pc.nu,φ id⟩,ks',kf,h3,rfl,Wok h4 hown' hx,hO.outs⟩,?_,hO.sepm,λS hS=>?_,hO.ms⟩
     .exact WuK h (k1:=[φ id]) (m:=[id]) (Xbj _ _) hO.sepk (λS hS=>by rw[Xag.1 hS];exact FromL.one (by simp) aJ) hO.kf (λi hi hj=>k1 (by rw[←Xag.1 hi];exact hj))
     .rcases Xr.1 hS with rfl|hS
      .exact FromL.one (Xj ..) aJ
      .exactλb o hh=>FromL.mono (λi hi=>Xf _ hi) b o (hO.kf S hS b o hh)
    .cases hf
   .cases hf
  .cases hf
 | .clos g n::ps,d,vs,ns,ks,xs,B,⟨cvs,vs',h1,h2,h3,h4⟩,hlen,hp,hl,hk,hm,hf=>by
  subst h1;simp only[WZ]at hf;split at hf
  .rename_i g' caps xs;split at hf
   .rename_i hc;obtain⟨rfl,hcl⟩:=hc;cases hA:WZ ps (WjX caps++xs) objs with
    |none=>simp[hA]at hf
    |some A=>
     simp[hA]at hf;subst hf;obtain⟨⟨us,pQ,rI,tj⟩,_⟩:=(hp 0 _ _ rfl rfl).resolve_left (λe=>by cases e);have iM:us=cvs:=by
      injection pQ with _ _ pQ;have:=Wn Array.toList pQ;simpa using this.symm
     subst iM;obtain⟨kf,ms,hO⟩:=WaL hg h ps d (us++vs') ns ks (WjX caps++xs) A h4 (by simp[WjX,rI];simpa using hlen) (λj y u hj hu=>by
      rw[Xau]at hj hu;simp only[WjX,List.length_map]at hj;rw[rI]at hu;split at hj
      .rename_i hlt;rw[Wf hlt]at hu;rw[Xan]at hj;obtain⟨id,bz,rfl⟩:=Xu.1 hj;obtain⟨q1,q3,q2⟩:=tj _ id u bz hu;exact .inr ⟨⟨q1,q2⟩,q3⟩
      .rename_i hlt;rw[Wb hlt]at hu;exact hp (j-caps.length+1) y u (by simpa using hj) (by simpa using hu)) hl hk hm hA
     exact⟨kf,ms,hO.outs,hO.sepk,hO.sepm,hO.kf,hO.ms⟩
   .cases hf
  .cases hf
 | .kv t agg::ps,d,vs,ns,ks,xs,B,⟨v,vs',n1,n2,ks',h1,h2,iO,h3,h4⟩,hlen,hp,hl,hk,hm,hf=>by
  subst h1;simp only[WZ]at hf;split at hf
  .rename_i x xs;split at hf
   .rename_i dd m l A g1 g2;split at hf
    .rename_i gi;injection hf with hf;subst hf;cases hc:cellsOf agg x with
     |none=>simp[hc]at g1
     |some cs=>
      simp[hc]at g1;obtain⟨k1,k2,k3⟩:=Xad.1 hk;have hx:=(hp 0 _ _ rfl rfl).resolve_left (λe=>by subst e;cases hc);have bv:Lent G' w φ objs l:=hl.mono λj hj=>Xm _ hj;obtain⟨_,_,_,_,q4,_⟩:=Wkm h hg hx bv k1 hc g1;obtain⟨v1,_⟩:=Wms h hg hx bv hc g1 gi;obtain⟨us,n3,r1,r2,r3⟩:=Wrk h3 v1;obtain⟨kf,ms,hO⟩:=WaL hg h ps d.2 vs' n2 ks' xs A h4 (by simpa using hlen) (λj y u hj hu=>hp (j+1) y u (by simpa using hj) (by simpa using hu)) (hl.mono λj hj=>Xh _ hj) k2 hm g2;have gp:∀S∈fps n3,CS.le S (FromL φ objs m):=λS hS=>by
       rw[r3,WnO]at hS;obtain⟨i,hi,rfl⟩:=Xv.1 hS;exact FromL.one hi (q4 i hi)
      have gs:Sep (fps n3):=by
       rw[r3,WnO];refine List.pairwise_map.2 (k1.imp_of_mem λ{i j} hi hj hne=>?_)
       exactλb o h1 h2=>hne (h.inj i j b o (q4 i hi) (q4 j hj) h1 h2)
      refine⟨fps n3++kf,ms,⟨n3,ks',kf,us,by rw[iO,r2],rfl,r1,hO.outs⟩,WuK h gs hO.sepk gp hO.kf (λi hi hj=>k3 i hi i hj rfl),hO.sepm,λS hS=>?_,hO.ms⟩;rcases Xn.1 hS with hS|hS
      .exactλb o hh=>FromL.mono (λi hi=>Xm _ hi) b o (gp S hS b o hh)
      .exactλb o hh=>FromL.mono (λi hi=>Xh _ hi) b o (hO.kf S hS b o hh)
    .cases hf
   .cases hf
  .cases hf
end
end Go.Sx
namespace Go.Sx
set_option linter.unusedVariables false
set_option linter.unusedSimpArgs false
section
variable{P:Program}{T:Tab}{Γ:Ctx}
theorem WsM{sg:Sig}{d:We1 sg.ps}{G:GH}{w:World}{vs:List Value}{ns:List Pc}{ks:List Nu}{n:Nat}(hn:WbD sg.ps<=n)(fj:Wcd sg.ps=true)(hargs:Wa5 G w sg.ps d vs ns ks)(hsep:Sep (fps ns))
  (hfree:∀q∈ns,∀b off,q.fp b off->G b off=none/\b<w.heap.size) (hg:∀b o v,G b o=some v->w.cell? ⟨b,o,none⟩=some v):
  ∃ν,Rel w (Of ns) ⟨n,WH sg.ps 0 0 vs⟩ G G ν {env:=WgL 0 (WP sg.ps d [] 0).1,objs:=(WP sg.ps d [] 0).2.1,nx:=(WP sg.ps d [] 0).2.2}
   {tmps:=vs.toArray++Xdt (n-vs.toArray.size) undef,defers:=[]} w:=by
 obtain⟨ν,hν⟩:∃ν:Nat->Nu,ν= λi=>((nus ns)[i]?).getD ⟨none,0,0,0,0⟩:=⟨_,rfl⟩;obtain⟨φ,hφ⟩:∃φ:Nat->CS,φ= λi=>((fps ns)[i]?).getD (λ_ _=>False):=⟨_,rfl⟩;have hAt:At ν φ 0 ns:=λj pc hj=>by
  have e1:(nus ns)[j]?=some pc.nu:=by unfold nus;rw[Xan,hj];rfl
  have e2:(fps ns)[j]?=some pc.fp:=by unfold fps;rw[Xan,hj];rfl
  rw[hν,hφ];simp only[Xat,e1,e2];exact⟨rfl,rfl⟩
 obtain⟨h1,h2,h3,h4⟩:=Wb5 (ν:=ν) (φ:=φ) sg.ps d vs ns ks [] 0 (0+ns.length) fj hargs hAt (Xl _);have kI:=Wc2 _ _ _ _ _ hargs;have dW:∀id,Live (WP sg.ps d [] 0).2.1 id->id<ns.length:=λid ⟨ob,ho,_⟩=>by
  rcases h2 id ob ho with⟨_,h,_⟩|h
  .simpa using h
  .cases h
 have bm:∀id b o,φ id b o->∃q,ns[id]?=some q/\(fps ns)[id]?=some q.fp/\q.fp b o:=λid b o hp=>by
  rw[hφ]at hp
  try simp only at hp
  cases hq:ns[id]? with
  |none=>
   have:(fps ns)[id]?=none:=by unfold fps;rw[Xan,hq];rfl
   rw[this]at hp;exact hp.elim
  |some q=>
   have:(fps ns)[id]?=some q.fp:=by unfold fps;rw[Xan,hq];rfl
   rw[this]at hp;exact⟨q,rfl,this,hp⟩
 have rJ:∀(i:Nat) (v:Value),vs[i]?=some v->(vs.toArray++Xdt (n-vs.toArray.size) undef)[i]?=some v:=λi v hi=>by
  have hlt:=(Xaa.1 hi).1;rw[Array.getElem?_append_left (by simpa using hlt)];simpa using hi
 refine⟨ν,rfl,by simp;omega,λp hp=>?_,λi x hx=>?_,⟨φ,?_⟩,λ_ _ _ hh=>hh,λ_ _ _ hh=>.inl hh⟩
 .obtain⟨_,g2⟩:=WN _ _ _ _ p hp;exact rJ _ _ (by simpa using g2)
 .simp only at hx;rw[Wha]at hx;simp only[Xcf,W2,Xdf]at hx;have hlt:=(Xaa.1 hx).1;rw[h3]at hlt;have hv:=Xs hlt;refine⟨_,rJ i _ hv,?_⟩;have:=h4 i x _ hx hv;simp only[h1];exact this
 .exact{
   g:=hg
   ob:=λid ob ho=>by
    rcases h2 id ob ho with⟨_,_,h⟩|h
    .simp only[h1];exact h
    .cases h
   gf:=λid b o hl hp=>by
    obtain⟨q,g1,_,g2⟩:=bm id b o hp;exact(hfree q (Xas g1) b o g2).1
   inj:=λid bN b o hl da hp dS=>by
    obtain⟨q,_,g1,g2⟩:=bm id b o hp;obtain⟨q',_,tm,tn⟩:=bm bN b o dS;exact WkQ hsep g1 tm g2 tn
   own:=λid b o hl hp=>by
    obtain⟨q,g1,_,g2⟩:=bm id b o hp;exact .inr ⟨q,Xas g1,g2⟩
   lt:=λid hl=>by simp only[h1];have:=dW id hl;omega
   bl:=λid b o hl hp=>by
    obtain⟨q,g1,_,g2⟩:=bm id b o hp;exact(hfree q (Xas g1) b o g2).2
   le:=WLe.refl _ w}
theorem WqC(hT:Waf P T){f:Func}{sg:Sig}{d:We1 sg.ps}{G:GH}{w:World}{vs:List Value}{ns:List Pc}{ks:List Nu}{n:Nat}(fj:Wcd sg.ps=true)(hargs:Wa5 G w sg.ps d vs ns ks)
  {st:St} {a:Act} {w':World} {G1:GH} {ν:Nat->Nu} (hr:Rel w (Of ns) ⟨n,WH sg.ps 0 0 vs⟩ G G1 ν st a w') {xs:List AVal} (hx:Wet T st f.results.toList=some xs)
  {A:Outs (Wgs sg.rs)} (hA:WaU sg.rs xs st.objs=some A) {B:OutK (WfH sg.ps)} (hB:WZ sg.ps (WA sg.ps 0 0 st) st.objs=some B)
  (aS:Wbe (B.kept++(B.moved++A.moved))=true) (kh:WgG (A.lent++B.lent) (B.kept++(B.moved++A.moved))=true):
  ∃rv kf ms cL G',(results f a.tmps).run P w'= .ok (WiH rv) w'/\After sg (B.d,A.d) G w ns ks rv kf ms cL G' w':=by
 have aS:=(WeL _).1 aS;have kh:=Wlw kh;obtain⟨φ,hφ⟩:=hr.h;have nl:=hφ.addG_le (A.lent++B.lent);have pR:=hφ.addG_w (A.lent++B.lent);have kS:Lent (Wp6 G1 w' (FromL φ st.objs (A.lent++B.lent))) w' φ st.objs (A.lent++B.lent):=λid bz hl=>(Wih _).mono (FromL.one bz hl);obtain⟨k1,k2,k3⟩:=Xad.1 aS;obtain⟨k4,k5,k6⟩:=Xad.1 k2;obtain⟨rv,pS,pT,pU⟩:=Wkh hT hr _ xs hx;obtain⟨cL,q1,q2,q3,q4⟩:=Wdz hφ nl sg.rs xs rv A pT pU (kS.mono λi hi=>Xm _ hi) k5 hA;obtain⟨hsl,di⟩:=WaA hr sg.ps d vs ns ks 0 0 hargs fj (by cases sg.ps<;>rfl) (Xcf _) (by simpa using hr.par);obtain⟨kf,ms,hO⟩:=WaL nl hφ sg.ps d vs ns ks _ B hargs hsl (λj x v hj hv=>di j x v hj (by simpa using hv)) (kS.mono λi hi=>Xh _ hi) k1 k4 hB;have fB:∀S∈kf++fps (ms++cL),CS.le S (FromL φ st.objs (B.kept++(B.moved++A.moved))):=λS hS=>by
  rcases Xn.1 hS with hS|hS
  .exactλb o hh=>FromL.mono (λi hi=>Xm _ hi) b o (hO.kf S hS b o hh)
  .obtain⟨q,hq,rfl⟩:=Xv.1 hS;rcases Xn.1 hq with hq|hq
   .exactλb o hh=>FromL.mono (λi hi=>Xh _ (Xm _ hi)) b o (hO.ms q hq b o hh)
   .exactλb o hh=>FromL.mono (λi hi=>Xh _ (Xh _ hi)) b o (q3 q hq b o hh)
 refine⟨rv,kf,ms,cL,Wp6 G1 w' (FromL φ st.objs (A.lent++B.lent)),?_,?_⟩
 .show(do let vs←f.results.mapM (WlG a.tmps);pure (if h:vs.size=1 then vs[0]else .tuple vs):Sem Value).run P w'=_;have iD:(f.results.mapM (WlG a.tmps)).run P w'= .ok rv.toArray w':=by
   rw[Array.mapM_eq_mapM_toList,Sem.run_map,pS];rfl
  rw[Sem.run_bind,iD];simp only[Result.andThen_ok,Sem.run_pure];congr 1;unfold WiH
  match rv with
  | []=>rfl
  | [v]=>rfl
  |u::v::l=>simp
 .exact{
   res:=q1
   outs:=hO.outs
   sep:=by
    refine WuK hφ hO.sepk (Wb0 hφ hO.sepm q2 hO.ms q3 (λi hi hj=>k6 i hi i hj rfl)) hO.kf (l:=B.moved++A.moved) (λS hS=>?_) (λi hi hj=>k3 i hi i hj rfl);obtain⟨q,hq,rfl⟩:=Xv.1 hS;rcases Xn.1 hq with hq|hq
    .exactλb o hh=>FromL.mono (λi hi=>Xm _ hi) b o (hO.ms q hq b o hh)
    .exactλb o hh=>FromL.mono (λi hi=>Xh _ hi) b o (q3 q hq b o hh)
   own:=λS hS b off hh=>by
    obtain⟨i,hi,h1,h2⟩:=fB S hS b off hh;refine⟨?_,(hφ.own i b off h1 h2).symm,hφ.bl i b off h1 h2⟩;rw[WcZ (λ⟨j,hj,h3,h4⟩=>by
     have:=hφ.inj i j b off h1 h3 h2 h4;subst this;exact kh _ hj hi)]
    exact hφ.gf i b off h1 h2
   gx:=by
    refine⟨λb o v hv=>nl b o v (hr.gx.le b o v hv),λb off v hv=>?_⟩;by_cases hb:FromL φ st.objs (A.lent++B.lent) b off
    .obtain⟨j,hj,h1,h2⟩:=hb;exact .inr (hφ.own j b off h1 h2)
    .rw[WcZ hb]at hv;exact hr.gx.new b off v hv
   g:=pR
   le:=hφ.le}
theorem WtC(hM:P.follows .mixedOrders=true)(hT:Waf P T)(hΓ:WeY P Γ){f:Func}{k:FuncId}{c:Code}(hf:P.funcs[k]?=some f)(hb:f.body=some c){sg:Sig}(ci:Wdw f.ntmps (WdY sg.ps 0 0) c=true)(fj:Wcd sg.ps=true)
  (hn:WbD sg.ps<=f.ntmps) {ann:Nat->List Ghost} (h:∀d o,sg.run d=some o->∃N,den T Γ ann N sg f d some=some o):Good P k sg:=by
 intro d o hrun G w vs ns ks hargs hsep hfree hg;obtain⟨N,gV⟩:=h d o hrun;unfold den at gV;simp only[hb]at gV;obtain⟨ν,tp⟩:=WsM hn fj hargs hsep hfree hg;split at gV
 case h_2=>cases gV
 rename_i c' b st0 jm tq;injection jm with jm;subst jm;obtain⟨rfl,gV⟩:=WaC gV;obtain⟨G0',ν0',hr⟩:=Wdk _ _ _ _ _ tp tq;refine calls_of_wp hf hb ?_
 suffices hk:∀e,Wqy w (Of ns) ⟨f.ntmps,WH sg.ps 0 0 vs⟩ G (Wu0 T sg f.results.toList some e) o (bodyPost P f (λe w'=>∃rv kf ms cL G',e= .returned (WiH rv)/\After sg o G w ns ks rv kf ms cL G' w') e.to)from
  WnG (nt:=⟨f.ntmps,WH sg.ps 0 0 vs⟩) hM hT hΓ (n:=f.ntmps) rfl (WU sg.ps 0 0 vs) c ci hk _ _ _ _ _ hr gV
 intro e st a w' G1 ν1 ko hk;have fq:(∃xs,Wet T st f.results.toList=some xs/\∃A B,WaU sg.rs xs st.objs=some A/\WZ sg.ps (WA sg.ps 0 0 st) st.objs=some B/\Wbe (B.kept++(B.moved++A.moved))=true/\WgG (A.lent++B.lent) (B.kept++(B.moved++A.moved))=true/\(B.d,A.d)=o)->
   a.defers= []/\∃v,(results f a.tmps).run P w'= .ok v w'/\∃rv kf ms cL G',Ending.returned v= .returned (WiH rv)/\After sg o G w ns ks rv kf ms cL G' w':=by
  rintro⟨xs,hx,A,B,hA,hB,h1,h2,rfl⟩;obtain⟨rv,kf,ms,cL,G',h3,h4⟩:=WqC hT (f:=f) fj hargs ko hx hA hB h1 h2;exact⟨ko.defers,_,h3,rv,kf,ms,cL,G',rfl,h4⟩
 have ly:(match Wet T st f.results.toList with
   |some xs=>match WaU sg.rs xs st.objs,WZ sg.ps (WA sg.ps 0 0 st) st.objs with
    |some A,some B=>if Wbe (B.kept++(B.moved++A.moved))&&WgG (A.lent++B.lent) (B.kept++(B.moved++A.moved))then some (B.d,A.d)else none
    |_,_=>none
   |none=>none)=some o->(∃xs,Wet T st f.results.toList=some xs/\∃A B,WaU sg.rs xs st.objs=some A/\WZ sg.ps (WA sg.ps 0 0 st) st.objs=some B/\Wbe (B.kept++(B.moved++A.moved))=true/\WgG (A.lent++B.lent) (B.kept++(B.moved++A.moved))=true/\(B.d,A.d)=o):=λhk=>by
  split at hk
  .rename_i xs hx;split at hk
   .rename_i A B hA hB;obtain⟨hc,hk⟩:=WbH hk;simp only[Xi]at hc;injection hk with hk;exact⟨xs,hx,A,B,hA,hB,hc.1,hc.2,hk⟩
   .cases hk
  .cases hk
 cases e with
 |normal=>exact fq (ly hk)
 |ret=>exact fq (ly hk)
 |exit id=>cases hk
end
end Go.Sx
namespace Go.Sx
set_option linter.unusedVariables false
set_option linter.unusedSimpArgs false
def zv1:Value->Value->Bool
 | .int k n,.int k' n'=>decide (k=k')&&decide (n=n')
 | .bool b,.bool b'=>b==b'
 | .string s,.string s'=>match s.data.toList,s'.data.toList with
  | [],[]=>true
  |_,_=>false
 | .slice none 0 0,.slice none 0 0=>true
 | .pointer none,.pointer none=>true
 |_,_=>false
theorem WsO(x y:Value)(h:zv1 x y=true):x=y:=by
 unfold zv1 at h;split at h
 .simp only[Xi,Wi]at h;obtain⟨rfl,rfl⟩:=h;rfl
 .have:=eq_of_beq h;subst this;rfl
 .rename_i s s';split at h
  .rename_i e1 e2;have:s=s':=by
    cases s with|mk a=>cases s' with|mk b=>
    congr 1;apply Array.ext';simp only at e1 e2;rw[e1,e2]
   rw[this]
  .cases h
 .rfl
 .rfl
 .cases h
def WuJ:List Value->List Value->Bool
 | [],[]=>true
 |x::l,y::m=>zv1 x y&&WuJ l m
 |_,_=>false
theorem Wmw:∀(l m:List Value),WuJ l m=true->l=m
 | [],[],_=>rfl
 | [],_::_,h=>by cases h
 |_::_,[],h=>by cases h
 |x::l,y::m,h=>by
  simp only[WuJ,Xi]at h;rw[WsO x y h.1,Wmw l m h.2]
def Wf0:List Field->List (Nat×TypeId)->Bool
 | [],[]=>true
 |f::l,p::m=>Xbk f.offset p.1&&Xbk f.type p.2&&(f.name != "_")&&Wf0 l m
 |_,_=>false
def Wql(P:Program)(T:Tab)(t:TypeId)(te:TE):Bool:=match te.shape with
 | .basic=>!te.agg&&(match te.ty with
  | .int k=>match P.underlying t with|some (.int k')=>decide (k'=k)|_=>false
  | .bool=>match P.underlying t with|some .bool=>true|_=>false
  | .str=>match P.underlying t with|some .string=>true|_=>false
  |_=>false)
 | .slice e=>!te.agg&&(match P.underlying t with|some (.slice e')=>Xbk e' e|_=>false)&&(match Wq T e with|some dE=>decide (te.ty= .slice dE.ty)|none=>false)
 | .struct fs=>te.agg&&(match P.underlying t with|some (.struct fields)=>Wf0 fields.toList fs|_=>false)&& !P.stoodInHeld t&& !P.eqGuardType P.depth t
 | .ptr e=>!te.agg&&(match P.underlying t with|some (.pointer e')=>Xbk e' e|_=>false)
 | .arr n e=>te.agg&&(match P.underlying t with|some (.array n' e')=>Xbk n' n&&Xbk e' e|_=>false)&&(match Wq T e with|some dE=>decide (dE.ty=te.ty)&&dE.plain|none=>false)
def WnU(P:Program)(t:TypeId)(te:TE):Bool:=match P.info? t with
 |some i=>match i.zero with
  |some z=>Xbk i.size te.size&&WuJ z.cells.toList te.cells&&Nat.ble i.bytes 4096
  |none=>false
 |none=>false
def Wmz(P:Program)(T:Tab):Tab->Bool
 | []=>true
 |(t,te)::l=>Wql P T t te&&WnU P t te&&Wmz P T l
theorem We0:∀(l:List Field) (m:List (Nat×TypeId)),Wf0 l m=true→l.map (λf=>(f.offset,f.type))=m∧∀f∈l,f.name≠ "_"
 | [],[],_=>⟨rfl,by simp⟩
 | [],_::_,h=>by cases h
 |_::_,[],h=>by cases h
 |f::l,p::m,h=>by
  simp only[Wf0,Xi,bne_iff_ne,ne_eq]at h;obtain⟨⟨⟨h1,h2⟩,h3⟩,h4⟩:=h;obtain⟨h5,h6⟩:=We0 l m h4;have h1:f.offset=p.1:=by simpa using h1
  have h2:f.type=p.2:=by simpa using h2
  refine⟨by rw[Xaf,h5,h1,h2],λg hg=>?_⟩;rcases Xr.1 hg with hg|hg
  .subst hg;exact h3
  .exact h6 g hg
theorem WnQ{P:Program}{T:Tab}{t:TypeId}{te:TE}(h:Wql P T t te=true)(hi:WnU P t te=true):TEok P T t te:=by
 obtain⟨ty,agg,shape⟩:=te;refine⟨?_,?_⟩
 .unfold Wql at h;cases shape with
  |basic=>
   simp only[Xi,Xao]at h⊢;refine⟨h.1,?_⟩;have h:=h.2;cases ty with
   |int k=>
    simp only at h⊢;split at h
    .rename_i k' hu;simp only[Wi]at h;rw[hu,h]
    .cases h
   |bool=>
    simp only at h⊢;split at h
    .assumption
    .cases h
   |str=>
    simp only at h⊢;split at h
    .assumption
    .cases h
   |slice e=>cases h
   |own e=>cases h
   |prod a b=>cases h
  |slice e=>
   simp only[Xi,Xao]at h⊢;obtain⟨⟨h1,h2⟩,h3⟩:=h;refine⟨h1,?_,?_⟩
   .split at h2
    .rename_i e' hu;rw[hu];have:e'=e:=by simpa using h2
     rw[this]
    .cases h2
   .split at h3
    .rename_i dE hl;exact⟨dE,hl,by simpa using h3⟩
    .cases h3
  |struct fs=>
   simp only[Xi,Xao]at h⊢;obtain⟨⟨⟨h1,h2⟩,h3⟩,h4⟩:=h;refine⟨h1,?_⟩;split at h2
   .rename_i fields hu;obtain⟨h5,h6⟩:=We0 _ _ h2;exact⟨fields,hu,h5,λf hf=>h6 f (by simpa using hf),h3,h4⟩
   .cases h2
  |ptr e=>
   simp only[Xi,Xao]at h⊢;refine⟨h.1,?_⟩;have h:=h.2;split at h
   .rename_i e' hu;rw[hu];have:e'=e:=by simpa using h
    rw[this]
   .cases h
  |arr n e=>
   simp only[Xi]at h⊢;obtain⟨⟨h1,h2⟩,h3⟩:=h;refine⟨h1,?_,?_⟩
   .split at h2
    .rename_i n' e' hu;simp only[Xi]at h2;have e1:n'=n:=by simpa using h2.1
     have e2:e'=e:=by simpa using h2.2
     rw[hu,e1,e2]
    .cases h2
   .split at h3
    .rename_i dE hl;simp only[Xi,Wi]at h3;refine⟨dE,hl,h3.1,λm f hs=>?_⟩;have:=h3.2;unfold TE.plain at this;rw[hs]at this;cases this
    .cases h3
 .unfold WnU at hi;split at hi
  .rename_i i tt;split at hi
   .rename_i z hz;simp only[Xi]at hi;obtain⟨⟨h1,h2⟩,h3⟩:=hi;exact⟨i,z,tt,by simpa using h1,hz,Wmw _ _ h2,Xgc h3⟩
   .cases hi
  .cases hi
theorem Wul{P:Program}{T:Tab}(h:Wmz P T T=true):Waf P T:=by
 have key:∀l,Wmz P T l=true->∀t te,Wq l t=some te->TEok P T t te:=by
  intro l
  induction l with
  |nil=>intro _ t te hl;cases hl
  |cons p l ih=>
   intro hc t te hl;obtain⟨t',dE⟩:=p;simp only[Wmz,Xi]at hc;rw[WG]at hl;split at hl
   .rename_i e;subst e;injection hl with hl;subst hl;exact WnQ hc.1.1 hc.1.2
   .exact ih hc.2 t te hl
 exact key T h
theorem Wg{P:Program}:WeY P []:=λk sg h=>by cases h
theorem Wsj{P:Program}{Γ:Ctx}{k:FuncId}{sg:Sig}(hg:Good P k sg)(hc:Wgc P k)(h:WeY P Γ):WeY P ((k,sg)::Γ):=λk' tu hl=>by
 simp only[Wq]at hl;split at hl
 .rename_i e;have:k=k':=by simpa using e
  subst this;injection hl with hl;subst hl;exact⟨hg,hc⟩
 .exact h k' tu hl
def Wqj(f:Func):Bool:=f.body.isSome&& !(f.name== "runtime.NumGoroutine")
theorem Wfr{P:Program}{k:FuncId}{f:Func}(hf:P.funcs[k]?=some f)(h:Wqj f=true):Wgc P k:=by
 simp only[Wqj,Xi,Xao]at h;refine⟨f,hf,?_,h.2⟩;cases hb:f.body with
 |none=>rw[hb]at h;cases h.1
 |some c=>rfl
def Wnh(f:Func)(ps:List PTy):Bool:=match f.body with
 |some c=>Wdw f.ntmps (WdY ps 0 0) c&&Nat.ble (WbD ps) f.ntmps&&Wcd ps
 |none=>false
theorem WqK{P:Program}{T:Tab}{Γ:Ctx}(hM:P.follows .mixedOrders=true)(hT:Waf P T)(hΓ:WeY P Γ){f:Func}{k:FuncId}(hf:P.funcs[k]?=some f){sg:Sig}(ci:Wnh f sg.ps=true){ann:Nat->List Ghost}
  (h:∀d o,sg.run d=some o->∃N,den T Γ ann N sg f d some=some o):Good P k sg:=by
 unfold Wnh at ci;split at ci
 .rename_i c hb;simp only[Xi]at ci;exact WtC hM hT hΓ hf hb ci.1.1 ci.2 (Xgc ci.1.2) h
 .cases ci
end Go.Sx
namespace Go.Sx
def Wfm:Code->List Code
 | .seq a b=>Wfm a++Wfm b
 | .cond _ a b=>Wfm a++Wfm b
 | .block _ c=>Wfm c
 | .loop c=>c::Wfm c
 |_=>[]
def Wro(f:Func):Code:=match f.body with
 |some c=>c
 |none=>.skip
def Wqv(f:Func)(i:Nat):Code:=(Wfm (Wro f)).getD i .skip
noncomputable def WtU{R:Type}(T:Tab)(Γ:Ctx)(ann:Nat->List Ghost)(N:Nat):Code->List Nat->(Ex->St->Option R)->Ex->St->Option R
 | .seq a b,p,k=>match p with
  |0::p=>WtU T Γ ann N a p λe af=>match e with
   | .normal=>sx T Γ ann N b af k
   | .exit id=>k (.exit id) af
   | .ret=>k .ret af
  |_::p=>WtU T Γ ann N b p k
  | []=>k
 | .cond _ x y,p,k=>match p with
  |0::p=>WtU T Γ ann N x p k
  |_::p=>WtU T Γ ann N y p k
  | []=>k
 | .block id c,p,k=>match p with
  |_::p=>WtU T Γ ann N c p λe af=>match e with
   | .exit bN=>if bN=id then k .normal af else k (.exit bN) af
   | .normal=>k .normal af
   | .ret=>k .ret af
  | []=>k
 |_,_,k=>k
def WuN{R:Type}(gs:List Ghost)(L:St->(Ex->St->Option R)->Option R)(K:Ex->St->Option R):Ex->St->Option R:=λe st=>match e with
 | .normal=>match WdX gs st with
  |some (c,af)=>bif c then L af K else none
  |none=>none
 | .exit id=>K (.exit id) st
 | .ret=>K .ret st
abbrev vI(x:Int):AVal:=.s (.one (.val (.int .i64) x))
abbrev vB(x:Bool):AVal:=.s (.one (.val .bool x))
abbrev vV(t:Ty)(x:t.den):AVal:=.s (.one (.val t x))
abbrev vO(i:Nat):AVal:=.s (.one (.own i))
abbrev vP(i o:Nat):AVal:=.s (.one (.ptr i o))
abbrev Qs(s:Sig):=WfH s.ps×Wgs s.rs
structure Fn where
 F:Func
 a:Nat->List Ghost
 s:Nat->Sig
 c:Nat->Ctx
def Wx:Nat->List Ghost:=λ_=>[]
def W0:Nat->Ctx:=λ_=>[]
noncomputable def lpM{R:Type}(T:Tab)(Γ:Ctx)(ann:Nat->List Ghost)(N:Nat)(F:Func)(i k n:Nat)(st:St)(K:Ex->St->Option R):Option R:=WmX (WjH (ann k) λst k=>sx T Γ ann N (Wqv F i) st k) n st K
noncomputable def cxF(T:Tab)(Γ:Ctx)(ann:Nat->List Ghost)(N:Nat)(sg:Sig)(F:Func)(p:List Nat):Ex->St->Option (Qs sg):=WtU (R:=Qs sg) T Γ ann N (Wro F) p (Wu0 T sg F.results.toList some)
noncomputable def cxL{R:Type}(T:Tab)(Γ:Ctx)(ann:Nat->List Ghost)(N:Nat)(F:Func)(i k:Nat)(p:List Nat)(n:Nat)(K:Ex->St->Option R):Ex->St->Option R:=WtU T Γ ann N (Wqv F i) p (WuN (ann k) (lpM T Γ ann N F i k n) K)
end Go.Sx
namespace Go.Sx
open Go.ChangeShapes Go.WideShapes Go.ChangeAt Go.RowKit
set_option linter.unusedVariables false
set_option linter.unusedSimpArgs false
def Wfd:(t:Ty)->t.den->Prop
 | .int k,n=>(Lit.int k n).wf=true
 | .bool,_=>True
 | .str,s=>Xb s<=maxLen
 | .slice e,l=>Xb l<=maxLen/\∀x,List.Mem x l->Wfd e x
 | .own _,_=>False
 | .prod a b,d=>Wfd a d.1/\Wfd b d.2
def Wf3:(t:Ty)->t.den->Nat
 | .int _,_=>1
 | .bool,_=>1
 | .str,s=>Xb s+1
 | .slice e,l=>(List.map (Wf3 e) l).sum+1
 | .own _,_=>0
 | .prod a b,d=>Wf3 a d.1+Wf3 b d.2
structure Bulk{H:Type}(β:DataW H->Nat):Prop where
 lit:∀l,1<=β (.lit l)
 str:∀s,s.length+1<=β (.lit (.string s))
 nil:1<=β .nil
 slice:∀es sp,(es.map β).sum+1<=β (.slice es sp)
 agg:∀ps,(ps.map β).sum<=β (.agg ps)
def Wjm(T:Tab):List (Nat×TypeId)->Nat->Option (List Ty)
 | [],_=>some []
 |(o,ft)::fs,off=>match Wq T ft with
  |some te=>bif Xbk o off&&te.plain then(Wjm T fs (off+te.ty.size)).map (te.ty:: ·)else none
  |none=>none
def Wd3:List Ty->Ty
 | []=>.bool
 | [t]=>t
 |t::ts=>.prod t (Wd3 ts)
def Wnc(T:Tab):Nat->TypeId->Bool
 |0,_=>false
 |n+1,t=>match Wq T t with
  |some te=>match te.shape with
   | .basic=>match te.ty with
    | .int _=>true
    | .bool=>true
    | .str=>true
    | .slice _=>false
    | .own _=>false
    | .prod _ _=>false
   | .slice e=>Wnc T n e&&(match Wq T e with|some dE=>dE.plain|none=>false)
   | .struct fs=>fs.all (λf=>Wnc T n f.2)&&(match Wjm T fs 0 with
    |some (t::ts)=>decide (te.ty=Wd3 (t::ts))
    |_=>false)
   | .ptr _=>false
   | .arr _ _=>false
  |none=>false
section
variable{P:Program}{T:Tab}{H:Type}{enc:TypeId×Value->H}{β:DataW H->Nat}{w:World}
theorem WgI{t:TypeId}{te:TE}(h:TEok P T t te):P.cellsOf t=te.size:=by
 obtain⟨i,z,hi,hs,_⟩:=h.info;unfold Program.cellsOf;rw[hi];exact hs
def Wia(w:World):GH:=λb o=>w.cell? ⟨b,o,none⟩
theorem Wrw{b:Nat}{a:Addr}{n:Nat}{cs:List Value}(h:w.cells? b a n=some cs):cs.length=n/\∀(j:Nat) (v:Value),cs[j]?=some v->w.cell? (a.add j)=some v:=by
 unfold World.cells? at h;split at h
 .refine⟨by simpa using mapM_some_length h,λj v hj=>?_⟩;have hlt:j<n:=by
   have:=mapM_some_length h;have h2:=(Xaa.1 hj).1;simp at this;omega
  have:=mapM_some_get h j j (by simp[hlt]);rw[this];exact hj
 .cases h
theorem Woz{e:Ty}{a:Addr}(n:Nat)(hn:0<n):∀(k:Nat) (i0:Nat) (el:Nat->Option (DataW H×List MemPlace)) (f:List Value->Option (DataW H×List MemPlace)),
  (∀cs y,f cs=some y->∃d:e.den,Enc (Wia w) e d cs/\Wfd e d/\Wf3 e d<=β y.1)->
  (∀i,i0<=i->i<i0+k->∃y cs,w.cells? 0 (a.add (i*n)) n=some cs/\f cs=some y/\el i=some y)->
  ∃(l:List e.den) (cs:List Value),l.length=k/\EncL (Enc (Wia w) e) l cs/\(∀x∈l,Wfd e x)/\(∀(j:Nat) (v:Value),cs[j]?=some v->w.cell? (a.add (i0*n+j))=some v)/\
   cs.length=k*n/\(l.map (Wf3 e)).sum<=((Xcz k).map λi=>match el (i0+i)with|some y=>β y.1|none=>0).sum
 |0,i0,el,f,hf,he=>⟨[],[],rfl,rfl,by simp,by simp,by simp,by simp⟩
 |k+1,i0,el,f,hf,he=>by
  obtain⟨y,c1,h1,h2,h3⟩:=he i0 (Xl _) (by omega);obtain⟨d,pV,jt,hd3⟩:=hf _ _ h2;obtain⟨l,cs,g1,g2,g3,g4,g5,g6⟩:=Woz n hn k (i0+1) el f hf (λi hi1 pW=>he i (by omega) (by omega));obtain⟨hl,hg⟩:=Wrw h1;refine⟨d::l,c1++cs,by simp[g1],⟨c1,cs,rfl,pV,g2⟩,λx hx=>?_,λj v hj=>?_,?_,?_⟩
  .rcases Xr.1 hx with rfl|hx
   .exact jt
   .exact g3 x hx
  .rw[Xau]at hj;split at hj
   .have:=hg j v hj;rw[Addr.add_add]at this;exact this
   .rename_i hlt;have:=g4 _ v hj;rw[hl]at this hlt;have e:(i0+1)*n+(j-n)=i0*n+j:=by rw[Xcp];omega
    rw[e]at this;exact this
  .rw[Xw,hl,g5,Xcp];omega
  .rw[List.range_succ_eq_map,Xaf,Xaf,Xcw,Xcw,Xde];simp only[Xbd,h3];have:((λi=>match el (i0+i)with|some y=>β y.1|none=>0)∘Nat.succ)= λi=>match el (i0+1+i)with|some y=>β y.1|none=>0:=by
    funext i;simp only[Function.comp,Nat.succ_eq_add_one];rw[show i0+(i+1)=i0+1+i by omega]
   rw[this];omega
theorem WtX{β':DataW H×List MemPlace->Nat}(xs:List (DataW H×List MemPlace)):((Xcz xs.length).map λi=>match xs[0+i]? with|some y=>β' y|none=>0).sum=(xs.map β').sum:=by
 congr 1;apply List.ext_getElem
 .simp
 .intro i h1 h2;simp at h1;simp[h1]
theorem Wnl{t:Ty}{ts:List Ty}(h:ts≠ []):Wd3 (t::ts)= .prod t (Wd3 ts):=by
 cases ts with
 |nil=>exact WC rfl h
 |cons _ _=>rfl
theorem WjA(hT:Waf P T)(hβ:Bulk β)(f:TypeId->List Value->Option (DataW H×List MemPlace)){cs:List Value}:∀(fs:List (Nat×TypeId)) (off:Nat) (ts:List Ty) (ys:List (DataW H×List MemPlace)),ts≠ []->Wjm T fs off=some ts->
  (∀fd∈fs,∀te cs y,Wq T fd.2=some te->f fd.2 cs=some y->∃d:te.ty.den,Enc (Wia w) te.ty d cs/\Wfd te.ty d/\Wf3 te.ty d<=β y.1)->
  ys.length=fs.length->(∀(i:Nat) (fd:Nat×TypeId),fs[i]?=some fd->f fd.2 ((cs.drop fd.1).take (P.cellsOf fd.2))=ys[i]?)->cs.length=off+(Wd3 ts).size->
  ∃d:(Wd3 ts).den,Enc (Wia w) (Wd3 ts) d (cs.drop off)/\Wfd (Wd3 ts) d/\Wf3 (Wd3 ts) d<=(ys.map λy=>β y.1).sum
 | [],off,ts,ys,hne,ig,_,_,_,_=>by injection ig with ig;exact WC ig.symm hne
 |(o,ft)::fs,off,ts,ys,hne,ig,hf,hlen,rK,bA=>by
  cases ys with
  |nil=>simp at hlen
  |cons y ys=>
   simp only[Wjm]at ig;split at ig
   .rename_i te hl;obtain⟨hc,ig⟩:=WaC ig;simp only[Xi]at hc;have ho:o=off:=by simpa using hc.1
    obtain⟨rL,ew,rfl⟩:=Xu.1 ig;have hsz:P.cellsOf ft=te.ty.size:=by rw[WgI (hT _ _ hl),WW hc.2]
    have h0:=rK 0 (o,ft) rfl;simp only[Xdg,hsz,ho]at h0;obtain⟨d1,e1,e2,e3⟩:=hf (o,ft) (Xj ..) te _ y hl h0;cases eI:fs with
    |nil=>
     subst eI;simp only[Wjm]at ew;injection ew with ew;subst ew;have pX:ys= []:=by cases ys with
      |nil=>rfl
      |cons _ _=>simp at hlen
     subst pX;have pP:(cs.drop off).take te.ty.size=cs.drop off:=Xdj (by rw[List.length_drop,bA];simp[Wd3]);rw[pP]at e1;exact⟨d1,e1,e2,by rw[Xaf,Xce,Xcw,List.sum_nil,Xbd];exact e3⟩
    |cons g gs=>
     have nm:rL≠ []:=by
      rw[eI]at ew;obtain⟨o2,ft2⟩:=g;simp only[Wjm]at ew;split at ew
      .obtain⟨_,ew⟩:=WaC ew;obtain⟨x,_,rfl⟩:=Xu.1 ew;simp
      .cases ew
     have rM:=Wnl (t:=te.ty) nm;obtain⟨d2,f1,f2,f3⟩:=WjA hT hβ f (cs:=cs) fs (off+te.ty.size) rL ys nm ew (λfd hQ=>hf fd (Xf _ hQ)) (by simpa using hlen)
      (λi fd hi=>by have:=rK (i+1) fd (by simpa using hi);simpa using this) (by rw[bA,rM,Ty.size];omega)
     rw[rM];refine⟨(d1,d2),⟨_,_,?_,e1,f1⟩,⟨e2,f2⟩,?_⟩
     .rw[←List.drop_drop];exact(List.take_append_drop _ _).symm
     .simp only[Wf3,Xaf,Xcw];omega
   .cases ig
theorem Wk4(hT:Waf P T)(hβ:Bulk β):∀(n fuel:Nat) (t:TypeId) (te:TE) (cs:List Value) (x:DataW H×List MemPlace),Wnc T n t=true->Wq T t=some te->
  DataW.trod enc P w 0 (λ_=>true) true fuel t cs=some x->∃d:te.ty.den,Enc (Wia w) te.ty d cs/\Wfd te.ty d/\Wf3 te.ty d<=β x.1
 |0,_,_,_,_,_,h,_,_=>by cases h
 |n+1,fuel,t,te,cs,x,h,hl,hx=>by
  have bD:=hT _ _ hl;simp only[Wnc,hl]at h;obtain⟨ty,agg,shape⟩:=te;cases shape with
  |basic=>
   have hu:=bD.und.2;cases ty with
   |int k=>
    obtain⟨m,rfl,rfl,hw⟩:=DataW.trod_int hu hx;exact⟨m,rfl,hw,hβ.lit _⟩
   |bool=>
    obtain⟨b,rfl,rfl⟩:=DataW.trod_bool hu hx;exact⟨b,rfl,trivial,hβ.lit _⟩
   |str=>
    obtain⟨s,rfl,rfl,hs⟩:=DataW.trod_string hu hx;refine⟨s.data.toList,by simp[Enc],?_,hβ.str _⟩;show s.data.toList.length<=maxLen;rw[Array.length_toList];exact hs
   |slice e=>cases h
   |own e=>cases h
   |prod a b=>cases h
  |slice e=>
   simp only[Xi]at h;obtain⟨ha,hu,dE,hle,gv⟩:=bD.und;simp only at gv;subst gv;have hp:dE.plain=true:=by have:=h.2;rw[hle]at this;exact this
   have hsz:P.cellsOf e=dE.ty.size:=by rw[WgI (hT _ _ hle),WW hp]
   rcases DataW.trod_slice hu hx with⟨rfl,rfl⟩|⟨a,len,cap,elems,rest,m,rfl,rfl,rfl,hb,tv,iy,pY,hel,fV,_⟩
   .exact⟨([]:List dE.ty.den),⟨_,rfl,.inl ⟨rfl,rfl⟩⟩,⟨by simp,λx hx=>by cases hx⟩,by simpa [Wf3]using hβ.nil⟩
   .have key:=Woz (w:=w) (β:=β) (e:=dE.ty) (a:=a) dE.ty.size (Wbu _) len 0 (λi=>elems[i]?) (λcs=>DataW.trod enc P w 0 (λ_=>true) true m e cs)
     (λcs y hy=>Wk4 hT hβ n m e dE cs y h.1 hle hy) (λi _ hi=>by
      rw[Xat]at hi;have:=hel i hi;rw[hsz]at this;have hlt:i<elems.length:=by omega
      rw[Xs hlt]at this;obtain⟨cs,h1,h2⟩:=Xbt.1 this;exact⟨elems[i],cs,h1,h2,Xs hlt⟩)
    obtain⟨l,cs,g1,g2,g3,g4,g5,g6⟩:=key;refine⟨l,⟨_,rfl,?_⟩,⟨by rw[g1];omega,g3⟩,?_⟩
    .by_cases h0:len=0
     .subst h0;exact .inr (.inr ⟨a,cap,rfl,Xz g1⟩)
     .have pk:0<cs.length:=by rw[g5];exact Nat.mul_pos (by omega) (Wbu _)
      have no:=g4 0 _ (Xs pk);have nq:a.spot=none:=by
       rw[Xem,Xbd]at no;have:=World.cell?_spot no;simpa [Addr.add]using this
      obtain⟨b,off,spot⟩:=a;subst nq;refine .inr (.inl ⟨b,off,cap,cs,by rw[g1],by rw[g1];exact tv,iy,g2,λj v hj=>?_⟩);have:=g4 j v hj;rw[Xem,Xat,WaP]at this;exact this
    .have h1:=hβ.slice (elems.map (·.1)) (rest.map (·.1));have h2:((Xcz len).map λi=>match elems[0+i]? with|some y=>β y.1|none=>0).sum=(elems.map λy=>β y.1).sum:=by
      rw[←pY];exact WtX elems
     rw[h2]at g6;rw[Xde]at h1;simp only[Wf3];have h3:(List.map (β∘λx=>x.1) elems)=elems.map λy=>β y.1:=rfl;rw[h3]at h1;show(List.map (Wf3 dE.ty) l).sum+1<=_;omega
  |struct fs=>
   simp only[Xi]at h;obtain⟨ha,fields,hu,eI,rN,_⟩:=bD.und;have h2:=h.2;split at h2
   .rename_i t1 ts tw;have gv:ty=Wd3 (t1::ts):=WaH h2;subst gv;obtain⟨xs,m,rfl,rfl,hcl,iu,lu⟩:=DataW.trod_struct hu hx;have hsz:P.cellsOf t=(Wd3 (t1::ts)).size:=by rw[WgI bD];rfl
    have key:=WjA (w:=w) (P:=P) hT hβ (λt cs=>DataW.trod enc P w 0 (λ_=>true) true m t cs) (cs:=cs) fs 0 (t1::ts) xs (by simp) tw
     (λfd hQ te cs y oJ hy=>Wk4 hT hβ n m fd.2 te cs y (Xae.1 h.1 fd hQ) oJ hy) (by rw[iu,←eI];simp)
     (λi fd hi=>by
      rw[←eI]at hi;rw[Xan]at hi;obtain⟨fl,gu,he⟩:=Xu.1 hi;subst he;exact lu i fl (by simpa using gu)) (by rw[hcl,hsz,Xat])
    obtain⟨d,g1,g2,g3⟩:=key;rw[Xak]at g1;refine⟨d,g1,g2,Xbe g3 ?_⟩;have:=hβ.agg (xs.map (·.1));rw[Xde]at this;exact this
   .cases h2
  |ptr e=>cases h
  |arr m e=>cases h
theorem Weq{G:GH}{w:World}:∀(t:Ty) (d:t.den) (vs:List Value),Enc G t d vs->TyRel G w t d vs []
 | .int _,_,_,h=>⟨rfl,h⟩
 | .bool,_,_,h=>⟨rfl,h⟩
 | .str,_,_,h=>⟨rfl,h⟩
 | .slice _,_,_,h=>⟨rfl,h⟩
 | .own _,_,_,h=>h.elim
 | .prod a b,d,vs,⟨c1,c2,he,h1,h2⟩=>⟨c1,c2,[],[],he,rfl,Weq a _ _ h1,Weq b _ _ h2⟩
def WoL:(ps:List PTy)->We1 ps->Prop
 | [],_=>True
 | .v t _::ps,d=>Wfd t d.1/\WoL ps d.2
 | .box _::_,_=>False
 | .mut _::_,_=>False
 | .clos _ _::_,_=>False
 | .kv _ _::_,_=>False
 | .rp _::_,_=>False
 | .vj _::_,_=>False
 | .boxal _ _::_,_=>False
def Wf4:(ps:List PTy)->We1 ps->Nat
 | [],_=>0
 | .v t _::ps,d=>Wf3 t d.1+Wf4 ps d.2
 | .box _::_,_=>0
 | .mut _::_,_=>0
 | .clos _ _::_,_=>0
 | .kv _ _::_,_=>0
 | .rp _::_,_=>0
 | .vj _::_,_=>0
 | .boxal _ _::_,_=>0
def Wt9(P:Program)(T:Tab):List TypeId->List PTy->Bool
 | [],[]=>true
 |t::ts,p::ps=>(match p with
  | .v ty agg=>(match Wq T t with|some te=>decide (te.ty=ty)&&(te.agg==agg)|none=>false)&&Wnc T 20 t&&P.readableRec t&&Nat.blt t P.types.size&&Wt9 P T ts ps
  | .box _=>false
  | .mut _=>false
  | .clos _ _=>false
  | .kv _ _=>false
  | .rp _=>false
  | .vj _=>false
  | .boxal _ _=>false)
 |_,_=>false
theorem WlB(hT:Waf P T)(hβ:Bulk β):∀(ts:List TypeId) (ps:List PTy) (vs:List Value) (ds:List (DataW H)) (pl:List MemPlace),Wt9 P T ts ps=true->DataW.TrodAll enc P w 0 (λ_=>true) true ts vs ds pl->
  (∀(j:Nat) (t:TypeId) (v:Value),ts[j]?=some t->vs[j]?=some v->∃base,Value.okWide P w .any base t v)->
  ∃d:We1 ps,Wa5 (Wia w) w ps d vs [] []/\WoL ps d/\Wf4 ps d<=(ds.map β).sum
 | [],[],vs,ds,pl,_,h,_=>by
  obtain⟨rfl,rfl,_⟩:=trodAll_nil h;exact⟨(),⟨rfl,rfl,rfl⟩,trivial,by simp[Wf4]⟩
 | [],_::_,_,_,_,h,_,_=>by cases h
 |_::_,[],_,_,_,h,_,_=>by cases h
 |t::ts,.box _::ps,_,_,_,h,_,_=>by cases h
 |t::ts,.mut _::ps,_,_,_,h,_,_=>by cases h
 |t::ts,.clos _ _::ps,_,_,_,h,_,_=>by cases h
 |t::ts,.kv _ _::ps,_,_,_,h,_,_=>by cases h
 |t::ts,.rp _::ps,_,_,_,h,_,_=>by cases h
 |t::ts,.vj _::ps,_,_,_,h,_,_=>by cases h
 |t::ts,.boxal _ _::ps,_,_,_,h,_,_=>by cases h
 |t::ts,.v ty agg::ps,vs,ds,pl,hp,h,ga=>by
  obtain⟨v,vs',d,nr,p,q,rfl,rfl,rfl,h0,hr⟩:=trodAll_cons h;simp only[Wt9,Xi]at hp;obtain⟨⟨⟨⟨h1,h2⟩,h3⟩,h4⟩,h5⟩:=hp;split at h1
  .rename_i te hl;simp only[Xi]at h1;have e1:te.ty=ty:=WaH h1.1;have e2:te.agg=agg:=eq_of_beq h1.2;subst e1 e2;obtain⟨fuel,hx⟩:=h0;obtain⟨x,nv,rO,pZ⟩:=Wk4 hT hβ 20 fuel t te _ (d,p) h2 hl hx;obtain⟨base,ci⟩:=ga 0 t v rfl rfl;obtain⟨dd,g1,g2,g3⟩:=WlB hT hβ ts ps vs' nr q h5 hr (λj t v hj hv=>ga (j+1) t v (by simpa using hj) (by simpa using hv));refine⟨(x,dd),⟨v,vs',[],[],rfl,rfl,?_,g1⟩,⟨rO,g2⟩,?_⟩
   .have hu:=(hT _ _ hl).und;unfold Wi3;obtain⟨ty,ag,shape⟩:=te;simp only at nv rO pZ⊢;have ee:∀u:Value,u.cells= #[u]->u=v->v.cells.toList= [v]:=λu h e=>by rw[←e,h]
    cases shape with
    |basic=>
     obtain⟨ha,hu⟩:=hu;simp only at ha;subst ha;simp only[Xbc,Wal];have:v.cells.toList= [v]:=by
      cases ty with
      |int k=>obtain⟨n,rfl⟩:=okWide_int hu ci;rfl
      |bool=>obtain⟨n,rfl⟩:=okWide_bool hu ci;rfl
      |str=>obtain⟨n,rfl⟩:=okWide_string hu ci;rfl
      |slice e=>cases hu
      |own e=>cases hu
      |prod a b=>cases hu
     rw[this]at nv;exact Weq _ _ _ nv
    |slice e=>
     obtain⟨ha,hu,_⟩:=hu;simp only at ha;subst ha;simp only[Xbc,Wal];obtain⟨a,l,c,rfl⟩:=okWide_slice hu ci;exact Weq _ _ _ nv
    |struct fs=>
     obtain⟨ha,fields,hu,_⟩:=hu;simp only at ha;subst ha;simp only[W2];obtain⟨cs,rfl,_⟩:=okWide_struct hu ci;exact⟨cs.toList,by simp,Weq _ _ _ nv⟩
    |ptr e=>simp only[Wnc,hl]at h2;cases h2
    |arr m e=>simp only[Wnc,hl]at h2;cases h2
   .have pZ:Wf3 te.ty x<=β d:=pZ;simp only[Wf4,Xaf,Xcw];omega
  .cases h1
theorem Wmt:∀(ts:List TypeId) (vs:List Value) (ds:List (DataW H)) (pl:List MemPlace),DataW.TrodAll enc P w 0 (λ_=>true) true ts vs ds pl->ds.length=ts.length
 | [],vs,ds,pl,h=>by obtain⟨_,rfl,_⟩:=trodAll_nil h;rfl
 |t::ts,vs,ds,pl,h=>by
  obtain⟨v,vs',d,nr,p,q,rfl,rfl,rfl,h0,hr⟩:=trodAll_cons h;simp[Wmt ts vs' nr q hr]
theorem WlD(il:laidOutB P=true){W W':World}(hb:Below W.heap.size W W'){sp:Nat->Bool}:∀(ts:List TypeId) (ps:List PTy) (vs:List Value) (ds:List (DataW H)) (pl:List MemPlace),Wt9 P T ts ps=true->
  DataW.TrodAll enc P W 0 (λ_=>true) true ts vs ds pl->(∀p∈pl,p.block<W.heap.size)->(∀p∈pl,sp p.block=true)->DataW.TrodAll enc P W' 0 sp true ts vs ds pl
 | [],ps,vs,ds,pl,_,h,_,_=>by
  obtain⟨rfl,rfl,rfl⟩:=trodAll_nil h;exact trodAll_mk0
 |t::ts,[],_,_,_,h,_,_,_=>by cases h
 |t::ts,.box _::ps,_,_,_,h,_,_,_=>by cases h
 |t::ts,.mut _::ps,_,_,_,h,_,_,_=>by cases h
 |t::ts,.clos _ _::ps,_,_,_,h,_,_,_=>by cases h
 |t::ts,.kv _ _::ps,_,_,_,h,_,_,_=>by cases h
 |t::ts,.rp _::ps,_,_,_,h,_,_,_=>by cases h
 |t::ts,.vj _::ps,_,_,_,h,_,_,_=>by cases h
 |t::ts,.boxal _ _::ps,_,_,_,h,_,_,_=>by cases h
 |t::ts,.v ty agg::ps,vs,ds,pl,hp,h,hlt,fV=>by
  obtain⟨v,vs',d,nr,p,q,rfl,rfl,rfl,h0,hr⟩:=trodAll_cons h;simp only[Wt9,Xi]at hp;obtain⟨⟨⟨⟨h1,h2⟩,h3⟩,h4⟩,h5⟩:=hp;have hrow:t<P.types.size:=by rw[Xgq]at h4;exact h4
  exact⟨p,q,WideElems.Trod_stays il h3 hrow h0 (λx hx=>hb.same (hlt x (Xm _ hx))) (λx hx=>fV x (Xm _ hx)),
   WlD il hb ts ps vs' nr q h5 hr (λx hx=>hlt x (Xh _ hx)) (λx hx=>fV x (Xh _ hx)),rfl⟩
theorem WsK{f:Func}{s:ChangeSpec}{apart fresh fM again:Bool}{W W':World}{args:Array Value}{v:Value}{ds gs:List (DataW H)}{before pa pv:List MemPlace}
  (hW:DataW.Whole enc P f.params.toList s.vars apart W args.toList ds gs before)
  (gP:∀(b:Nat) (sp:Nat->Bool) (hd:Bool),DataW.TrodAll enc P W' b sp hd f.resultTypes.toList (v.resultList f.resultTypes.size) (s.fn H (ds++gs)).results [])
  (hargs:∀sp:Nat->Bool,(∀p∈before,sp p.block=true)->DataW.TrodAll enc P W' 0 sp true f.params.toList args.toList (s.fn H (ds++gs)).args pa)
  (kT:∀sp:Nat->Bool,(∀p∈before,sp p.block=true)->DataW.TrodVars enc P W' sp s.vars (s.fn H (ds++gs)).vars pv)
  (bT:before=pa++pv) (hk:W.keptBut W' (· ∈before)) (rP:∀a,a.block<W.heap.size->W'.frozen? a=W.frozen? a)
  (ci:∀(j:Nat) (t:TypeId) (r:Value),f.resultTypes[j]?=some t->(v.resultList f.resultTypes.size)[j]?=some r->Value.okWide P W' .any 0 t r):
  s.post enc P f apart fresh fM again W args v W':=by
 have ge:∀p∈before,(λb=>decide (b<W.heap.size)) p.block=true:=λp hp=>by simpa using hW.lt p hp
 refine⟨ds,gs,before,[],pa,pv,hW,gP _ _ _,hargs _ ge,kT _ ge,World.keptBut_mono (λp hp=>⟨hp,?_⟩) hk,λ_=>?_⟩
 .rw[bT,Xn]at hp;exact Or.inr hp
 .have hlt:=hW.lt;obtain⟨_,_,_,_,_,hz,hn⟩:=hW;refine⟨ci,_,_,([]++pa)++pv,⟨[]++pa,pv,trodAll_append (hargs _ (λ_ _=>rfl)) (gP _ _ _),kT _ (λ_ _=>rfl),rfl,?_,?_⟩,?_⟩
  .intro b off hp;have dS:MemPlace.cell b off∈before:=by rw[bT];simpa using hp
   rw[rP ⟨b,off,none⟩ (hlt _ dS)];exact hz b off dS
  .intro ha;have:=hn ha;rw[bT]at this;simpa using this
  .intro p hp _;rw[bT];simpa using hp
theorem law_row(hT:Waf P T)(il:laidOutB P=true){f:Func}{k:FuncId}{s:ChangeSpec}(di:s.vars= [])(hs:∀ds:List (DataW H),ds.length=f.params.toList.length->s.fn H ds={results:=[.lit (.bool true)],args:=ds})
  {ps:List PTy} (bT:Wt9 P T f.params.toList ps=true) {tb:TypeId} (gP:f.resultTypes= #[tb]) (rQ:P.underlying tb=some .bool) {run:Nat->We1 ps->Option (WfH ps×Wgs [.v .bool false])}
  (jr:∀N,Good P k (Sig.of ps [.v .bool false] (run N))) (hβ:Bulk β) {ok:List (DataW H)->Prop} {M:Nat->Prop} (ny:∀ds m,ok ds->m<=(ds.map β).sum->M m)
  (p0:∀d:We1 ps,WoL ps d->M (Wf4 ps d)->∃N o,run N d=some (o,(true,()))) {apart fresh fM again:Bool}
  (W:World) (base:Nat) (args:Array Value) (ds gs:List (DataW H)) (before:List MemPlace)
  (ga:∀(j:Nat) t v,f.params[j]?=some t->args[j]?=some v->Value.okWide P W .any base t v)
  (hW:DataW.Whole enc P f.params.toList s.vars apart W args.toList ds gs before) (hk:ok ds):
  Calls P k args W λe W'=>∃v,e= .returned v/\s.post enc P f apart fresh fM again W args v W':=by
 have hW':=hW;have hlt:=hW.lt;obtain⟨p,q,hA,hV,rR,rP,aS⟩:=hW;rw[di]at hV;obtain⟨tx,hq⟩:=trodVars_none hV;subst tx hq;rw[Xbp]at rR;subst rR;obtain⟨d,h1,h2,h3⟩:=WlB (w:=W) hT hβ f.params.toList ps args.toList ds before bT hA (λj t v hj hv=>⟨base,ga j t v (by simpa using hj) (by simpa using hv)⟩);obtain⟨N,o,ho⟩:=p0 d h2 (ny ds _ hk h3);have hc:=jr N d (o,(true,())) ho (Wia W) W args.toList [] [] h1 List.Pairwise.nil (by simp) (λb o v hv=>hv);have hargs:args.toList.toArray=args:=by simp
 rw[hargs]at hc;refine hc.mono λe W' ⟨rv,kf,ms,cL,G',he,ha⟩=>?_;have hb:Below W.heap.size W W':=⟨ha.le.os,ha.le.tape,ha.le.output,ha.le.size,λb hb=>ha.le.whole b hb (λo ⟨q,hq,_⟩=>by simp at hq)⟩;obtain⟨v,vs',n1,n2,e1,e2,e3,e4⟩:=ha.res;obtain⟨e5,_⟩:=e4;subst e5;have hv:v= .bool true:=by
  unfold Wi3 at e3;simp only[Xbc,Wal]at e3;have:=e3.2;simpa [Enc]using this
 subst hv;have jX:WiH rv= .bool true:=by rw[e1];rfl
 rw[jX]at he;refine⟨.bool true,he,?_⟩;have hlen:=Wmt _ _ _ _ hA;have p7:=hs (ds++ []) (by rw[Xbp];exact hlen);refine WsK (pa:=before) (pv:=[]) hW' ?_ ?_ ?_ (by simp) (hb.frame _) (λa ha=>hb.frozen ha) (ok_one gP rfl (okWide_bool_mk rQ _))
 .intro b sp hd;rw[p7,gP];exact trodAll_cons_mk (shut_bool rQ _) trodAll_mk0
 .intro sp fV;rw[p7,Xbp];exact WlD il hb _ _ _ _ _ bT hA hlt fV
 .intro sp fV;rw[p7,di];rfl
end
end Go.Sx
namespace Go.Sx
set_option linter.unusedVariables false
def sortInts(xs:List Int):List Int:=xs.mergeSort λx y=>decide (x<=y)
def Zxb(N:Nat)(xs:List Int):Option ((List Int×Unit)×Unit):=bif decide (xs.length<4611686018427387904)then some ((sortInts xs,()),())else none
theorem sortInt_some{N:Nat}{xs:List Int}{o:(List Int×Unit)×Unit}(h:Zxb N xs=some o):xs.length<4611686018427387904/\o=((sortInts xs,()),()):=by
 unfold Zxb at h;by_cases h':xs.length<4611686018427387904
 .rw[show decide (xs.length<4611686018427387904)=true by simpa using h']at h;simp only[Wa]at h;injection h with h;exact⟨h',h.symm⟩
 .rw[show decide (xs.length<4611686018427387904)=false by simpa using h']at h;cases h
end Go.Sx
namespace Go.Sx
set_option linter.unusedVariables false
def Wld{α:Type}(r:α->α->Bool):List α->Bool
 | []=>true
 |x::l=>l.all (r x)&&Wld r l
def lessBy{α:Type}(cf:α->α->Int)(x y:α):Bool:=decide (cf x y<0)
def apart{α:Type}(cf:α->α->Int)(x y:α):Bool:=lessBy cf x y||lessBy cf y x
def sortBy{α:Type}(cf:α->α->Int)(xs:List α):List α:=xs.mergeSort λx y=>!lessBy cf y x
def Zr8{α:Type}(rng:α->Bool)(cf:α->α->Int)(N:Nat)(xs:List α):Option ((List α×Unit)×Unit):=
 bif xs.all rng&&(Wld (apart cf) xs&&decide (xs.length<4611686018427387904))then some ((sortBy cf xs,()),())else none
structure SwoOn{α:Type}(rng:α->Bool)(cf:α->α->Int):Prop where
 irr:∀x,rng x=true->¬cf x x<0
 tr:∀x y z,rng x=true->rng y=true->rng z=true->cf x y<0->cf y z<0->cf x z<0
 nt:∀x y z,rng x=true->rng y=true->rng z=true->¬cf x y<0->¬cf y z<0->¬cf x z<0
theorem sortBy_some{α:Type}{rng:α->Bool}{cf:α->α->Int}{N:Nat}{xs:List α}{o:(List α×Unit)×Unit}(h:Zr8 rng cf N xs=some o):
  (∀x∈xs,rng x=true)/\Wld (apart cf) xs=true/\xs.length<4611686018427387904/\o=((sortBy cf xs,()),()):=by
 unfold Zr8 at h;cases hb:xs.all rng&&(Wld (apart cf) xs&&decide (xs.length<4611686018427387904))
 .rw[hb]at h;cases h
 .rw[hb]at h;simp only[Wa]at h;injection h with h;simp only[Xi,Wi]at hb;exact⟨Xae.1 hb.1,hb.2.1,hb.2.2,h.symm⟩
theorem pairs_get{α:Type}{r:α->α->Bool}:∀{l:List α},Wld r l=true->∀(i j:Nat) (hi:i<l.length) (hj:j<l.length),i<j->r l[i] l[j]=true
 | [],_,i,_,hi,_,_=>by simp at hi
 |x::l,h,0,j+1,hi,hj,hij=>by
  simp only[Wld,Xi]at h;exact Xae.1 h.1 _ (List.getElem_mem _)
 |x::l,h,i+1,j+1,hi,hj,hij=>by
  simp only[Wld,Xi]at h;simpa using pairs_get h.2 i j (by simpa using hi) (by simpa using hj) (by omega)
def Ws5(k:Int):Bool:=decide (-1000000000<=k)&&decide (k<=1000000000)
def WuD(a:Int×Int×Int):Bool:=Ws5 a.1
def cfE(a b:Int×Int×Int):Int:=a.1-b.1
def WtW(a:Int×Int×Int):Bool:=Ws5 a.1&&Ws5 a.2.1
def cfH(a b:Int×Int×Int):Int:=bif a.2.1==b.2.1 then a.1-b.1 else a.2.1-b.2.1
theorem Wgz{k:Int}(h:Ws5 k=true):-1000000000<=k/\k<=1000000000:=by unfold Ws5 at h;simpa using h
theorem Wvb:SwoOn WuD cfE:=⟨λx _=>by unfold cfE;omega,λx y z _ _ _=>by unfold cfE;omega,λx y z _ _ _=>by unfold cfE;omega⟩
theorem Wa3{a b:Int×Int×Int}:cfH a b<0↔(a.2.1<b.2.1\/(a.2.1=b.2.1/\a.1<b.1)):=by
 unfold cfH;by_cases h:a.2.1=b.2.1
 .have:(a.2.1==b.2.1)=true:=by simpa using h
  rw[this];simp only[Wa];omega
 .have:(a.2.1==b.2.1)=false:=by simpa using h
  rw[this];simp only[Wc];omega
theorem Wuc{a b:Int×Int×Int}(h:(a.2.1 !=b.2.1)=false):a.1-b.1=cfH a b:=by
 have h:a.2.1=b.2.1:=bne_eq_false_iff_eq.1 h;unfold cfH;rw[beq_iff_eq.2 h];rfl
theorem WuA{a b:Int×Int×Int}(h:(a.2.1 !=b.2.1)=true):a.2.1-b.2.1=cfH a b:=by
 have h:a.2.1≠b.2.1:=bne_iff_ne.1 h;unfold cfH;rw[beq_eq_false_iff_ne.2 h];rfl
theorem Wvc:SwoOn WtW cfH:=⟨λx _=>by rw[Wa3];omega,λx y z _ _ _=>by rw[Wa3,Wa3,Wa3];omega,λx y z _ _ _=>by rw[Wa3,Wa3,Wa3];omega⟩
end Go.Sx
