/- The abstract machine, part 3: a reflective interpreter of the program's code over data, with its soundness over the model. -/
import Derived.Test.YtceijnpnofmkkaaGreatEng2
open List renaming mem_cons→Xr,mem_cons_of_mem→Xe,mem_cons_self→Xh,length_append→Xz,getD_eq_getElem?_getD→Xag,getElem?_append→Xav,getElem?_cons_zero→Xdk,getElem?_eq_none→Xcr,all_eq_true→Xac,append_of_mem→Xec,mem_append→Xm,range→Xda,mem_filter→Xau,mem_range→Xee,filter_cons→Xbh,mem_map→Xw,eq_nil_of_length_eq_zero→Xaa,eq_nil_iff_forall_not_mem→Xex,nodup_nil→Xdf,mem_of_getElem?→Xaw,nodup_cons→Xai,nil_append→Xby,cons_append→Xbd,length_filter_le→Xen,length_range→Xfi,mem_append_left→Xk,mem_append_right→Xg,mem_flatMap→Xft,map_cons→Xak,map_map→Xeb,map_congr_left→Xdz,append_nil→Xcw,nodup_append→Xaj,filter_append→Xcq,prefix_append→Xgl,map_append→Xu,map_nil→Xbp,mem_erase_of_ne→Xgg,length_erase_of_mem→Xfp,length_pos_of_mem→Xfy,length_cons→Xs,getElem?_cons_succ→Xef,getElem?_eq_some_iff→Xad,getElem?_append_right→Xce,getElem?_tail→Xcb,mapM_cons→Xfb,pairwise_singleton→Xbc,mem_singleton→Xaf,take_of_length_le→Xdl,getElem?_eq_getElem→Xq,drop_zero→Xch,tail_cons→Xed,getElem?_map→Xan,length→Xa,sum_cons→Xct
open Nat renaming sub_self→Xcv,blt_eq→Xgy,le_refl→Xn,zero_add→Xbb,zero_le→Xbk,sub_zero→Xdj,beq→Xbo,le_trans→Xco,add_zero→Xax,add_sub_cancel_left→Xcc,le_of_ble_eq_true→Xgb,add_mul→Xcs,zero_mul→Xeu
open Option renaming getD_some→Xel,bind_some→Xd,bind_eq_some_iff→Xbs,map_eq_some_iff→Xv
open Bool renaming and_eq_true→Xi,not_eq_true'→Xaq,false_eq_true→Xbg,or_eq_true→Xbw
open Array renaming getD_eq_getD_getElem?→Xcm,getElem?_setIfInBounds→Xfa,getElem?_eq_getElem→Xdc,getElem?_eq_some_iff→Xcx,replicate→Xea
namespace Go.Sx
set_option linter.unusedVariables false
set_option linter.unusedSimpArgs false
theorem WoP{x y:Nat}{l:List Nat}:y∈Ww4 x l↔y=x\/y∈l:=by
 unfold Ww4;cases h:Wcz x l with
 |true=>
  have:=(Wa1 x l).1 h;simp only[Wc];exact⟨.inr,λh=>h.elim (λe=>e▸this) id⟩
 |false=>simp
theorem Wj3{y:Nat}:∀(m l:List Nat),y∈WmA m l↔y∈m\/y∈l
 | [],l=>by simp[WmA]
 |x::m,l=>by
  rw[WmA,Wj3 m,WoP,Xr];constructor
  .rintro(h|h|h)
   .exact .inl (.inr h)
   .exact .inl (.inl h)
   .exact .inr h
  .rintro((h|h)|h)
   .exact .inr (.inl h)
   .exact .inl h
   .exact .inr (.inr h)
theorem WiF{acc:List (List Nat)}{y:Nat}:∀(ds l:List Nat),y∈Wlu acc ds l↔(∃j∈ds,y=j\/y∈acc.getD j [])\/y∈l
 | [],l=>by simp[Wlu]
 |j::ds,l=>by
  rw[Wlu,WiF ds,Wj3,WoP];constructor
  .rintro(⟨k,hk,h⟩|h|h|h)
   .exact .inl ⟨k,Xe _ hk,h⟩
   .exact .inl ⟨j,Xh ..,.inr h⟩
   .exact .inl ⟨j,Xh ..,.inl h⟩
   .exact .inr h
  .rintro(⟨k,hk,h⟩|h)
   .rcases Xr.1 hk with rfl|hk
    .exact .inr (h.elim (λh=>.inr (.inl h)) .inl)
    .exact .inl ⟨k,hk,h⟩
   .exact .inr (.inr (.inr h))
def Wm5(ops:Array Oper)(S:Nat->Prop):Prop:=∀i o,ops[i]?=some o->S i->∀d∈WnB o,S d
theorem Wka{ops:Array Oper}{S:Nat->Prop}(hS:Wm5 ops S):∀(l:List Oper) (acc:List (List Nat)),(∀(k:Nat) (o:Oper),l[k]?=some o->ops[acc.length+k]?=some o)->
  (∀i,S i->∀j∈acc.getD i [],S j)->∀i,S i->∀j∈(WeR l acc).getD i [],S j
 | [],acc,_,h=>h
 |o::l,acc,hl,h=>by
  refine Wka hS l _ (λk o' hk=>?_) (λi hi j hj=>?_)
  .have:=hl (k+1) o' (by simpa using hk);rw[Xz];have e:acc.length+(k+1)=acc.length+ [Wlu acc (WnB o) []].length+k:=by simp;omega
   rw[←e];exact this
  .rw[Xag,Xav]at hj;split at hj
   .exact h i hi j (by rw[Xag];exact hj)
   .rename_i hlt;by_cases he:i=acc.length
    .subst he;simp only[Xcv,Xdk,Xel]at hj;rcases(WiF _ _).1 hj with⟨k,hk,dU⟩|hj
     .have hSk:=hS _ o (hl 0 o (by simp)) hi k hk;rcases dU with rfl|dU
      .exact hSk
      .exact h k hSk j dU
     .cases hj
    .have:[Wlu acc (WnB o) []][i-acc.length]?=none:=Xcr (by simp;omega);rw[this]at hj;cases hj
theorem WqM{ops:Array Oper}{S:Nat->Prop}(hS:Wm5 ops S){i j:Nat}(h:Wdh (WeR ops.toList []) j i=true)(hi:S i):S j:=
 Wka hS ops.toList [] (λk o hk=>by simpa using hk) (λi _ j hj=>by simp at hj) i hi j ((Wa1 _ _).1 h)
theorem Wki{ops:Array Oper}:∀(l:List Oper) (n:Nat),Wtu l n=true->∀(k:Nat) (o:Oper),l[k]?=some o->∀d∈WnB o,d<n+k
 | [],_,_,k,o,hk=>by simp at hk
 |o'::l,n,h,k,o,hk=>by
  simp only[Wtu,Xi,Xac]at h;cases k with
  |zero=>
   simp at hk;subst hk;intro e he;have:=h.1 e he;rw[Xgy]at this;omega
  |succ k=>
   have:=Wki (ops:=ops) l (n+1) h.2 k o (by simpa using hk);intro e he;have:=this e he;omega
structure Order(ops:Array Oper)(l:List Nat):Prop where
 nodup:l.Nodup
 all:∀i,i<ops.size↔i∈l
 dep:∀p i s,l=p++i::s->∀o,ops[i]?=some o->∀d∈WnB o,d∈p
theorem Order.closed{ops:Array Oper}{l:List Nat}(h:Order ops l){p s:List Nat}(e:l=p++s):Wm5 ops (· ∈p):=λi o ho hi d hd=>by
 obtain⟨a,b,rfl⟩:=Xec hi;have:=h.dep a i (b++s) (by rw[e];simp) o ho d hd;simp[this]
theorem Order.bef{ops:Array Oper}{l:List Nat}(h:Order ops l){p s:List Nat}{i j:Nat}(e:l=p++s)(hb:Wdh (WeR ops.toList []) j i=true)(hi:i∈p):j∈p:=
 WqM (h.closed e) hb hi
theorem Order.bef'{ops:Array Oper}{l:List Nat}(h:Order ops l){p s:List Nat}{i j:Nat}(e:l=p++i::s)(hb:Wdh (WeR ops.toList []) j i=true)(hne:j≠i):j∈p:=by
 have:=h.bef (p:=p++ [i]) (s:=s) (by rw[e];simp) hb (by simp);rcases Xm.1 this with h|h
 .exact h
 .simp at h;exact Wg h hne
def unl(ops:Array Oper)(listed:Array Bool):List Nat:=(Xda ops.size).filter λi=>!listed.getD i true
theorem WfZ{ops:Array Oper}{listed:Array Bool}{i:Nat}:i∈unl ops listed↔i<ops.size/\listed.getD i true=false:=by
 unfold unl;rw[Xau,Xee];simp
theorem WgL{α:Type}{p q:α->Bool}:∀(l:List α),(∀x∈l,q x=true->p x=true)->(∃x∈l,p x=true/\q x=false)->(l.filter q).length<(l.filter p).length
 | [],_,⟨x,hx,_⟩=>by cases hx
 |x::l,h,⟨y,hy,hp,hq⟩=>by
  have hle:∀(l:List α),(∀x∈l,q x=true->p x=true)->(l.filter q).length<=(l.filter p).length:=by
   intro l
   induction l with
   |nil=>intro _;simp
   |cons x l ih=>
    intro h;have:=ih λx hx=>h x (Xe _ hx);have hx:=h x (Xh ..);rw[Xbh,Xbh];cases hqx:q x with
    |true=>rw[hx hqx];simpa using this
    |false=>cases p x<;>simp<;>omega
  rw[Xbh,Xbh];rcases Xr.1 hy with rfl|hy
  .rw[hp,hq];have:=hle l λx hx=>h x (Xe _ hx);simp;omega
  .have:=WgL l (λx hx=>h x (Xe _ hx)) ⟨y,hy,hp,hq⟩;have hx:=h x (Xh ..);cases hqx:q x with
   |true=>rw[hx hqx];simpa using this
   |false=>cases p x<;>simp<;>omega
theorem Wk5{listed:Array Bool}{i j:Nat}:(listed.setIfInBounds i true).getD j true=(if i=j then true else listed.getD j true):=by
 simp only[Xcm,Xfa];split
 .split<;>rfl
 .rfl
theorem Wsm{listed:Array Bool}{i j:Nat}(hi:i<listed.size):(listed.setIfInBounds i true).getD j false=(if i=j then true else listed.getD j false):=by
 simp only[Xcm,Xfa];split
 .simp[hi]
 .rfl
theorem WvI{listed:Array Bool}{i:Nat}(hi:i<listed.size):listed.getD i true=listed.getD i false:=by
 simp[hi]
theorem WpK{o:Oper}{e:Edge}(he:e∈o.after)(hb:Region.binds .any e=true):e.on∈WnB o:=
 Xw.2 ⟨e,Xau.2 ⟨by simpa using he,hb⟩,rfl⟩
theorem Wpq{ops:Array Oper}(hb:∀(k:Nat) (o:Oper),ops[k]?=some o->∀d∈WnB o,d<k):∀(fuel t:Nat) (listed:Array Bool),listed.size=ops.size->(unl ops listed).length<=fuel->
  (Region.linearise.go .any ops fuel t listed []).Nodup/\
  (∀i,i∈Region.linearise.go .any ops fuel t listed []↔i∈unl ops listed)/\
  (∀p i s,Region.linearise.go .any ops fuel t listed []=p++i::s->∀o,ops[i]?=some o->∀e∈o.after,Region.binds .any e=true->listed.getD e.on false=true\/e.on∈p)
 |0,t,listed,hs,hlen=>by
  have:unl ops listed= []:=Xaa (by omega);simp only[Region.linearise.go,List.reverse_nil,this];exact⟨by simp,by simp,λp i s h=>by simp at h⟩
 |fuel+1,t,listed,hs,hlen=>by
  have oo:Region.linearise.go .any ops (fuel+1) t listed []=match(Region.ready .any ops listed)[t%(Region.ready .any ops listed).length]? with
   |some i=>Region.linearise.go .any ops fuel (t/(Region.ready .any ops listed).length) (listed.setIfInBounds i true) [i]
   |none=>[]:=rfl
  rw[oo];cases hi:(Region.ready .any ops listed)[t%(Region.ready .any ops listed).length]? with
  |none=>
   have bH:Region.ready .any ops listed= []:=by
    cases hr:Region.ready .any ops listed with
    |nil=>rfl
    |cons x xs=>
     rw[hr]at hi;have hlt:t%(x::xs).length<(x::xs).length:=Nat.mod_lt _ (by simp);simp at hi;simp at hlt;omega
   have hu:unl ops listed= []:=by
    have key:∀n i,i<=n->i∉unl ops listed:=by
     intro n
     induction n with
     |zero=>
      intro i im hm;obtain⟨h1,h2⟩:=WfZ.1 hm;have:i∈Region.ready .any ops listed:=by
       rw[mem_ready];refine⟨h2,ops[i],Xdc h1,λe he mg=>?_⟩;have:=hb i _ (Xdc h1) e.on (WpK he mg);omega
      rw[bH]at this;cases this
     |succ n ih=>
      intro i im hm;obtain⟨h1,h2⟩:=WfZ.1 hm;have:i∈Region.ready .any ops listed:=by
       rw[mem_ready];refine⟨h2,ops[i],Xdc h1,λe he mg=>?_⟩;have hlt:=hb i _ (Xdc h1) e.on (WpK he mg);have bQ:=ih e.on (by omega);have h3:e.on<ops.size:=by omega
       cases h4:listed.getD e.on true with
       |false=>exact Wg (WfZ.2 ⟨h3,h4⟩) bQ
       |true=>rw[←WvI (by omega)];exact h4
      rw[bH]at this;cases this
    exact Xex.2 λi=>key i i (Xn _)
   rw[hu];exact⟨Xdf,λ_=>Iff.rfl,λp i s h=>by simp at h⟩
  |some i=>
   have zC:=Xaw hi;obtain⟨h1,o,ho,h3⟩:=mem_ready.1 zC;have sc:i<ops.size:=(Xcx.1 ho).1;have zD:i∈unl ops listed:=WfZ.2 ⟨sc,h1⟩;simp only[];rw[linearise_go_acc,List.reverse_singleton,List.singleton_append];have dM:(unl ops (listed.setIfInBounds i true)).length<=fuel:=by
    have:(unl ops (listed.setIfInBounds i true)).length<(unl ops listed).length:=by
     refine WgL _ (λx _ hx=>?_) ⟨i,Xee.2 sc,by simpa using h1,by rw[Wk5];simp⟩;rw[Wk5]at hx;split at hx
     .simp at hx
     .exact hx
    omega
   obtain⟨g1,g2,g3⟩:=Wpq hb fuel (t/(Region.ready .any ops listed).length) (listed.setIfInBounds i true) (by simp[hs]) dM;have hmem:∀j,j∈unl ops (listed.setIfInBounds i true)↔j∈unl ops listed/\j≠i:=λj=>by
    rw[WfZ,WfZ,Wk5];constructor
    .rintro⟨q1,q2⟩;split at q2
     .cases q2
     .rename_i hne;exact⟨⟨q1,q2⟩,λe=>hne e.symm⟩
    .rintro⟨⟨q1,q2⟩,hne⟩;exact⟨q1,by rw[Wa (λe=>hne e.symm)];exact q2⟩
   refine⟨Xai.2 ⟨λhm=>?_,g1⟩,λj=>?_,λp j s e o' jo ed qP mg=>?_⟩
   .exact((hmem i).1 ((g2 i).1 hm)).2 rfl
   .rw[Xr,g2,hmem];constructor
    .rintro(rfl|h)
     .exact zD
     .exact h.1
    .intro h;by_cases he:j=i
     .exact .inl he
     .exact .inr ⟨h,he⟩
   .cases p with
    |nil=>
     simp only[Xby,List.cons.injEq]at e;obtain⟨rfl,_⟩:=e;rw[ho]at jo;injection jo with jo;subst jo;exact .inl (h3 ed qP mg)
    |cons x p=>
     simp only[Xbd,List.cons.injEq]at e;obtain⟨rfl,e⟩:=e;rcases g3 p j s e o' jo ed qP mg with h|h
     .rw[Wsm (by omega)]at h;split at h
      .rename_i he;exact .inr (by rw[he];simp)
      .exact .inl h
     .exact .inr (Xe _ h)
theorem WiQ{ops:Array Oper}{t:Nat}(hb:∀(k:Nat) (o:Oper),ops[k]?=some o->∀d∈WnB o,d<k):Order ops (Region.linearise .any ops t):=by
 have hu:∀i,i∈unl ops (Xea ops.size false)↔i<ops.size:=λi=>by
  rw[WfZ];constructor
  .exactλh=>h.1
  .exactλh=>⟨h,by simp[h]⟩
 obtain⟨h1,h2,h3⟩:=Wpq hb ops.size t (Xea ops.size false) (by simp) (by
  have:=Xen (λi=>!(Xea ops.size false).getD i true) (Xda ops.size);rw[Xfi]at this;exact this)
 refine⟨h1,λi=>by unfold Region.linearise;rw[h2,hu],λp i s e o ho d hd=>?_⟩;unfold WnB at hd;obtain⟨ed,qP,rfl⟩:=Xw.1 hd;obtain⟨qP,mg⟩:=Xau.1 qP;rcases h3 p i s e o ho ed (by simpa using qP) mg with h|h
 .exfalso;rw[Xcm,Array.getElem?_replicate]at h;split at h<;>simp at h
 .exact h
theorem Wju{ops:Array Oper}{t:Nat}(hb:∀(k:Nat) (o:Oper),ops[k]?=some o->∀d∈WnB o,d<k):Order ops (Region.schedule true ops t):=by
 unfold Region.schedule;rw[Wb (by simp)];exact WiQ hb
end Go.Sx
namespace Go.Sx
set_option linter.unusedVariables false
set_option linter.unusedSimpArgs false
def Wsz(n:Nat)(kept:List Nat)(o:Oper):Bool:=match o.dst with
 |some d=>Nat.blt d n&& !Wcz d kept
 |none=>true
def Wdx(n:Nat)(kept:List Nat):Code->Bool
 | .region _ ops _=>ops.toList.all (Wsz n kept)
 | .seq a b=>Wdx n kept a&&Wdx n kept b
 | .cond _ x y=>Wdx n kept x&&Wdx n kept y
 | .block _ c=>Wdx n kept c
 | .loop c=>Wdx n kept c
 |_=>true
theorem WoF{nt:Slots}{n:Nat}{kept:List Nat}(hn:nt.n=n)(hk:∀p∈nt.kept,p.1∈kept){o:Oper}(h:Wsz n kept o=true):∀d,o.dst=some d->nt.Ok d:=λd hd=>by
 unfold Wsz at h;rw[hd]at h;simp only[Xi,Xaq]at h;refine⟨by have h1:=h.1;rw[Xgy]at h1;rw[hn];exact h1,λp hp e=>?_⟩;have:=hk p hp;rw[e]at this;rw[(Wa1 d kept).2 this]at h;exact Wg h.2 (by simp)
def Ex.to:Ex->Exit
 | .normal=>.normal
 | .exit id=>.exit id
 | .ret=>.ret
section
variable{w0:World}{F:CS}{nt:Slots}{G0:GH}{P:Program}{T:Tab}{Γ:Ctx}{A:List (Nat×An)}{R:Type}{r:R}
def WrF(w0:World)(F:CS)(nt:Slots)(G0:GH)(k:St->Option R)(r:R)(K:Act->World->Prop):Prop:=
 ∀st a w G ν,Rel w0 F nt G0 G ν st a w->k st=some r->K a w
theorem WoH{G:GH}{ν:Nat->Nu}{st:St}{a:Act}{w:World}(hr:Rel w0 F nt G0 G ν st a w){ops:Array Oper}{j:Nat}{t:Tmp}(ht:(ops[j]?).bind (·.dst)=some t){b:Bool}(hb:(look st.env t).bind asB=some b):
  a.tmps[t]?=some (.bool b)/\yielded ops a.tmps j=some b:=by
 cases hl:look st.env t with
 |none=>simp[hl]at hb
 |some x=>
  simp only[hl,Xd]at hb;obtain⟨v,hv,hx⟩:=hr.env t x hl;have:=WnP x v b hx hb;subst this;refine⟨hv,?_⟩;unfold yielded;rw[ht];simp[hv]
theorem WuQ(hT:Wao P T)(hΓ:Wft P Γ){ops:Array Oper}{o:Oper}(hd:∀d,o.dst=some d->nt.Ok d){k:St->Option R}{K:Act->World->Prop}{Q:Exit->Act->World->Prop}(hK:WrF w0 F nt G0 k r K)
  {st:St} {a:Act} {w:World} {G:GH} {ν:Nat->Nu} (hr:Rel w0 F nt G0 G ν st a w) (h:rxg T Γ A ops o st k=some r):
  if Region.wanted o (yielded ops a.tmps)then o.wp P a w K Q else K (a.put o.dst undef) w:=by
 unfold rxg at h;have io:∀af,Rel w0 F nt G0 G ν af a w->Rel w0 F nt G0 G ν (af.put o.dst (.tup [])) (a.put o.dst undef) w:=λaf bL=>
  bL.put hd ⟨[],rfl,rfl,λj x v hj=>by simp at hj⟩
 have dS:∀b:Bool,AValRel G ν st.nx (one .bool b) (.bool b):=λb=>WQ (t:=.bool) (d:=b) (v:=.bool b) rfl;split at h
 .rename_i hg;simp only[Region.wanted,hg,Wav];exact Wrs hT hΓ hr hd h (λaf a' w' G' ν' bL hk=>hK _ _ _ _ _ bL hk)
 .rename_i j want hg;split at h
  .rename_i t ht;split at h
   .rename_i hl;obtain⟨v,hv,hx⟩:=hr.env t _ hl;have gS:v=undef:=by
     obtain⟨vs,h1,h2,_⟩:=hx;rw[h1,Xaa h2];rfl
    subst gS;have hy:yielded ops a.tmps j=none:=by
     unfold yielded;rw[ht];simp only[Xd,hv];rfl
    simp only[Region.wanted,hg,hy];rw[Wa (by simp)];exact hK _ _ _ _ _ (io _ hr) h
   .rename_i x _ hl;split at h
    .rename_i b hb;obtain⟨hv,hy⟩:=WoH hr ht (b:=b) (by rw[hl];exact hb);simp only[Region.wanted,hg,hy];have nj:=hr.rebind hv (dS b);cases b with
     |true=>
      simp only[Wc]at h;cases want with
      |true=>
       simp only[Wav]at h;simp only[beq_self_eq_true,Wav];exact Wrs hT hΓ nj hd h (λaf a' w' G' ν' bL hk=>hK _ _ _ _ _ bL hk)
      |false=>
       simp only[Xbg,Waw]at h;rw[Wa (by simp)];exact hK _ _ _ _ _ (io _ nj) h
     |false=>
      simp only[We]at h;cases want with
      |true=>
       simp only[Wav]at h;rw[Wa (by simp)];exact hK _ _ _ _ _ (io _ nj) h
      |false=>
       simp only[Xbg,Waw]at h;simp only[beq_self_eq_true,Wav];exact Wrs hT hΓ nj hd h (λaf a' w' G' ν' bL hk=>hK _ _ _ _ _ bL hk)
    .cases h
   .cases h
  .cases h
theorem WuO(hT:Wao P T)(hΓ:Wft P Γ){ops:Array Oper}:∀(l:List Oper),(∀o∈l,∀d,o.dst=some d->nt.Ok d)->∀{k:St->Option R} {Q:Exit->Act->World->Prop},WrF w0 F nt G0 k r (Q .normal)->
  WrF w0 F nt G0 (λst=>rxs T Γ A ops l st k) r (wpList P ops Q l)
 | [],_,k,Q,hK=>λst a w G ν hr h=>hK st a w G ν hr h
 |o::l,hd,k,Q,hK=>λst a w G ν hr h=>by
  have ih:=WuO (ops:=ops) hT hΓ l (λo ho=>hd o (Xe _ ho)) hK;have h:rxg T Γ A ops o st (λaf=>match opG A o af with
   |some (c,ci)=>bif c then rxs T Γ A ops l ci k else none
   |none=>none)=some r:=h
  have zF:WrF w0 F nt G0 (λaf=>match opG A o af with
   |some (c,ci)=>bif c then rxs T Γ A ops l ci k else none
   |none=>none) r (wpList P ops Q l):=λdw a1 w1 G1 ν1 kG h1=>by
   have h1:(match opG A o dw with
    |some (c,ci)=>bif c then rxs T Γ A ops l ci k else none
    |none=>none)=some r:=h1
   split at h1
   .rename_i c aj hg;obtain⟨rfl,h1⟩:=WaY h1;have:∃G' ν',Rel w0 F nt G0 G' ν' aj a1 w1:=by
     unfold opG at hg;split at hg
     .split at hg
      .injection hg with hg;injection hg with _ hg;subst hg;exact⟨G1,ν1,kG⟩
      .exact Wl2 kG hg
     .injection hg with hg;injection hg with _ hg;subst hg;exact⟨G1,ν1,kG⟩
     .injection hg with hg;injection hg with _ hg;subst hg;exact⟨G1,ν1,kG⟩
     .injection hg with hg;injection hg with _ hg;subst hg;exact⟨G1,ν1,kG⟩
     .injection hg with hg;injection hg with _ hg;subst hg;exact⟨G1,ν1,kG⟩
    obtain⟨G2,ν2,ip⟩:=this;exact ih aj a1 w1 G2 ν2 ip h1
   .cases h1
  have:=WuQ hT hΓ (hd o (Xh ..)) (Q:=Q) zF hr h;unfold wpList;split
  .rename_i hw;rw[Wb hw]at this;exact .inl this
  .rename_i hw;rw[Wa hw]at this;exact this
end
end Go.Sx
namespace Go.Sx
set_option linter.unusedVariables false
set_option linter.unusedSimpArgs false
section
variable{T:Tab}{Γ:Ctx}{A:List (Nat×An)}{ops:Array Oper}
theorem WlN{R:Type}(o:Oper)(st:St)(k:St->Option R):rx1 T Γ A o st k=(rx1 T Γ A o st some).bind k:=by
 unfold rx1;rw[WgB,WgB o st (λx objs nx=>some _),Option.bind_assoc];rfl
theorem WtE{R:Type}(o:Oper)(st:St)(k:St->Option R):rxg T Γ A ops o st k=(rxg T Γ A ops o st some).bind k:=by
 unfold rxg;cases o.guard with
 |none=>exact WlN o st k
 |some g=>
  obtain⟨j,want⟩:=g;simp only;cases(ops[j]?).bind (·.dst)with
  |none=>rfl
  |some t=>
   simp only;cases look st.env t with
   |none=>rfl
   |some x=>
    have main:(match asB x with
      |some b=>bif b
       then(if want then rx1 T Γ A o (st.put (some t) (one .bool true)) k else k ((st.put (some t) (one .bool true)).put o.dst (.tup [])))
       else(if want then k ((st.put (some t) (one .bool false)).put o.dst (.tup []))else rx1 T Γ A o (st.put (some t) (one .bool false)) k)
      |none=>none)=(match asB x with
      |some b=>bif b
       then(if want then rx1 T Γ A o (st.put (some t) (one .bool true)) some else some ((st.put (some t) (one .bool true)).put o.dst (.tup [])))
       else(if want then some ((st.put (some t) (one .bool false)).put o.dst (.tup []))else rx1 T Γ A o (st.put (some t) (one .bool false)) some)
      |none=>none).bind k:=by
     cases asB x with
     |none=>rfl
     |some b=>
      cases b<;>cases want
      .exact WlN _ _ _
      .rfl
      .rfl
      .exact WlN _ _ _
    cases x with
    |s y=>exact main
    |tup l=>
     cases l with
     |nil=>rfl
     |cons y l=>exact main
theorem WpI{R:Type}{o:Oper}{st:St}{k:St->Option R}{r:R}(h:rxg T Γ A ops o st k=some r):∃af,rxg T Γ A ops o st some=some af/\k af=some r:=by
 rw[WtE]at h;exact Xbs.1 h
structure Eff(o:Oper)(v:AVal)(pre:Waj)(ai:Nat)(st af:St):Prop where
 env:∀t,look af.env t=if o.dst=some t then some v else look st.env t
 objs:af.objs=pre++st.objs
 nx:af.nx=ai
theorem Wdl(st:St)(dst:Option Tmp)(x:AVal)(t:Nat):look (st.put dst x).env t=if dst=some t then some x else look st.env t:=by
 cases dst with
 |none=>simp[St.put]
 |some d=>
  simp only[St.put];rw[WH];by_cases h:d=t
  .subst h;simp
  .rw[Wa h,Wa (by simpa using h)]
theorem Wfm{st aj:St}{x:Operand}(h:∀t∈Wq8 x,look aj.env t=look st.env t):ev aj x=ev st x:=by
 cases x with
 |tmp t=>exact h t (by simp[Wq8])
 |_=>rfl
theorem WgU{st:St}{x:Operand}{v:AVal}:∀(l:List Operand),x∈l->ev st x=some v->∀id∈Wbb v,id∈WeM st l
 | [],h,_,_,_=>by cases h
 |y::l,h,hv,id,bz=>by
  simp only[WeM];rcases Xr.1 h with rfl|h
  .rw[hv];exact Xk _ bz
  .split
   .exact Xg _ (WgU l h hv id bz)
   .exact WgU l h hv id bz
theorem Wgo{st aj:St}:∀(l:List Operand),(∀x∈l,ev aj x=ev st x)->WeM aj l=WeM st l
 | [],_=>rfl
 |x::l,h=>by simp only[WeM,h x (Xh ..),Wgo l λy hy=>h y (Xe _ hy)]
theorem Wtb{o:Oper}{st af aj:St}(h:rx1 T Γ A o st some=some af)(he:∀x∈Wag o.op,ev aj x=ev st x)
  (hm:Wa5 o=true->aj.objs=st.objs/\aj.nx=st.nx) (hf:Wa5 o=false->∀id∈Wda o st,look aj.objs id=look st.objs id):
  ∃v pre ai,Eff o v pre ai st af/\(Wa5 o=false->pre= []/\ai=st.nx)/\
   ∃bI,rx1 T Γ A o aj some=some bI/\(Wa5 o=true->Eff o v pre ai aj bI)/\(Wa5 o=false->Eff o v [] aj.nx aj bI):=by
 unfold rx1 at*;rw[WgB]at h;obtain⟨⟨v,objs',ai⟩,h1,h2⟩:=Xbs.1 h;injection h2 with h2;subst h2;cases dN:Wa5 o with
 |true=>
  obtain⟨e1,e2⟩:=hm dN;obtain⟨pre,rfl⟩:=WqO o st v objs' ai h1;refine⟨v,pre,ai,⟨λt=>Wdl _ _ _ _,by cases o.dst<;>rfl,by cases o.dst<;>rfl⟩,by simp,?_⟩;have h3:rxe T Γ A o aj Wdc=some (v,pre++st.objs,ai):=by
   obtain⟨vx,xD,nx2⟩:=aj;simp only at e1 e2;subst e1 e2;rw[WrI o (env:=vx) (st:=st) Wdc he];exact h1
  refine⟨_,?_,λ_=>⟨λt=>Wdl (⟨aj.env,pre++st.objs,ai⟩) o.dst v t,?_,?_⟩,by simp⟩
  .rw[WgB,h3];rfl
  .rw[e1];cases o.dst<;>rfl
  .cases o.dst<;>rfl
 |false=>
  rw[Wmg dN]at h1;obtain⟨u,h3,h4⟩:=Xbs.1 h1;injection h4 with h4;have e1:u=v:=Wl (λp:Out=>p.1) h4;have e2:st.objs=objs':=Wl (λp:Out=>p.2.1) h4;have e3:st.nx=ai:=Wl (λp:Out=>p.2.2) h4;subst e1 e2 e3;refine⟨u,[],st.nx,⟨λt=>Wdl _ _ _ _,by cases o.dst<;>rfl,by cases o.dst<;>rfl⟩,by simp,?_⟩;have h5:Wu1 T o aj=some u:=by
   rw[←h3];refine Wp6 dN he λvy x hx v hv id bz=>hf dN id ?_;unfold Wda;rw[vy];exact WgU _ hx hv id bz
  refine⟨_,?_,by simp,λ_=>⟨λt=>Wdl (⟨aj.env,aj.objs,aj.nx⟩) o.dst u t,?_,?_⟩⟩
  .rw[WgB,Wmg dN,h5];rfl
  .cases o.dst<;>rfl
  .cases o.dst<;>rfl
theorem Wvp{x:AVal}{b:Bool}(h:asB x=some b):x=one .bool b:=by
 unfold asB at h;split at h
 .injection h with h;subst h;rfl
 .cases h
theorem WdY{st:St}{t:Nat}{x:AVal}(h:look st.env t=some x)(t':Nat):look (st.put (some t) x).env t'=look st.env t':=by
 rw[Wdl];split
 .rename_i e;injection e with e;subst e;exact h.symm
 .rfl
theorem Wd7(st:St)(d:Option Tmp)(x:AVal):(st.put d x).objs=st.objs:=by cases d<;>rfl
theorem Wi7(st:St)(d:Option Tmp)(x:AVal):(st.put d x).nx=st.nx:=by cases d<;>rfl
theorem Wgu{o:Oper}{st aj:St}(h:∀x∈Wag o.op,ev aj x=ev st x):Wda o aj=Wda o st:=by
 unfold Wda;rw[Wgo _ h]
theorem Wra{o:Oper}{st af aj:St}(h:rxg T Γ A ops o st some=some af)(he:∀t∈Wds ops o,look aj.env t=look st.env t)
  (hm:Wa5 o=true->aj.objs=st.objs/\aj.nx=st.nx) (hf:Wa5 o=false->∀id∈Wda o st,look aj.objs id=look st.objs id):
  ∃v pre ai,Eff o v pre ai st af/\(Wa5 o=false->pre= []/\ai=st.nx)/\
   ∃bI,rxg T Γ A ops o aj some=some bI/\(Wa5 o=true->Eff o v pre ai aj bI)/\(Wa5 o=false->Eff o v [] aj.nx aj bI):=by
 have xE:∀x∈Wag o.op,ev aj x=ev st x:=λx hx=>Wfm λt ht=>he t (by
  unfold Wds;exact Xk _ (Xft.2 ⟨x,hx,ht⟩))
 unfold rxg at h⊢;cases hg:o.guard with
 |none=>
  rw[hg]at h;exact Wtb h xE hm hf
 |some g=>
  obtain⟨j,want⟩:=g;rw[hg]at h;simp only at h⊢;cases ht:(ops[j]?).bind (·.dst)with
  |none=>rw[ht]at h;cases h
  |some t=>
   rw[ht]at h;simp only at h⊢;have iY:look aj.env t=look st.env t:=he t (by
    unfold Wds;refine Xg _ ?_;rw[hg];simp only;rw[ht];simp)
   rw[iY];cases hx:look st.env t with
   |none=>rw[hx]at h;cases h
   |some x=>
    rw[hx]at h;have skip:∀(s s2:St) (s':St),some (s.put o.dst (.tup []))=some s'->(∀t,look s.env t=look st.env t)->s.objs=st.objs->s.nx=st.nx->(∀t,look s2.env t=look aj.env t)->s2.objs=aj.objs->s2.nx=aj.nx->
      ∃v pre ai,Eff o v pre ai st s'/\(Wa5 o=false->pre= []/\ai=st.nx)/\
       ∃bI,some (s2.put o.dst (.tup []))=some bI/\(Wa5 o=true->Eff o v pre ai aj bI)/\(Wa5 o=false->Eff o v [] aj.nx aj bI):=by
     intro s s2 s' hs a1 a2 a3 b1 b2 b3;injection hs with hs;subst hs;refine⟨.tup [],[],st.nx,⟨λt=>?_,by rw[Wd7,a2];rfl,by rw[Wi7,a3]⟩,λ_=>⟨rfl,rfl⟩,_,rfl,λdN=>⟨λt=>?_,by rw[Wd7,b2];rfl,by rw[Wi7,b3];exact(hm dN).2⟩,λ_=>⟨λt=>?_,by rw[Wd7,b2];rfl,by rw[Wi7,b3]⟩⟩
     .rw[Wdl,a1]
     .rw[Wdl,b1]
     .rw[Wdl,b1]
    have doit:∀b:Bool,x=one .bool b->rx1 T Γ A o (st.put (some t) (one .bool b)) some=some af->
      ∃v pre ai,Eff o v pre ai st af/\(Wa5 o=false->pre= []/\ai=st.nx)/\
       ∃bI,rx1 T Γ A o (aj.put (some t) (one .bool b)) some=some bI/\(Wa5 o=true->Eff o v pre ai aj bI)/\(Wa5 o=false->Eff o v [] aj.nx aj bI):=by
     intro b hb h1;subst hb;have l1:=WdY hx;have l2:=WdY (st:=aj) (t:=t) (x:=one .bool b) (by rw[iY];exact hx);have se:∀x∈Wag o.op,ev (st.put (some t) (one .bool b)) x=ev st x:=λx hx=>Wfm λt' _=>l1 t';have vz:∀x∈Wag o.op,ev (aj.put (some t) (one .bool b)) x=ev aj x:=λx hx=>Wfm λt' _=>l2 t';obtain⟨v,pre,ai,e1,e2,bI,e3,e4,e5⟩:=Wtb (aj:=aj.put (some t) (one .bool b)) h1 (λx hx=>by rw[vz x hx,se x hx,xE x hx])
      (λdN=>hm dN) (λfe id bz=>hf fe id (by rw[←Wgu se];exact bz))
     refine⟨v,pre,ai,⟨λt'=>by rw[e1.env,l1],e1.objs,e1.nx⟩,e2,bI,e3,λdN=>⟨λt'=>by rw[(e4 dN).env,l2],(e4 dN).objs,(e4 dN).nx⟩,λdN=>⟨λt'=>by rw[(e5 dN).env,l2],(e5 dN).objs,(e5 dN).nx⟩⟩
    have main:(match asB x with
      |some b=>bif b
       then(if want then rx1 T Γ A o (st.put (some t) (one .bool true)) some else some ((st.put (some t) (one .bool true)).put o.dst (.tup [])))
       else(if want then some ((st.put (some t) (one .bool false)).put o.dst (.tup []))else rx1 T Γ A o (st.put (some t) (one .bool false)) some)
      |none=>none)=some af->∃v pre ai,Eff o v pre ai st af/\(Wa5 o=false->pre= []/\ai=st.nx)/\
       ∃bI,(match asB x with
      |some b=>bif b
       then(if want then rx1 T Γ A o (aj.put (some t) (one .bool true)) some else some ((aj.put (some t) (one .bool true)).put o.dst (.tup [])))
       else(if want then some ((aj.put (some t) (one .bool false)).put o.dst (.tup []))else rx1 T Γ A o (aj.put (some t) (one .bool false)) some)
      |none=>none)=some bI/\(Wa5 o=true->Eff o v pre ai aj bI)/\(Wa5 o=false->Eff o v [] aj.nx aj bI):=by
     intro h;cases hb:asB x with
     |none=>rw[hb]at h;cases h
     |some b=>
      rw[hb]at h;have dS:=Wvp hb;have r1:∀b',b'=b->∀t',look (st.put (some t) (one .bool b')).env t'=look st.env t':=λb' e=>by subst e;exact WdY (by rw[hx,dS])
      have r2:∀b',b'=b->∀t',look (aj.put (some t) (one .bool b')).env t'=look aj.env t':=λb' e=>by subst e;exact WdY (by rw[iY,hx,dS])
      cases b<;>cases want
      .exact doit false dS h
      .exact skip _ _ _ h (r1 _ rfl) (Wd7 _ _ _) (Wi7 _ _ _) (r2 _ rfl) (Wd7 _ _ _) (Wi7 _ _ _)
      .exact skip _ _ _ h (r1 _ rfl) (Wd7 _ _ _) (Wi7 _ _ _) (r2 _ rfl) (Wd7 _ _ _) (Wi7 _ _ _)
      .exact doit true dS h
    cases x with
    |s y=>exact main h
    |tup l=>
     cases l with
     |nil=>exact skip st aj af h (λ_=>rfl) rfl rfl (λ_=>rfl) rfl rfl
     |cons y l=>exact main h
end
end Go.Sx
namespace Go.Sx
set_option linter.unusedVariables false
set_option linter.unusedSimpArgs false
structure Rc where
 i:Nat
 v:AVal
 pre:Waj
 nx:Nat
 ids:List Nat
 mv:Bool
section
variable{T:Tab}{Γ:Ctx}{A:List (Nat×An)}{ops:Array Oper}
structure StepTo(T:Tab)(Γ:Ctx)(A:List (Nat×An))(ops:Array Oper)(ρ:Rc)(o:Oper)(st af:St):Prop where
 at_:ops[ρ.i]?=some o
 isM:ρ.mv=Wa5 o
 lk:ρ.mv=false->ρ.ids=Wda o st
 run:rxg T Γ A ops o st some=some af
 env:∀t,look af.env t=if o.dst=some t then some ρ.v else look st.env t
 objs:af.objs=if ρ.mv then ρ.pre++st.objs else st.objs
 nx:af.nx=if ρ.mv then ρ.nx else st.nx
def WvT(T:Tab)(Γ:Ctx)(A:List (Nat×An))(ops:Array Oper):List Rc->St->St->Prop
 | [],st,af=>st=af
 |ρ::l,st,af=>∃o dw,StepTo T Γ A ops ρ o st dw/\WvT T Γ A ops l dw af
theorem WrM{i:Nat}{o:Oper}{st af:St}(hi:ops[i]?=some o)(h:rxg T Γ A ops o st some=some af):
  ∃ρ:Rc,ρ.i=i/\StepTo T Γ A ops ρ o st af:=by
 obtain⟨v,pre,ai,e1,e2,_⟩:=Wra (aj:=st) h (λ_ _=>rfl) (λ_=>⟨rfl,rfl⟩) (λ_ _ _=>rfl);refine⟨⟨i,v,pre,ai,Wda o st,Wa5 o⟩,rfl,hi,rfl,λ_=>rfl,h,e1.env,?_,?_⟩
 .simp only;cases hm:Wa5 o with
  |true=>simpa using e1.objs
  |false=>rw[e1.objs,(e2 hm).1];rfl
 .simp only;cases hm:Wa5 o with
  |true=>simpa using e1.nx
  |false=>rw[e1.nx,(e2 hm).2];rfl
theorem StepTo.move{ρ:Rc}{o:Oper}{st af aj:St}(h:StepTo T Γ A ops ρ o st af)(he:∀t∈Wds ops o,look aj.env t=look st.env t)
  (hm:ρ.mv=true->aj.objs=st.objs/\aj.nx=st.nx) (hf:ρ.mv=false->∀id∈ρ.ids,look aj.objs id=look st.objs id):
  ∃bI,StepTo T Γ A ops ρ o aj bI:=by
 obtain⟨v,pre,ai,e1,e2,bI,e3,e4,e5⟩:=Wra (aj:=aj) h.run he (λdN=>hm (by rw[h.isM];exact dN)) (λfe id bz=>hf (by rw[h.isM];exact fe) id (by rw[h.lk (by rw[h.isM];exact fe)];exact bz));have hv:∀t,o.dst=some t->v=ρ.v:=λt ht=>by
  have a:=e1.env t;have b:=h.env t;rw[Wb ht]at a b;rw[a]at b;injection b
 have uS:ρ.mv=false->Wda o aj=Wda o st:=λ_=>Wgu λx hx=>Wfm λt ht=>he t (by
  unfold Wds;exact Xk _ (Xft.2 ⟨x,hx,ht⟩))
 cases dN:Wa5 o with
 |true=>
  have hρ:ρ.mv=true:=by rw[h.isM];exact dN
  have e4:=e4 dN;obtain⟨q1,q2⟩:=hm hρ;refine⟨bI,h.at_,h.isM,λhf=>(by rw[hρ]at hf;cases hf),e3,λt=>?_,?_,?_⟩
  .rw[e4.env];split
   .rename_i ht;rw[hv t ht]
   .rfl
  .rw[e4.objs,hρ];simp only[Wav];have a:=e1.objs;have b:=h.objs;rw[hρ]at b;simp only[Wav]at b;rw[a]at b;rw[List.append_cancel_right b]
  .rw[e4.nx,hρ];simp only[Wav];have a:=e1.nx;have b:=h.nx;rw[hρ]at b;simp only[Wav]at b;rw[←a,b]
 |false=>
  have hρ:ρ.mv=false:=by rw[h.isM];exact dN
  have e5:=e5 dN;refine⟨bI,h.at_,h.isM,λhf=>by rw[uS hρ];exact h.lk hρ,e3,λt=>?_,?_,?_⟩
  .rw[e5.env];split
   .rename_i ht;rw[hv t ht]
   .rfl
  .rw[e5.objs,hρ];rfl
  .rw[e5.nx,hρ];rfl
def WtP(ids:List Nat)(pre:Waj):Prop:=∀id∈ids,id∉Whu pre
def Wxq(B:List (List Nat))(x y:Rc):Prop:=
 (x.mv=false->y.mv=true->Wdh B x.i y.i=true\/WtP x.ids y.pre)/\
 (x.mv=true->y.mv=false->Wdh B x.i y.i=true\/WtP y.ids x.pre)
theorem WeV{α:Type}:∀(l:List Nat) (k:List Nat->α),WgQ l k=k l
 | [],_=>rfl
 |x::l,k=>by rw[WgQ,WeV l]
theorem Wnh{α:Type}:∀(l:List (List Nat)) (k:List (List Nat)->α),Wpl l k=k l
 | [],_=>rfl
 |x::l,k=>by rw[Wpl,WeV,Wnh l]
theorem WjV{ids:List Nat}{pre:Waj}(h:Wg3 ids (Whu pre)=true):WtP ids pre:=λid bz hk=>by
 unfold Wg3 at h;have:=Xac.1 h id bz;rw[(Wa1 id _).2 hk]at this;cases this
theorem Wq3(pre objs:Waj):Wsq objs (pre++objs)=Whu pre:=by
 unfold Wsq;simp
theorem WkL{B:List (List Nat)}{R:Type}{k:St->Option R}{r:R}:∀(l:List Nat) (fl mu:List (Nat×List Nat)) (st:St),rdx T Γ A ops B l fl mu st k=some r->
  ∃(rs:List Rc) (af:St),rs.map (·.i)=l/\WvT T Γ A ops rs st af/\k af=some r/\rs.Pairwise (Wxq B)/\
   (∀p∈fl,∀ρ∈rs,ρ.mv=true->Wdh B p.1 ρ.i=true\/WtP p.2 ρ.pre)/\
   (∀p∈mu,∀ρ∈rs,ρ.mv=false->Wdh B p.1 ρ.i=true\/Wg3 ρ.ids p.2=true)
 | [],fl,mu,st,h=>⟨[],st,rfl,rfl,h,List.Pairwise.nil,by simp,by simp⟩
 |i::l,fl,mu,st,h=>by
  simp only[rdx]at h;cases ho:ops[i]? with
  |none=>rw[ho]at h;cases h
  |some o=>
   rw[ho]at h;simp only at h;cases hm:Wa5 o with
   |true=>
    simp only[hm,Wc]at h;obtain⟨dw,h1,h2⟩:=WpI h;rw[WeV]at h2;obtain⟨kH,h2⟩:=WaY h2;obtain⟨ρ,hi,hs⟩:=WrM ho h1;have hρ:ρ.mv=true:=by rw[hs.isM];exact hm
    have au:=hs.objs;rw[hρ]at au;simp only[Wav]at au;rw[au,Wq3]at kH h2;obtain⟨rs,af,q1,q2,q3,q4,q5,q6⟩:=WkL l _ _ _ h2;refine⟨ρ::rs,af,by simp[hi,q1],⟨o,dw,hs,q2⟩,q3,List.Pairwise.cons (λy hy=>⟨λhf=>(by rw[hρ]at hf;cases hf),λ_ oq=>?_⟩) q4,λp hp y hy ot=>?_,λp hp y hy oq=>?_⟩
    .rcases q6 (i,Whu ρ.pre) (Xh ..) y hy oq with h|h
     .rw[hi];exact .inl h
     .exact .inr (WjV h)
    .rcases Xr.1 hy with rfl|hy
     .have:=Xac.1 kH p hp;rw[Xbw]at this;rw[hi];exact this.imp id WjV
     .exact q5 p hp y hy ot
    .rcases Xr.1 hy with rfl|hy
     .rw[hρ]at oq;cases oq
     .exact q6 p (Xe _ hp) y hy oq
   |false=>
    simp only[hm,We]at h;rw[WeV]at h;obtain⟨kH,h⟩:=WaY h;obtain⟨dw,h1,h2⟩:=WpI h;obtain⟨ρ,hi,hs⟩:=WrM ho h1;have hρ:ρ.mv=false:=by rw[hs.isM];exact hm
    have vA:=hs.lk hρ;rw[←vA]at kH h2;obtain⟨rs,af,q1,q2,q3,q4,q5,q6⟩:=WkL l _ _ _ h2;refine⟨ρ::rs,af,by simp[hi,q1],⟨o,dw,hs,q2⟩,q3,List.Pairwise.cons (λy hy=>⟨λ_ ot=>?_,λhf=>(by rw[hρ]at hf;cases hf)⟩) q4,λp hp y hy ot=>?_,λp hp y hy oq=>?_⟩
    .rw[hi];exact q5 (i,ρ.ids) (Xh ..) y hy ot
    .rcases Xr.1 hy with rfl|hy
     .rw[hρ]at ot;cases ot
     .exact q5 p (Xe _ hp) y hy ot
    .rcases Xr.1 hy with rfl|hy
     .have:=Xac.1 kH p hp;rw[Xbw]at this;rw[hi];exact this
     .exact q6 p hp y hy oq
def Wes(ops:Array Oper)(i:Nat):Option Tmp:=(ops[i]?).bind (·.dst)
def WoN(ops:Array Oper):List Rc->(Nat->Option AVal)->Nat->Option AVal
 | [],e,t=>e t
 |ρ::a,e,t=>WoN ops a (λt'=>if Wes ops ρ.i=some t' then some ρ.v else e t') t
def WhP:List Rc->Waj×Nat->Waj×Nat
 | [],m=>m
 |ρ::a,m=>WhP a (if ρ.mv then(ρ.pre++m.1,ρ.nx)else m)
theorem Whf:∀(rs:List Rc) (st af:St),WvT T Γ A ops rs st af->(∀t,look af.env t=WoN ops rs (look st.env) t)/\(af.objs,af.nx)=WhP rs (st.objs,st.nx)
 | [],st,af,h=>by cases h;exact⟨λ_=>rfl,rfl⟩
 |ρ::rs,st,af,⟨o,dw,hs,h⟩=>by
  obtain⟨h1,h2⟩:=Whf rs dw af h;have e:(look dw.env)= λt'=>if Wes ops ρ.i=some t' then some ρ.v else look st.env t':=funext λt=>by
   rw[hs.env];unfold Wes;rw[hs.at_];rfl
  refine⟨λt=>by rw[h1,e];rfl,?_⟩;rw[h2,WhP];congr 1;rw[hs.objs,hs.nx];split<;>rfl
theorem Wkc:∀(a:List Rc) (ρ:Rc) (b:List Rc) (st af:St),WvT T Γ A ops (a++ρ::b) st af->∃o dw aj,WvT T Γ A ops a st dw/\StepTo T Γ A ops ρ o dw aj
 | [],ρ,b,st,af,⟨o,dw,hs,h⟩=>⟨o,st,dw,rfl,hs⟩
 |x::a,ρ,b,st,af,⟨o,dw,hs,h⟩=>by
  obtain⟨o',s1,s2,h1,h2⟩:=Wkc a ρ b dw af h;exact⟨o',s1,s2,⟨o,dw,hs,h1⟩,h2⟩
theorem WbI:∀(a:List Rc) (m:Waj×Nat),WhP a m=WhP (a.filter (·.mv)) m
 | [],_=>rfl
 |ρ::a,m=>by
  rw[WhP,WbI a,Xbh];cases h:ρ.mv with
  |true=>simp only[Wav,WhP,h]
  |false=>simp only[Xbg,Waw]
theorem WdS:∀(a b:List Rc) (m:Waj×Nat),WhP (a++b) m=WhP b (WhP a m)
 | [],_,_=>rfl
 |ρ::a,b,m=>by rw[Xbd,WhP,WdS a b];rfl
theorem Wh9{pre objs:Waj}{id:Nat}(h:id∉Whu pre):look (pre++objs) id=look objs id:=by
 induction pre with
 |nil=>rfl
 |cons p pre ih=>
  obtain⟨j,ob⟩:=p;simp only[Whu,Xak,Xr,not_or]at h;rw[Xbd,WH,Wa (λe=>h.1 e.symm)];exact ih h.2
theorem Wiz{id:Nat}:∀(a:List Rc) (m:Waj×Nat),(∀ρ∈a,ρ.mv=true->id∉Whu ρ.pre)->look (WhP a m).1 id=look m.1 id
 | [],_,_=>rfl
 |ρ::a,m,h=>by
  rw[WhP,Wiz a _ λx hx=>h x (Xe _ hx)];split
  .rename_i hm;exact Wh9 (h ρ (Xh ..) hm)
  .rfl
def WkJ(ops:Array Oper):Prop:=∀i j t,Wes ops i=some t->Wes ops j=some t->i=j
theorem WgG{t:Nat}:∀(a:List Rc) (e:Nat->Option AVal),(∀ρ∈a,Wes ops ρ.i≠some t)->WoN ops a e t=e t
 | [],_,_=>rfl
 |ρ::a,e,h=>by
  rw[WoN,WgG a _ λx hx=>h x (Xe _ hx),Wa (h ρ (Xh ..))]
theorem WiO{t:Nat}(h1:WkJ ops):∀(a:List Rc) (e:Nat->Option AVal),(a.map (·.i)).Nodup->∀ρ∈a,Wes ops ρ.i=some t->WoN ops a e t=some ρ.v
 | [],_,_,_,h,_=>by cases h
 |x::a,e,hn,ρ,hρ,ht=>by
  rw[Xak,Xai]at hn;rw[WoN];rcases Xr.1 hρ with rfl|hρ
  .rw[WgG a _ λy hy zG=>hn.1 (by rw[h1 _ _ _ ht zG];exact Xw.2 ⟨y,hy,rfl⟩),Wb ht]
  .exact WiO h1 a _ hn.2 ρ hρ ht
theorem WjF{t:Nat}(h1:WkJ ops){a b:List Rc}{e:Nat->Option AVal}(ha:(a.map (·.i)).Nodup)(hb:(b.map (·.i)).Nodup)
  (h:∀ρ,Wes ops ρ.i=some t->(ρ∈a↔ρ∈b)):WoN ops a e t=WoN ops b e t:=by
 by_cases hx:∃ρ∈a,Wes ops ρ.i=some t
 .obtain⟨ρ,hρ,ht⟩:=hx;rw[WiO h1 a e ha ρ hρ ht,WiO h1 b e hb ρ ((h ρ ht).1 hρ) ht]
 .rw[WgG a e λρ hρ ht=>hx ⟨ρ,hρ,ht⟩,WgG b e λρ hρ ht=>hx ⟨ρ,(h ρ ht).2 hρ,ht⟩]
end
end Go.Sx
namespace Go.Sx
set_option linter.unusedVariables false
set_option linter.unusedSimpArgs false
theorem WfN{α:Type}{x:α}:∀{a c b d:List α},(a++x::b).Nodup->a++x::b=c++x::d->a=c
 | [],[],_,_,_,_=>rfl
 | [],y::c,b,d,hn,h=>by
  simp only[Xby,Xbd,List.cons.injEq]at h;obtain⟨rfl,h⟩:=h;rw[Xby,Xai]at hn;exact Wg (by rw[h];simp) hn.1
 |y::a,[],b,d,hn,h=>by
  simp only[Xby,Xbd,List.cons.injEq]at h;obtain⟨rfl,h⟩:=h;rw[Xbd,Xai]at hn;exact Wg (by simp) hn.1
 |y::a,z::c,b,d,hn,h=>by
  simp only[Xbd,List.cons.injEq]at h;obtain⟨rfl,h⟩:=h;rw[Xbd,Xai]at hn;rw[WfN hn.2 h]
def WaW(ops:Array Oper)(i:Nat):Bool:=match ops[i]? with
 |some o=>Wa5 o
 |none=>false
theorem Rel.same{w0:World}{F:CS}{nt:Slots}{G0 G:GH}{ν:Nat->Nu}{st aj:St}{a:Act}{w:World}(h:Rel w0 F nt G0 G ν st a w)
  (he:∀t,look aj.env t=look st.env t) (ho:aj.objs=st.objs) (hn:aj.nx=st.nx):Rel w0 F nt G0 G ν aj a w:=
 ⟨h.defers,h.ntm,h.par,λi x hx=>by rw[he]at hx;rw[hn];exact h.env i x hx,by rw[ho,hn];exact h.h,h.gx⟩
theorem WuJ:∀(rs:List Rc),(rs.map (·.i)).Nodup->∃rec:Nat->Rc,∀ρ∈rs,rec ρ.i=ρ
 | [],_=>⟨λi=>⟨i,.tup [],[],0,[],false⟩,by simp⟩
 |ρ::rs,h=>by
  rw[Xak,Xai]at h;obtain⟨rec,hr⟩:=WuJ rs h.2;refine⟨λi=>if i=ρ.i then ρ else rec i,λx hx=>?_⟩;rcases Xr.1 hx with rfl|hx
  .simp
  .simp only;rw[Wa (λe=>h.1 (by rw[←e];exact Xw.2 ⟨x,hx,rfl⟩))];exact hr x hx
section
variable{w0:World}{F:CS}{nt:Slots}{G0:GH}{P:Program}{T:Tab}{Γ:Ctx}{A:List (Nat×An)}{ops:Array Oper}{Q:Exit->Act->World->Prop}
theorem Wsc(hT:Wao P T)(hΓ:Wft P Γ)(hd:∀o∈ops,∀d,o.dst=some d->nt.Ok d){l L:List Nat}(hl:Order ops l)(hL:Order ops L)(dS:WkJ ops)
  (hsl:∀(i:Nat) (o:Oper) (t:Nat),ops[i]?=some o->t∈Wds ops o->∀j,Wes ops j=some t->j=i\/Wdh (WeR ops.toList []) j i=true\/Wdh (WeR ops.toList []) i j=true)
  (hσ:l.filter (WaW ops)=L.filter (WaW ops)) {rs:List Rc} {st af:St} (jp:rs.map (·.i)=L) (kI:WvT T Γ A ops rs st af) (bX:rs.Pairwise (Wxq (WeR ops.toList [])))
  (hK:∀a w G ν,Rel w0 F nt G0 G ν af a w->Q .normal a w) {a:Act} {w:World} {G:GH} {ν:Nat->Nu} (hr:Rel w0 F nt G0 G ν st a w):wpOps P ops Q l a w:=by
 have aP:(rs.map (·.i)).Nodup:=by rw[jp];exact hL.nodup
 obtain⟨rec,bi⟩:=WuJ rs aP;have hLr:L.map rec=rs:=by
  rw[←jp,Xeb]
  conv=>rhs;rw[←List.map_id rs]
  exact Xdz λρ hρ=>bi ρ hρ
 have iZ:∀i,i∈l↔i∈L:=λi=>by rw[←hl.all,hL.all]
 have jq:∀i∈L,(rec i).i=i/\rec i∈rs:=λi hi=>by
  rw[←jp]at hi;obtain⟨ρ,hρ,rfl⟩:=Xw.1 hi;rw[bi ρ hρ];exact⟨rfl,hρ⟩
 have gH:∀i∈L,∃pre post o dw aj,L=pre++i::post/\WvT T Γ A ops (pre.map rec) st dw/\StepTo T Γ A ops (rec i) o dw aj:=λi hi=>by
  obtain⟨pre,post,e⟩:=Xec hi;have:rs=pre.map rec++rec i::post.map rec:=by rw[←hLr,e];simp
  rw[this]at kI;obtain⟨o,dw,aj,h1,h2⟩:=Wkc _ _ _ _ _ kI;exact⟨pre,post,o,dw,aj,e,h1,h2⟩
 have gE:∀i∈L,(rec i).mv=WaW ops i:=λi hi=>by
  obtain⟨pre,post,o,dw,aj,e,h1,h2⟩:=gH i hi;rw[h2.isM];have:=h2.at_;rw[(jq i hi).1]at this;unfold WaW;rw[this]
 have fB:∀(p:List Nat),(∀i∈p,i∈L)->(p.map rec).filter (·.mv)=(p.filter (WaW ops)).map rec:=by
  intro p
  induction p with
  |nil=>intro _;rfl
  |cons i p ih=>
   intro h;have:=ih λj hj=>h j (Xe _ hj);rw[Xak,Xbh,Xbh,gE i (h i (Xh ..))];split
   .rw[Xak,this]
   .exact this
 have ou:∀(p:List Nat),(∀i∈p,i∈L)->(p.map rec).map (·.i)=p:=by
  intro p h;rw[Xeb]
  conv=>rhs;rw[←List.map_id p]
  exact Xdz λi hi=>(jq i (h i hi)).1
 have im:∀(p:List Nat),(∀i∈p,i∈L)->∀i∈L,(rec i∈p.map rec↔i∈p):=λp hp i hi=>by
  constructor
  .intro h;obtain⟨j,hj,e⟩:=Xw.1 h;have:j=i:=by rw[←(jq j (hp j hj)).1,←(jq i hi).1,e]
   rw[←this];exact hj
  .exactλh=>Xw.2 ⟨i,h,rfl⟩
 have nk:∀i j pre post,L=pre++i::post->j∈post->Wxq (WeR ops.toList []) (rec i) (rec j):=λi j pre post e hj=>by
  have:rs=pre.map rec++rec i::post.map rec:=by rw[←hLr,e];simp
  rw[this,List.pairwise_append]at bX;exact(List.pairwise_cons.1 bX.2.1).1 _ (Xw.2 ⟨j,hj,rfl⟩)
 suffices main:∀(s p:List Nat),l=p++s->∀(aj:St) (a:Act) (w:World) (G:GH) (ν:Nat->Nu),Rel w0 F nt G0 G ν aj a w->
   (∀t,look aj.env t=WoN ops (p.map rec) (look st.env) t)->(aj.objs,aj.nx)=WhP (p.map rec) (st.objs,st.nx)->wpOps P ops Q s a w from
  main l [] rfl st a w G ν hr (λ_=>rfl) rfl
 intro s
 induction s with
 |nil=>
  intro p e aj a w G ν ip he hm;rw[Xcw]at e;subst e;obtain⟨f1,f2⟩:=Whf _ _ _ kI;have sf:∀i∈l,i∈L:=λi hi=>(iZ i).1 hi;refine hK a w G ν (ip.same (λt=>?_) ?_ ?_)
  .rw[f1,he];refine WjF dS aP (by rw[ou l sf];exact hl.nodup) λρ _=>?_;constructor
   .intro hρ;have hi:ρ.i∈L:=by rw[←jp];exact Xw.2 ⟨ρ,hρ,rfl⟩
    rw[←bi ρ hρ];exact(im l sf ρ.i hi).2 ((iZ _).2 hi)
   .intro hρ;obtain⟨i,hi,rfl⟩:=Xw.1 hρ;exact(jq i (sf i hi)).2
  .have:WhP (l.map rec) (st.objs,st.nx)=WhP rs (st.objs,st.nx):=by
    rw[WbI,fB l sf,hσ,←fB L (λi hi=>hi),←WbI,hLr]
   rw[this,←f2]at hm;exact(Wl (·.1) hm).symm
  .have:WhP (l.map rec) (st.objs,st.nx)=WhP rs (st.objs,st.nx):=by
    rw[WbI,fB l sf,hσ,←fB L (λi hi=>hi),←WbI,hLr]
   rw[this,←f2]at hm;exact(Wl (·.2) hm).symm
 |cons i s ih=>
  intro p e aj a w G ν ip he hm;have qQ:i∈L:=(iZ i).1 (by rw[e];simp);have sh:∀j∈p,j∈L:=λj hj=>(iZ j).1 (by rw[e];exact Xk _ hj);obtain⟨pre,post,o,dw,zH,eL,h1,h2⟩:=gH i qQ;have ja:∀j∈pre,j∈L:=λj hj=>by rw[eL];exact Xk _ hj
  have ov:ops[i]?=some o:=by have:=h2.at_;rw[(jq i qQ).1]at this;exact this
  obtain⟨g1,g2⟩:=Whf _ _ _ h1;have mh:=hl.nodup;have mj:=hL.nodup;rw[e]at mh;rw[eL]at mj;have si:i∉p:=λh=>(Xaj.1 mh).2.2 i h i (Xh ..) rfl;have jb:i∉pre:=λh=>(Xaj.1 mj).2.2 i h i (Xh ..) rfl;have oz:∀t∈Wds ops o,look aj.env t=look dw.env t:=λt ht=>by
   rw[he,g1];refine WjF dS (by rw[ou p sh];exact(Xaj.1 mh).1) (by rw[ou pre ja];exact(Xaj.1 mj).1) λρ hρt=>?_;have key:∀j∈L,Wes ops j=some t->(j∈p↔j∈pre):=λj hj vf=>by
    rcases hsl i o t ov ht j vf with rfl|hb|hb
    .exact⟨λh=>Wg h si,λh=>Wg h jb⟩
    .by_cases ml:j=i
     .subst ml;exact⟨λh=>Wg h si,λh=>Wg h jb⟩
     .exact⟨λ_=>hL.bef' eL hb ml,λ_=>hl.bef' e hb ml⟩
    .exact⟨λh=>Wg (hl.bef e hb h) si,λh=>Wg (hL.bef eL hb h) jb⟩
   constructor
   .intro hρ;obtain⟨j,hj,rfl⟩:=Xw.1 hρ;have sj:=sh j hj;rw[(jq j sj).1]at hρt;exact Xw.2 ⟨j,(key j sj hρt).1 hj,rfl⟩
   .intro hρ;obtain⟨j,hj,rfl⟩:=Xw.1 hρ;have sj:=ja j hj;rw[(jq j sj).1]at hρt;exact Xw.2 ⟨j,(key j sj hρt).2 hj,rfl⟩
  have xF:WhP (p.map rec) (st.objs,st.nx)=WhP ((p.filter (WaW ops)).map rec) (st.objs,st.nx):=by rw[WbI,fB p sh]
  have nl:WhP (pre.map rec) (st.objs,st.nx)=WhP ((pre.filter (WaW ops)).map rec) (st.objs,st.nx):=by rw[WbI,fB pre ja]
  obtain⟨zI,h3⟩:=h2.move (aj:=aj) oz (λdN=>by
   have sm:WaW ops i=true:=by rw[←gE i qQ];exact dN
   have:p.filter (WaW ops)=pre.filter (WaW ops):=by
    have q:=hσ;rw[e,eL,Xcq,Xcq,Xbh,Xbh,Wb sm,Wb sm]at q;refine WfN ?_ q;have:=hl.nodup.filter (WaW ops);rw[e,Xcq,Xbh,Wb sm]at this;exact this
   rw[xF,this,←nl,←g2]at hm;exact⟨Wl (·.1) hm,Wl (·.2) hm⟩) (λfe id bz=>by
   have q:(p.filter (WaW ops))<+:l.filter (WaW ops):=by rw[e,Xcq];exact Xgl _ _
   have q2:(pre.filter (WaW ops))<+:l.filter (WaW ops):=by rw[hσ,eL,Xcq];exact Xgl _ _
   have u7:aj.objs=(WhP ((p.filter (WaW ops)).map rec) (st.objs,st.nx)).1:=by rw[←xF,←hm]
   have uk:dw.objs=(WhP ((pre.filter (WaW ops)).map rec) (st.objs,st.nx)).1:=by rw[←nl,←g2]
   rw[u7,uk];rcases List.prefix_or_prefix_of_prefix q q2 with⟨X,hX⟩|⟨X,hX⟩
   .
    rw[←hX,Xu,WdS];refine(Wiz _ _ λρ hρ hρm=>?_).symm;obtain⟨m,qR,rfl⟩:=Xw.1 hρ;have iq:m∈pre:=(Xau.1 (by rw[←hX];exact Xg _ qR:m∈pre.filter (WaW ops))).1;have oC:m∉p:=λhmem=>by
     have vC:WaW ops m=true:=(Xau.1 (by rw[←hX];exact Xg _ qR:m∈pre.filter (WaW ops))).2;have kJ:(pre.filter (WaW ops)).Nodup:=(Xaj.1 mj).1.filter _;rw[←hX]at kJ;exact(Xaj.1 kJ).2.2 m (Xau.2 ⟨hmem,vC⟩) m qR rfl
    obtain⟨u,v,eu⟩:=Xec iq;have hf:=nk m i u (v++i::post) (by rw[eL,eu];simp) (by simp);rcases hf.2 hρm fe with hb|hb
    .rw[(jq m (ja m iq)).1,(jq i qQ).1]at hb;exact Wg (hl.bef' e hb (λhc=>jb (hc▸iq))) oC
    .exact hb id bz
   .rw[←hX,Xu,WdS];refine Wiz _ _ λρ hρ hρm=>?_;obtain⟨m,qR,rfl⟩:=Xw.1 hρ;have xG:m∈p.filter (WaW ops):=by rw[←hX];exact Xg _ qR
    have mm:m∈p:=(Xau.1 xG).1;have oC:m∉pre:=λhmem=>by
     have vC:WaW ops m=true:=(Xau.1 xG).2;have kJ:(p.filter (WaW ops)).Nodup:=(Xaj.1 mh).1.filter _;rw[←hX]at kJ;exact(Xaj.1 kJ).2.2 m (Xau.2 ⟨hmem,vC⟩) m qR rfl
    have xH:=sh m mm;have oD:m∈post:=by
     rw[eL]at xH;rcases Xm.1 xH with h|h
     .exact Wg h oC
     .rcases Xr.1 h with h|h
      .exact Wg (h▸mm) si
      .exact h
    have hf:=nk i m pre post eL oD;rcases hf.1 fe hρm with hb|hb
    .rw[(jq m (sh m mm)).1,(jq i qQ).1]at hb;exact Wg (hl.bef e hb mm) si
    .exact hb id bz)
  have zJ:∀d,o.dst=some d->nt.Ok d:=hd o (Array.mem_of_getElem? ov);have uv:=WuQ (F:=F) (G0:=G0) (w0:=w0) hT hΓ zJ (Q:=Q) (k:=some) (r:=zI) (K:=wpOps P ops Q s) (λzK a' w' G' ν' hr4 h4=>by
   injection h4 with h4;subst h4;refine ih (p++ [i]) (by rw[e];simp) zK a' w' G' ν' hr4 (λt=>?_) ?_
   .rw[h3.env];have hv:WoN ops ((p++ [i]).map rec) (look st.env) t=if Wes ops i=some t then some (rec i).v else WoN ops (p.map rec) (look st.env) t:=by
     rw[Xu];have gen:∀(x:List Rc) (y:Rc) (e:Nat->Option AVal),WoN ops (x++ [y]) e t=if Wes ops y.i=some t then some y.v else WoN ops x e t:=by
      intro x
      induction x with
      |nil=>intro y e;rfl
      |cons z x ih=>intro y e;rw[Xbd,WoN,ih];rfl
     rw[List.map_singleton,gen,(jq i qQ).1]
    rw[hv,he];have:Wes ops i=o.dst:=by unfold Wes;rw[ov];rfl
    rw[this]
   .rw[Xu,WdS,←hm];simp only[Xak,Xbp,WhP];rw[h3.objs,h3.nx];split<;>rfl) ip h3.run
  rw[wpOps_cons];unfold wpOp;rw[ov];simp only;split
  .rename_i hw;rw[Wb hw]at uv;exact .inl uv
  .rename_i hw;rw[Wa hw]at uv;exact uv
end
end Go.Sx
namespace Go.Sx
set_option linter.unusedVariables false
set_option linter.unusedSimpArgs false
theorem WjN:∀{l:List (Nat×Nat)},WbF (l.map (·.1))=true->∀p∈l,∀q∈l,p.1=q.1->p=q
 | [],_,p,hp,_,_,_=>by cases hp
 |x::l,h,p,hp,q,hq,e=>by
  have hn:=(We4 _).1 h;simp only[Xak,WbF,Xi]at h;rw[Xak,Xai]at hn;rcases Xr.1 hp with h1|h1
  .rcases Xr.1 hq with h2|h2
   .rw[h1,h2]
   .exact Wg (Xw.2 ⟨q,h2,by rw[←e,h1]⟩) hn.1
  .rcases Xr.1 hq with h2|h2
   .exact Wg (Xw.2 ⟨p,h1,by rw[e,h2]⟩) hn.1
   .exact WjN h.2 p h1 q h2 e
theorem WjP:∀(l:List Oper) (n k:Nat) (o:Oper) (d:Nat),l[k]?=some o->o.dst=some d->(d,n+k)∈Whz l n
 | [],_,k,o,d,h,_=>by simp at h
 |x::l,n,k,o,d,h,hd=>by
  cases k with
  |zero=>
   simp at h;subst h;simp only[Whz,hd];exact Xh ..
  |succ k=>
   have:=WjP l (n+1) k o d (by simpa using h) hd;have e:n+(k+1)=n+1+k:=by omega
   rw[e];simp only[Whz];split
   .exact Xe _ this
   .exact this
theorem Why{ops:Array Oper}{B:List (List Nat)}{D:List (Nat×Nat)}:∀(l:List Oper) (n:Nat),WkB ops B D l n=true->∀(k:Nat) (o:Oper),l[k]?=some o->∀t∈Wds ops o,∀p∈D,p.1=t->
  p.2=n+k\/Wdh B p.2 (n+k)=true\/Wdh B (n+k) p.2=true
 | [],_,_,k,o,h=>by simp at h
 |x::l,n,h,k,o,hk=>by
  simp only[WkB,Xi]at h;cases k with
  |zero=>
   simp at hk;subst hk;intro t ht p hp e;have:=Xac.1 (Xac.1 h.1 t ht) p hp;simp only[Xbw,Xaq]at this;rcases this with((h1|h1)|h1)|h1
   .rw[e]at h1;simp at h1
   .exact .inl (by simpa using h1)
   .exact .inr (.inl h1)
   .exact .inr (.inr h1)
  |succ k=>
   have:=Why l (n+1) h.2 k o (by simpa using hk);have e:n+(k+1)=n+1+k:=by omega
   rw[e];exact this
structure RegOk(ops:Array Oper):Prop where
 back:∀(k:Nat) (o:Oper),ops[k]?=some o->∀d∈WnB o,d<k
 one:WkJ ops
 slots:∀(i:Nat) (o:Oper) (t:Nat),ops[i]?=some o->t∈Wds ops o->∀j,Wes ops j=some t->j=i\/Wdh (WeR ops.toList []) j i=true\/Wdh (WeR ops.toList []) i j=true
theorem Wio{ops:Array Oper}{j t:Nat}(h:Wes ops j=some t):(t,j)∈Whz ops.toList 0:=by
 unfold Wes at h;obtain⟨o,ho,hd⟩:=Xbs.1 h;have:=WjP ops.toList 0 j o t (by simpa using ho) hd;rw[Xbb]at this;exact this
theorem Wqr{ops:Array Oper}(h:WvS ops (WeR ops.toList [])=true):RegOk ops:=by
 simp only[WvS,Xi]at h;obtain⟨⟨h1,h2⟩,h3⟩:=h;refine⟨λk o ho e he=>?_,λi j t hi hj=>?_,λi o t ho ht j hj=>?_⟩
 .have:=Wki (ops:=ops) ops.toList 0 h1 k o (by simpa using ho) e he;omega
 .have:=WjN h2 _ (Wio hi) _ (Wio hj) rfl;exact Wl (·.2) this
 .have:=Why ops.toList 0 h3 i o (by simpa using ho) t ht _ (Wio hj) rfl;simpa using this
theorem WjK{ops:Array Oper}:∀(l done:List Nat),Wjx ops l done=true->done.Nodup->(∀i∈done,i<ops.size)->
  (done++l).Nodup/\(∀i∈done++l,i<ops.size)/\(done++l).length=ops.size/\(∀p i s,l=p++i::s->∀o,ops[i]?=some o->∀d∈WnB o,d∈done++p)
 | [],done,h,hn,hlt=>by
  simp only[Wjx]at h;exact⟨by simpa using hn,by simpa using hlt,by simpa using h,λp i s e=>by simp at e⟩
 |x::l,done,h,hn,hlt=>by
  simp only[Wjx,Xi,Xaq]at h;obtain⟨⟨h1,h2⟩,h3⟩:=h;have hx:x∉done:=λhm=>by rw[(Wa1 x done).2 hm]at h1;cases h1
  cases ho:ops[x]? with
  |none=>rw[ho]at h2;cases h2
  |some o=>
   rw[ho]at h2;have oj:x<ops.size:=(Xcx.1 ho).1;obtain⟨g1,g2,g3,g4⟩:=WjK l (x::done) h3 (Xai.2 ⟨hx,hn⟩) (λi hi=>by
    rcases Xr.1 hi with rfl|hi
    .exact oj
    .exact hlt i hi)
   have kK:List.Perm (x::done++l) (done++x::l):=by simpa using(List.perm_middle (a:=x) (l₁:=done) (l₂:=l)).symm
   refine⟨kK.nodup_iff.1 g1,λi hi=>g2 i (kK.mem_iff.2 hi),by rw[←kK.length_eq];exact g3,λp i s e o' jo d hd=>?_⟩;cases p with
   |nil=>
    simp only[Xby,List.cons.injEq]at e;obtain⟨rfl,_⟩:=e;rw[ho]at jo;injection jo with jo;subst jo;have:=Xac.1 h2 d hd;simpa using(Wa1 d done).1 this
   |cons y p=>
    simp only[Xbd,List.cons.injEq]at e;obtain⟨rfl,e⟩:=e;have:=g4 p i s e o' jo d hd;simp only[Xbd,Xr,Xm]at this⊢;rcases this with h|h|h
    .exact .inr (.inl h)
    .exact .inl h
    .exact .inr (.inr h)
theorem WnR{l:List Nat}{n:Nat}(hn:l.Nodup)(hlt:∀i∈l,i<n)(hlen:l.length=n):∀i,i<n->i∈l:=by
 intro i hi;refine Classical.byContradiction λh=>?_;have h1:(i::l).Nodup:=Xai.2 ⟨h,hn⟩;have h2:∀j∈i::l,j∈Xda n:=λj hj=>by
  rw[Xee];rcases Xr.1 hj with rfl|hj
  .exact hi
  .exact hlt j hj
 have key:∀(a b:List Nat),a.Nodup->(∀x∈a,x∈b)->a.length<=b.length:=by
  intro a
  induction a with
  |nil=>intro b _ _;simp
  |cons x a ih=>
   intro b oE fN;rw[Xai]at oE;have so:x∈b:=fN x (Xh ..);have:=ih (b.erase x) oE.2 λy hy=>(Xgg (λe=>oE.1 (by rw[←e];exact hy))).2 (fN y (Xe _ hy));rw[Xfp so]at this;have hpos:=Xfy so;simp;omega
 have:=key _ _ h1 h2;rw[Xfi,Xs]at this;omega
theorem Wn6{ops:Array Oper}{l:List Nat}(h:Wjx ops l []=true):Order ops l:=by
 obtain⟨h1,h2,h3,h4⟩:=WjK l [] h Xdf (by simp);rw[Xby]at h1 h2 h3;exact⟨h1,λi=>⟨WnR h1 h2 h3 i,h2 i⟩,λp i s e o ho d hd=>by simpa using h4 p i s e o ho d hd⟩
theorem WjD:∀(l:List Oper) (n i:Nat),i∈WhH l n↔n<=i/\∃o,l[i-n]?=some o/\Wa5 o=true
 | [],n,i=>by simp[WhH]
 |o::l,n,i=>by
  have ih:=WjD l (n+1) i;have sq:(n<=i/\∃o',(o::l)[i-n]?=some o'/\Wa5 o'=true)↔(i=n/\Wa5 o=true)\/(n+1<=i/\∃o',l[i-(n+1)]?=some o'/\Wa5 o'=true):=by
   by_cases hi:i=n
   .subst hi;constructor
    .rintro⟨_,o',h1,h2⟩;rw[Xcv]at h1;injection h1 with h1;subst h1;exact .inl ⟨rfl,h2⟩
    .rintro(⟨_,h⟩|⟨h,_⟩)
     .exact⟨Xn _,o,by rw[Xcv];rfl,h⟩
     .omega
   .constructor
    .rintro⟨h0,o',h1,h2⟩;have e:i-n=(i-(n+1))+1:=by omega
     rw[e,Xef]at h1;exact .inr ⟨by omega,o',h1,h2⟩
    .rintro(⟨h,_⟩|⟨h0,o',h1,h2⟩)
     .exact Wg h hi
     .have e:i-n=(i-(n+1))+1:=by omega
      exact⟨by omega,o',by rw[e,Xef];exact h1,h2⟩
  rw[sq,←ih];simp only[WhH];cases hm:Wa5 o with
  |true=>simp
  |false=>simp
theorem Wmy{ops:Array Oper}{i:Nat}:i∈WhH ops.toList 0↔WaW ops i=true:=by
 rw[WjD];unfold WaW;simp only[Xbk,true_and,Xdj,Array.getElem?_toList];cases ops[i]? with
 |none=>simp
 |some o=>simp
theorem WpE{B:List (List Nat)}:∀(σ rem:List Nat) (n:Nat),σ.length<=n->σ.Nodup->(∀i,i∈rem↔i∈σ)->(∀p m s,σ=p++m::s->∀m'∈m::s,Wdh B m' m=false)->σ∈WvC B n rem
 | [],rem,n,hn,aP,hmem,hb=>by
  have:rem= []:=Xex.2 λi hi=>by have:=(hmem i).1 hi;cases this
  subst this;cases n<;>simp[WvC]
 |m::s,rem,0,hn,_,_,_=>by simp at hn
 |m::s,rem,n+1,hn,aP,hmem,hb=>by
  have hm:m∈rem:=(hmem m).2 (Xh ..);rw[Xai]at aP;cases jr:rem with
  |nil=>rw[jr]at hm;cases hm
  |cons x xs=>
   rw[←jr];have vD:WvC B (n+1) rem=(rem.filter λm=>rem.all λm'=>!Wdh B m' m).flatMap λm=>(WvC B n (rem.filter λx=>!Xbo x m)).map (m:: ·):=by rw[jr];rfl
   rw[vD];refine Xft.2 ⟨m,Xau.2 ⟨hm,Xac.2 λm' ij=>?_⟩,Xw.2 ⟨s,?_,rfl⟩⟩
   .rw[hb [] m s rfl m' ((hmem m').1 ij)];rfl
   .refine WpE s _ n (by simpa using hn) aP.2 (λi=>?_) (λp q s' e=>hb (m::p) q s' (by rw[e];rfl));rw[Xau,hmem,Xr];constructor
    .rintro⟨h1,h2⟩;rcases h1 with rfl|h1
     .simp at h2
     .exact h1
    .intro h;refine⟨.inr h,?_⟩;have hne:i≠m:=λe=>aP.1 (e▸h);cases hb':Xbo i m with
     |false=>rfl
     |true=>exact Wg (Nat.eq_of_beq_eq_true hb') hne
theorem WuH:∀(l m:List Nat),eqN l m=true->l=m
 | [],[],_=>rfl
 | [],_::_,h=>by cases h
 |_::_,[],h=>by cases h
 |i::l,j::m,h=>by
  simp only[eqN,Xi]at h;have:i=j:=by simpa using h.1
  rw[this,WuH l m h.2]
theorem Wr3{α:Type}{a b:Option α}{r:α}(h:Wgc a b=some r):a=some r/\b=some r:=by
 unfold Wgc at h;split at h
 .rename_i e;exact⟨h,e▸h⟩
 .cases h
section
variable{w0:World}{F:CS}{nt:Slots}{G0:GH}{P:Program}{T:Tab}{Γ:Ctx}{A:List (Nat×An)}{R:Type}{r:R}
theorem WoO{ops:Array Oper}{B:List (List Nat)}{st:St}{k:St->Option R}:∀(l:List (List Nat)),Wwx T Γ A ops B st k l=some r->∀σ∈l,∃L,Wjx ops L []=true/\L.filter (λi=>Wcz i σ)=σ/\rdx T Γ A ops B L [] [] st k=some r
 | [],_,σ,hσ=>by cases hσ
 |τ::l,h,σ,hσ=>by
  have one:WgQ (WkY ops.toList B ops.size [] τ) (λL=>bif Wjx ops L []&&eqN (L.filter λi=>Wcz i τ) τ then rdx T Γ A ops B L [] [] st k else none)=some r->∃L,Wjx ops L []=true/\L.filter (λi=>Wcz i τ)=τ/\rdx T Γ A ops B L [] [] st k=some r:=λh=>by
   rw[WeV]at h;obtain⟨hc,h⟩:=WaY h;simp only[Xi]at hc;exact⟨_,hc.1,WuH _ _ hc.2,h⟩
  cases l with
  |nil=>
   simp only[Wwx]at h;rcases Xr.1 hσ with rfl|hσ
   .exact one h
   .cases hσ
  |cons x l=>
   have h:Wgc (WgQ (WkY ops.toList B ops.size [] τ) (λL=>bif Wjx ops L []&&eqN (L.filter λi=>Wcz i τ) τ then rdx T Γ A ops B L [] [] st k else none)) (Wwx T Γ A ops B st k (x::l))=some r:=h;obtain⟨h1,h2⟩:=Wr3 h;rcases Xr.1 hσ with rfl|hσ
   .exact one h1
   .exact WoO (x::l) h2 σ hσ
theorem Wt0(hM:P.follows .mixedOrders=true)(hT:Wao P T)(hΓ:Wft P Γ){id:Nat}{ops:Array Oper}(hd:∀o∈ops,∀d,o.dst=some d->nt.Ok d){k:St->Option R}{Q:Exit->Act->World->Prop}(hK:WrF w0 F nt G0 k r (Q .normal)):
  WrF w0 F nt G0 (λst=>Wu4 T Γ A ops st k) r ((Code.region id ops true).wp P Q):=λst a w G ν hr h=>by
 simp only[Wu4,Wnh]at h;obtain⟨jt,h⟩:=WaY h;have hR:=Wqr jt;refine wp_region_draw λt=>?_;rw[hM];have hl:Order ops (Region.schedule true ops t):=Wju hR.back;generalize Region.schedule true ops t=l at hl;have hσ:l.filter (WaW ops)∈WvC (WeR ops.toList []) ops.size (WhH ops.toList 0):=by
  refine WpE _ _ _ ?_ (hl.nodup.filter _) (λi=>?_) (λp m s e m' ij=>?_)
  .refine Xco (Xen _ _) ?_;have cC:l.length<=(Xda ops.size).length:=by
    have key:∀(a b:List Nat),a.Nodup->(∀x∈a,x∈b)->a.length<=b.length:=by
     intro a
     induction a with
     |nil=>intro b _ _;simp
     |cons x a ih=>
      intro b oE fN;rw[Xai]at oE;have so:x∈b:=fN x (Xh ..);have:=ih (b.erase x) oE.2 λy hy=>(Xgg (λe=>oE.1 (by rw[←e];exact hy))).2 (fN y (Xe _ hy));rw[Xfp so]at this;have hpos:=Xfy so;simp;omega
    exact key _ _ hl.nodup λx hx=>Xee.2 ((hl.all x).2 hx)
   rw[Xfi]at cC;exact cC
  .rw[Wmy,Xau];constructor
   .intro h;refine⟨(hl.all i).1 ?_,h⟩;unfold WaW at h;split at h
    .rename_i o ho;exact(Xcx.1 ho).1
    .cases h
   .exactλh=>h.2
  .cases hb:Wdh (WeR ops.toList []) m' m with
   |false=>rfl
   |true=>
    exfalso;have qS:m∈l:=(Xau.1 (by rw[e];simp:m∈l.filter (WaW ops))).1;obtain⟨u,v,eu⟩:=Xec qS;have hm'u:m'∈u++ [m]:=hl.bef (p:=u++ [m]) (s:=v) (by rw[eu];simp) hb (by simp);have vE:WaW ops m=true:=(Xau.1 (by rw[e];simp:m∈l.filter (WaW ops))).2;have sr:=hl.nodup.filter (WaW ops);have e2:l.filter (WaW ops)=u.filter (WaW ops)++m::v.filter (WaW ops):=by rw[eu,Xcq,Xbh,Wb vE]
    have zL:p=u.filter (WaW ops):=by
     refine WfN (b:=s) (d:=v.filter (WaW ops)) (x:=m) ?_ ?_
     .rw[←e];exact sr
     .rw[←e,e2]
    rcases Xr.1 ij with rfl|hm's
    .
     have:=hl.bef (p:=u++ [m']) (s:=v) (by rw[eu];simp) hb (by simp);have hcl:Wm5 ops (λj=>j∈u\/(j=m'/\False)):=λi o ho hi d hd=>by
      rcases hi with hi|⟨_,hf⟩
      .exact .inl (hl.closed (p:=u) (s:=m'::v) eu i o ho hi d hd)
      .exact hf.elim
     have back:∀(j i:Nat),Wdh (WeR ops.toList []) j i=true->j<i:=λj i ml=>by
      have hcl2:Wm5 ops (λx=>x<i\/(x=i)):=λx o ho hx d hd=>by
       have:d<x:=hR.back x o ho d hd;omega
      refine Classical.byContradiction λhn=>?_;have hlt:∀(l:List Oper) (acc:List (List Nat)),(∀(k:Nat) (o:Oper),l[k]?=some o->ops[acc.length+k]?=some o)->(∀i,∀j∈acc.getD i [],j<i)->∀i,∀j∈(WeR l acc).getD i [],j<i:=by
       intro l
       induction l with
       |nil=>intro acc _ h;exact h
       |cons o l ih=>
        intro acc hl h;refine ih _ (λk o' hk=>?_) (λi j hj=>?_)
        .have:=hl (k+1) o' (by simpa using hk);rw[Xz];have e:acc.length+(k+1)=acc.length+ [Wlu acc (WnB o) []].length+k:=by simp;omega
         rw[←e];exact this
        .rw[Xag,Xav]at hj;split at hj
         .exact h i j (by rw[Xag];exact hj)
         .by_cases he:i=acc.length
          .subst he;simp only[Xcv,Xdk,Xel]at hj;rcases(WiF _ _).1 hj with⟨k,hk,dU⟩|hj
           .have kD:k<acc.length:=hR.back acc.length o (hl 0 o (by simp)) k hk;rcases dU with rfl|dU
            .exact kD
            .have:=h k j dU;omega
           .cases hj
          .have:[Wlu acc (WnB o) []][i-acc.length]?=none:=Xcr (by simp;omega);rw[this]at hj;cases hj
      exact hn (hlt ops.toList [] (λk o hk=>by simpa using hk) (λi j hj=>by simp at hj) i j ((Wa1 _ _).1 ml))
     have:=back m' m' hb;omega
    .
     have hm'l:m'∈p:=by
      rw[zL];rcases Xm.1 hm'u with h|h
      .refine Xau.2 ⟨h,?_⟩;exact(Xau.1 (by rw[e];simp[hm's]:m'∈l.filter (WaW ops))).2
      .simp at h;subst h;rw[e]at sr;have:=(Xai.1 (Xaj.1 sr).2.1).1;exact Wg hm's this
     rw[e]at sr;exact(Xaj.1 sr).2.2 m' hm'l m' (Xe _ hm's) rfl
 obtain⟨L,g1,g2,g3⟩:=WoO _ h _ hσ;have hL:=Wn6 g1;obtain⟨rs,af,q1,q2,q3,q4,_,_⟩:=WkL _ _ _ _ g3;have hf:l.filter (WaW ops)=L.filter (WaW ops):=by
  rw[←g2];refine List.filter_congr λi hi=>?_;cases hm:WaW ops i with
  |true=>exact(Wa1 _ _).2 (Xau.2 ⟨(hl.all i).1 ((hL.all i).2 hi),hm⟩)
  |false=>
   cases he:Wcz i (l.filter (WaW ops))with
   |false=>rfl
   |true=>
    have:=(Xau.1 ((Wa1 _ _).1 he)).2;rw[hm]at this;cases this
 have bL:Rel w0 F nt G0 G ν st a {w with drawn:=w.drawn+1}:=⟨hr.defers,hr.ntm,hr.par,hr.env,?_,hr.gx⟩
 .exact Wsc hT hΓ hd hl hL hR.one hR.slots hf q1 q2 q4 (λa w G ν hr=>hK af a w G ν hr q3) bL
 .exact hr.h.drew
end
end Go.Sx
namespace Go.Sx
set_option linter.unusedVariables false
set_option linter.unusedSimpArgs false
section
variable{w0:World}{F:CS}{nt:Slots}{G0:GH}{P:Program}{T:Tab}{Γ:Ctx}{A:List (Nat×An)}{R:Type}{r:R}
theorem WoK(hM:P.follows .mixedOrders=true)(hT:Wao P T)(hΓ:Wft P Γ){n:Nat}{kept:List Nat}(hn:nt.n=n)(ju:∀p∈nt.kept,p.1∈kept){ann:Nat->List Ghost}{N:Nat}:∀(c:Code),Wdx n kept c=true->∀{k:Ex->St->Option R} {Q:Exit->Act->World->Prop},
  (∀e,WrF w0 F nt G0 (k e) r (Q e.to))->WrF w0 F nt G0 (λst=>sx T Γ ann N c st k) r (c.wp P Q)
 | .skip,_,k,Q,hK=>λst a w G ν hr h=>wp_skip (hK .normal st a w G ν hr h)
 | .exit id,_,k,Q,hK=>λst a w G ν hr h=>wp_exit (hK (.exit id) st a w G ν hr h)
 | .ret,_,k,Q,hK=>λst a w G ν hr h=>wp_ret (hK .ret st a w G ν hr h)
 | .region id ops draw,aJ,k,Q,hK=>λst a w G ν hr h=>by
  have ii:WrF w0 F nt G0 (λaf=>match Wel (ann id) af with|some (c,ci)=>bif c then k .normal ci else none|none=>none) r (Q .normal):=λaf a' w' G' ν' bL h'=>by
   simp only at h';split at h'
   .rename_i c ci hg;obtain⟨rfl,h'⟩:=WaY h';obtain⟨G2,ν2,ip⟩:=Wdz _ _ _ _ _ bL hg;exact hK .normal _ _ _ _ _ ip h'
   .cases h'
  have ss:∀o∈ops,∀d,o.dst=some d->nt.Ok d:=λo ho=>WoF hn ju (Xac.1 aJ o (by simpa using ho));cases draw with
  |true=>exact Wt0 hM hT hΓ ss ii st a w G ν hr h
  |false=>exact wp_region_list (WuO hT hΓ ops.toList (λo ho=>ss o (by simpa using ho)) ii st a w G ν hr h)
 | .seq x y,aJ,k,Q,hK=>λst a w G ν hr h=>by
  simp only[Wdx,Xi]at aJ;refine wp_seq (WoK hM hT hΓ hn ju x aJ.1 (Q:=Exit.then (y.wp P Q) Q) (λe=>?_) st a w G ν hr h);cases e with
  |normal=>exact WoK hM hT hΓ hn ju y aJ.2 hK
  |exit id=>exact hK (.exit id)
  |ret=>exact hK .ret
 | .cond c x y,aJ,k,Q,hK=>λst a w G ν hr h=>by
  simp only[Wdx,Xi]at aJ;simp only[sx]at h;split at h
  .rename_i b hb;cases hv:ev st c with
   |none=>simp[hv]at hb
   |some v=>
    simp only[hv,Xd]at hb;have hc:=WnP v _ b (WR hr c v hv) hb;refine wp_cond hc ?_;cases b with
    |true=>exact WoK hM hT hΓ hn ju x aJ.1 hK st a w G ν hr h
    |false=>exact WoK hM hT hΓ hn ju y aJ.2 hK st a w G ν hr h
  .cases h
 | .block id c,aJ,k,Q,hK=>λst a w G ν hr h=>by
  simp only[Wdx]at aJ;refine wp_block (WoK hM hT hΓ hn ju c aJ (Q:=Exit.inBlock id Q) (λe=>?_) st a w G ν hr h);cases e with
  |normal=>exact hK .normal
  |exit bK=>
   intro af a' w' G' ν' bL h';simp only[Ex.to,Exit.inBlock];split
   .rename_i he;simp only[he,Wav]at h';exact hK .normal _ _ _ _ _ bL h'
   .rename_i he;simp only[he,Waw]at h';exact hK (.exit bK) _ _ _ _ _ bL h'
  |ret=>exact hK .ret
 | .loop c,aJ,k,Q,hK=>λst a w G ν hr h=>by
  simp only[Wdx]at aJ;refine wp_loop_rounds N ?_;have key:∀(m:Nat),WrF w0 F nt G0 (λst=>Wol (Wjy (ann (Wf5 c)) λst k=>sx T Γ ann N c st k) m st k) r (Code.rounds P c Q m):=by
   intro m
   induction m with
   |zero=>intro st a w G ν hr h;cases h
   |succ m ih=>
    intro st a w G ν hr h;rw[rounds_succ];have h:sx T Γ ann N c st (λe af=>match e with
     | .normal=>match Wel (ann (Wf5 c)) af with
      |some (b,ci)=>bif b then Wol (Wjy (ann (Wf5 c)) λst k=>sx T Γ ann N c st k) m ci k else none
      |none=>none
     | .exit id=>k (.exit id) af
     | .ret=>k .ret af)=some r:=by
     rw[←h];simp only[Wol,Wjy];congr 1
    refine WoK hM hT hΓ hn ju c aJ (Q:=Exit.then (Code.rounds P c Q m) Q) (λe=>?_) st a w G ν hr h;cases e with
    |normal=>
     intro af a' w' G' ν' bL h';simp only at h';split at h'
     .rename_i b ci hg;obtain⟨rfl,h'⟩:=WaY h';obtain⟨G2,ν2,ip⟩:=Wdz _ _ _ _ _ bL hg;exact ih _ _ _ _ _ ip h'
     .cases h'
    |exit id=>exact hK (.exit id)
    |ret=>exact hK .ret
  have h:(match Wel (ann (Wf5 c)) st with
   |some (b,af)=>bif b then Wol (Wjy (ann (Wf5 c)) λst k=>sx T Γ ann N c st k) N af k else none
   |none=>none)=some r:=h
  split at h
  .rename_i b af hg;obtain⟨rfl,h⟩:=WaY h;obtain⟨G2,ν2,ip⟩:=Wdz _ _ _ _ _ hr hg;exact key N _ _ _ _ _ ip h
  .cases h
 | .scope ..,_,k,Q,hK=>λst a w G ν hr h=>by cases h
 | .label ..,_,k,Q,hK=>λst a w G ν hr h=>by cases h
 | .goto ..,_,k,Q,hK=>λst a w G ν hr h=>by cases h
 | .rangeFunc ..,_,k,Q,hK=>λst a w G ν hr h=>by cases h
 | .refuse ..,_,k,Q,hK=>λst a w G ν hr h=>by cases h
end
end Go.Sx
namespace Go.Sx
set_option linter.unusedVariables false
set_option linter.unusedSimpArgs false
section
variable{w0:World}{F:CS}{nt:Slots}{G0 G G':GH}{ν:Nat->Nu}{φ:Nat->CS}{objs:Waj}{nx ai:Nat}{st af:St}{a:Act}{w w':World}{P:Program}{T:Tab}{Γ:Ctx}
theorem WhE:∀(xs:List AVal) (j i:Nat),look (Whb j xs) i=if j<=i then xs[i-j]? else none
 | [],j,i=>by simp[Whb,look]
 |x::xs,j,i=>by
  simp only[Whb];rw[WH,WhE xs (j+1) i];by_cases h:j=i
  .subst h;simp
  .by_cases h2:j<=i
   .have h3:j+1<=i:=by omega
    rw[Wa h,Wb h3,Wb h2,show i-j=(i-(j+1))+1 by omega];rfl
   .rw[Wa h,Wa h2,Wa (by omega)]
theorem Wj7:∀(l:List Nat),WsR (Wko l)=l
 | []=>rfl
 |i::l=>by
  show i::WsR (Wko l)=i::l;rw[Wj7 l]
theorem WjS:∀(ps:List PTy) (d:WfA ps) (objs:Waj) (nx n:Nat),Wkd ps n=true->∃ids,ids.length=n/\(WU ps d objs nx).1.take n=Wko ids
 |_,_,_,_,0,_=>⟨[],rfl,rfl⟩
 | [],_,_,_,_+1,h=>by cases h
 | .v _ _::_,_,_,_,_+1,h=>by cases h
 | .mut _::_,_,_,_,_+1,h=>by cases h
 | .clos _ _::_,_,_,_,_+1,h=>by cases h
 | .kv _ _::_,_,_,_,_+1,h=>by cases h
 | .rp _::_,_,_,_,_+1,h=>by cases h
 | .vj _::_,_,_,_,_+1,h=>by cases h
 | .boxal _ _::_,_,_,_,_+1,h=>by cases h
 | .box t::ps,d,objs,nx,n+1,h=>by
  obtain⟨ids,h1,h2⟩:=WjS ps d.2 ((nx,.box (unfold t d.1 (nx+1)).1)::((unfold t d.1 (nx+1)).2.1++objs)) (unfold t d.1 (nx+1)).2.2 n h;refine⟨nx::ids,by simp[h1],?_⟩;simp only[WU,List.take_succ_cons,h2];rfl
theorem Wcr:∀(ps:List PTy) (d:WfA ps) (vs:List Value) (ns:List Pc) (ks:List Nu) (objs:Waj) (nx ai:Nat),WcC ps=true->Wbw G w ps d vs ns ks->At ν φ nx ns->nx+ns.length<=ai->
  (WU ps d objs nx).2.2=nx+ns.length/\
  (∀id ob,look (WU ps d objs nx).2.1 id=some ob->(nx<=id/\id<nx+ns.length/\WcG G ν ai w id (φ id) ob)\/look objs id=some ob)/\
  (WU ps d objs nx).1.length=vs.length/\∀(j:Nat) (x:AVal) (v:Value),(WU ps d objs nx).1[j]?=some x->vs[j]?=some v->AValRel G ν ai x v
 | [],d,vs,ns,ks,objs,nx,ai,_,⟨h1,h2,h3⟩,_,_=>by
  subst h1 h2;exact⟨rfl,λid ob h=>.inr h,rfl,λj x v h=>by simp[WU]at h⟩
 | .v t agg::ps,d,vs,ns,ks,objs,nx,ai,eP,⟨v,vs',n1,n2,h1,h2,h3,h4⟩,hν,hx=>by
  subst h2;obtain⟨us,jM⟩:=Wob h3;have bc:=W9 _ _ _ _ jM;have hlen:(n1++n2).length=t.owns+n2.length:=by rw[Xz,bc]
  obtain⟨_,o1⟩:=WaA t d.1 nx us n1 jM hν.left;obtain⟨e1,e2,e3,e4⟩:=Wcr ps d.2 vs' n2 ks ((unfold t d.1 nx).2.1++objs) (nx+t.owns) ai eP h4 (hν.right bc) (by omega);simp only[WU,WaZ];refine⟨by rw[e1,hlen];omega,λid ob hl=>?_,by rw[h1];simp[e3],λj x u hj hu=>?_⟩
  .rcases e2 id ob hl with⟨g1,g2,g3⟩|g
   .exact .inl ⟨by omega,by omega,g3⟩
   .rcases WP g with g|g
    .obtain⟨g1,g2,e,xs,rfl,g3⟩:=o1 id ob g;exact .inl ⟨g1,by omega,g3⟩
    .exact .inr g
  .rw[h1]at hu;cases j with
   |zero=>simp at hj hu;subst hj hu;exact Wkv h3 hν.left (by omega)
   |succ j=>exact e4 j x u (by simpa using hj) (by simpa using hu)
 | .kv t agg::ps,d,vs,ns,ks,objs,nx,ai,eP,⟨v,vs',n1,n2,ks',h1,h2,_,h3,h4⟩,hν,hx=>by
  subst h2;obtain⟨us,jM⟩:=Wob h3;have bc:=W9 _ _ _ _ jM;have hlen:(n1++n2).length=t.owns+n2.length:=by rw[Xz,bc]
  obtain⟨_,o1⟩:=WaA t d.1 nx us n1 jM hν.left;obtain⟨e1,e2,e3,e4⟩:=Wcr ps d.2 vs' n2 ks' ((unfold t d.1 nx).2.1++objs) (nx+t.owns) ai eP h4 (hν.right bc) (by omega);simp only[WU,WaZ];refine⟨by rw[e1,hlen];omega,λid ob hl=>?_,by rw[h1];simp[e3],λj x u hj hu=>?_⟩
  .rcases e2 id ob hl with⟨g1,g2,g3⟩|g
   .exact .inl ⟨by omega,by omega,g3⟩
   .rcases WP g with g|g
    .obtain⟨g1,g2,e,xs,rfl,g3⟩:=o1 id ob g;exact .inl ⟨g1,by omega,g3⟩
    .exact .inr g
  .rw[h1]at hu;cases j with
   |zero=>simp at hj hu;subst hj hu;exact Wkv h3 hν.left (by omega)
   |succ j=>exact e4 j x u (by simpa using hj) (by simpa using hu)
 | .box t::ps,d,vs,ns,ks,objs,nx,ai,eP,⟨b,o,vs',n1,n2,ks',h1,h2,h3,⟨us,hrow,hmem,gR⟩,h6⟩,hν,hx=>by
  subst h2;have bc:=W9 _ _ _ _ gR;have hlen:((⟨Wcb b o,rng b o t.size⟩:Pc)::(n1++n2)).length=1+t.owns+n2.length:=by rw[Xs,Xz,bc];omega
  obtain⟨hν0,hφ0⟩:ν nx=Wcb b o/\φ nx=rng b o t.size:=by have:=hν 0 _ rfl;simpa using this
  have hν1:At ν φ (nx+1) (n1++n2):=hν.right (n1:=[⟨Wcb b o,rng b o t.size⟩]) rfl;obtain⟨c1,o1⟩:=WaA t d.1 (nx+1) us n1 gR hν1.left;have cI:=Wcj t d.1 (nx+1);obtain⟨e1,e2,e3,e4⟩:=Wcr ps d.2 vs' n2 ks' ((nx,.box (unfold t d.1 (nx+1)).1)::((unfold t d.1 (nx+1)).2.1++objs)) (nx+1+t.owns) ai eP h6 (hν1.right bc) (by omega);simp only[WU,WaZ];refine⟨by rw[e1,hlen];omega,λid ob hl=>?_,by rw[h1];simp[e3],λj x u hj hu=>?_⟩
  .rcases e2 id ob hl with⟨g1,g2,g3⟩|g
   .exact .inl ⟨by omega,by omega,g3⟩
   .rw[WH]at g;split at g
    .rename_i e;subst e;injection g with g;subst g;exact .inl ⟨Xn _,by omega,b,us,by rw[hν0];rfl,by rw[hν0,cI];exact hrow,by rw[hν0];exact hmem,c1 ai (by omega),by rw[hν0,cI,hφ0];exactλ_ _ hh=>hh⟩
    .rcases WP g with g|g
     .obtain⟨g1,g2,e,xs,rfl,g3⟩:=o1 id ob g;exact .inl ⟨by omega,by omega,g3⟩
     .exact .inr g
  .rw[h1]at hu;cases j with
   |zero=>
    simp at hj hu;subst hj hu;exact⟨⟨by omega,b,by rw[hν0];rfl,by rw[hν0];rfl⟩,rfl⟩
   |succ j=>exact e4 j x u (by simpa using hj) (by simpa using hu)
 | .vj _::_,_,_,_,_,_,_,_,_,h,_,_=>h.elim
 | .boxal t lf::ps,d,vs,ns,ks,objs,nx,ai,eP,⟨b,o,b',pc,vs',n1,n2,ks',h1,h2,h3,⟨us,hrow,hmem,gR⟩,h4,h5,h7,h6⟩,hν,hx=>by
  subst h2;have bc:=W9 _ _ _ _ gR;have hlen:((⟨Wcb b o,rng b o t.size⟩:Pc)::(n1++n2)).length=1+t.owns+n2.length:=by rw[Xs,Xz,bc];omega
  obtain⟨hν0,hφ0⟩:ν nx=Wcb b o/\φ nx=rng b o t.size:=by have:=hν 0 _ rfl;simpa using this
  have hν1:At ν φ (nx+1) (n1++n2):=hν.right (n1:=[⟨Wcb b o,rng b o t.size⟩]) rfl;obtain⟨c1,o1⟩:=WaA t d.1 (nx+1) us n1 gR hν1.left;have cI:=Wcj t d.1 (nx+1);have xI:lf<n1.length:=(Xad.1 h4).1;have hνl:ν (nx+1+lf)=pc.nu:=(hν1.left lf pc h4).1;obtain⟨e1,e2,e3,e4⟩:=Wcr ps d.2.2 vs' n2 ks' ((nx,.box (unfold t d.1 (nx+1)).1)::((unfold t d.1 (nx+1)).2.1++objs)) (nx+1+t.owns) ai eP h6 (hν1.right bc) (by omega);simp only[WU,WaZ];refine⟨by rw[e1,hlen];omega,λid ob hl=>?_,by rw[h1];simp[e3],λj x u hj hu=>?_⟩
  .rcases e2 id ob hl with⟨g1,g2,g3⟩|g
   .exact .inl ⟨by omega,by omega,g3⟩
   .rw[WH]at g;split at g
    .rename_i e;subst e;injection g with g;subst g;exact .inl ⟨Xn _,by omega,b,us,by rw[hν0];rfl,by rw[hν0,cI];exact hrow,by rw[hν0];exact hmem,c1 ai (by omega),by rw[hν0,cI,hφ0];exactλ_ _ hh=>hh⟩
    .rcases WP g with g|g
     .obtain⟨g1,g2,e,xs,rfl,g3⟩:=o1 id ob g;exact .inl ⟨by omega,by omega,g3⟩
     .exact .inr g
  .rw[h1]at hu
   match j with
   |0=>
    simp at hj hu;subst hj hu;exact⟨⟨by omega,b,by rw[hν0];rfl,by rw[hν0];rfl⟩,rfl⟩
   |1=>
    simp at hj hu;subst hj hu;exact⟨⟨by omega,by rw[hνl];exact h7,b',by rw[hνl];exact h5,by rw[hνl];rfl⟩,rfl⟩
   |j+2=>exact e4 j x u (by simpa using hj) (by simpa using hu)
 | .rp t::ps,d,vs,ns,ks,objs,nx,ai,eP,⟨b,o,us,vs',h1,h2,h3,h4⟩,hν,hx=>by
  obtain⟨e1,e2,e3,e4⟩:=Wcr ps d.2 vs' ns ks objs nx ai eP h4 hν hx;simp only[WU];refine⟨e1,e2,by rw[h1];simp[e3],λj x u hj hu=>?_⟩;rw[h1]at hu;cases j with
  |zero=>
   simp at hj hu;subst hj hu;exact⟨⟨b,o,us,by rw[Xax],h2,h3⟩,rfl⟩
  |succ j=>exact e4 j x u (by simpa using hj) (by simpa using hu)
 | .mut e::ps,d,vs,ns,ks,objs,nx,ai,eP,⟨pc,vs',n2,ks',h1,h2,h3,h4,h5⟩,hν,hx=>by
  subst h2;have hlen:(pc::n2).length=1+n2.length:=by rw[Xs];omega
  obtain⟨hν0,hφ0⟩:ν nx=pc.nu/\φ nx=pc.fp:=by have:=hν 0 _ rfl;simpa using this
  obtain⟨e1,e2,e3,e4⟩:=Wcr ps d.2 vs' n2 ks' ((nx,.arr e d.1)::objs) (nx+1) ai eP h5 (hν.right (n1:=[pc]) rfl) (by omega);simp only[WU];refine⟨by rw[e1,hlen];omega,λid ob hl=>?_,by rw[h1];simp[e3],λj x u hj hu=>?_⟩
  .rcases e2 id ob hl with⟨g1,g2,g3⟩|g
   .exact .inl ⟨by omega,by omega,g3⟩
   .rw[WH]at g;split at g
    .rename_i e;subst e;injection g with g;subst g;refine .inl ⟨Xn _,by omega,?_⟩;show OwnL w (TyRel G w _) _ (ν nx) d.1 (φ nx);rw[hν0,hφ0];exact h4
    .exact .inr g
  .rw[h1]at hu;cases j with
   |zero=>
    simp at hj hu;subst hj hu;exact⟨⟨by omega,by rw[hν0]⟩,WiY _⟩
   |succ j=>exact e4 j x u (by simpa using hj) (by simpa using hu)
 | .clos g n::ps,d,vs,ns,ks,objs,nx,ai,eP,⟨cvs,vs',h1,h2,h3,h4⟩,hν,hx=>by
  simp only[WcC,Xi]at eP;obtain⟨e1,e2,e3,e4⟩:=Wcr ps d (cvs++vs') ns ks objs nx ai eP.2 h4 hν hx;obtain⟨ids,g1,g2⟩:=WjS ps d objs nx n eP.1;simp only[WU];rw[g2,Wj7];have hlen:(WU ps d objs nx).1.length=n+vs'.length:=by rw[e3,Xz,h2]
  have jv:∀(j id:Nat),ids[j]?=some id->(WU ps d objs nx).1[j]?=some (AVal.s (.one (.ptr id 0))):=λj id hj=>by
   have hlt:j<n:=by rw[←g1];exact(Xad.1 hj).1
   have:((WU ps d objs nx).1.take n)[j]?=some (.s (.one (.ptr id 0))):=by rw[g2];simp[Wko,hj]
   rw[List.getElem?_take,Wb hlt]at this;exact this
  refine⟨e1,e2,by rw[h1];simp[hlen],λj x u hj hu=>?_⟩;rw[h1]at hu;cases j with
  |zero=>
   simp at hj hu;subst hj hu;refine⟨⟨cvs,rfl,by rw[h2,g1],λj id u hj hu=>?_⟩,rfl⟩;have hlt:j<cvs.length:=(Xad.1 hu).1;obtain⟨⟨q1,q2⟩,q3⟩:=e4 j _ u (jv j id hj) (by rw[List.getElem?_append_left hlt];exact hu);exact⟨q1,q3,q2⟩
  |succ j=>
   have hj':(WU ps d objs nx).1[n+j]?=some x:=by
    rw[←List.getElem?_drop];simpa using hj
   exact e4 (n+j) x u hj' (by rw[Xce (by omega),h2,Xcc];simpa using hu)
theorem Wdn:∀(ps:List PTy) (d:WfA ps) (vs:List Value) (ns:List Pc) (ks:List Nu),Wbw G w ps d vs ns ks->vs.length<=WbZ ps
 | [],d,vs,ns,ks,⟨h1,_,_⟩=>by rw[h1];exact Xn _
 | .v t agg::ps,d,vs,ns,ks,⟨v,vs',n1,n2,h1,h2,h3,h4⟩=>by rw[h1,Xs];have:=Wdn ps _ _ _ _ h4;simp only[WbZ];omega
 | .box t::ps,d,vs,ns,ks,⟨b,o,vs',n1,n2,ks',h1,h2,h3,h4,h6⟩=>by rw[h1,Xs];have:=Wdn ps _ _ _ _ h6;simp only[WbZ];omega
 | .mut e::ps,d,vs,ns,ks,⟨pc,vs',n2,ks',h1,h2,h3,h4,h5⟩=>by rw[h1,Xs];have:=Wdn ps _ _ _ _ h5;simp only[WbZ];omega
 | .clos g n::ps,d,vs,ns,ks,⟨cvs,vs',h1,h2,h3,h4⟩=>by rw[h1,Xs];have:=Wdn ps _ _ _ _ h4;simp at this;simp only[WbZ];omega
 | .kv t agg::ps,d,vs,ns,ks,⟨v,vs',n1,n2,ks',h1,h2,jN,h3,h4⟩=>by rw[h1,Xs];have:=Wdn ps _ _ _ _ h4;simp only[WbZ];omega
 | .rp t::ps,d,vs,ns,ks,⟨b,o,us,vs',h1,h2,h3,h4⟩=>by rw[h1,Xs];have:=Wdn ps _ _ _ _ h4;simp only[WbZ];omega
 | .vj _::_,_,_,_,_,h=>h.elim
 | .boxal t lf::ps,d,vs,ns,ks,⟨b,o,b',pc,vs',n1,n2,ks',h1,h2,h3,h4,h5,h6,h7,h8⟩=>by rw[h1,Xs,Xs];have:=Wdn ps _ _ _ _ h8;simp only[WbZ];omega
def Wn1(i:Nat)(vs:List Value):List (Nat×Value):=match vs with
 |v::_=>[(i,v)]
 | []=>[]
def WK:List PTy->Nat->Nat->List Value->List (Nat×Value)
 | [],_,_,_=>[]
 |_::ps,i,k+1,vs=>WK ps i k vs
 | .v _ _::ps,i,0,vs=>WK ps (i+1) 0 vs.tail
 | .box _::ps,i,0,vs=>Wn1 i vs++WK ps (i+1) 0 vs.tail
 | .mut _::ps,i,0,vs=>Wn1 i vs++WK ps (i+1) 0 vs.tail
 | .clos _ n::ps,i,0,vs=>Wn1 i vs++WK ps (i+1) n vs.tail
 | .kv _ _::ps,i,0,vs=>Wn1 i vs++WK ps (i+1) 0 vs.tail
 | .rp _::ps,i,0,vs=>WK ps (i+1) 0 vs.tail
 | .vj _::ps,i,0,vs=>WK ps (i+1) 0 vs.tail
 | .boxal _ _::ps,i,0,vs=>Wn1 i vs++WK ps (i+2) 0 vs.tail.tail
theorem Wbz{i:Nat}{vs:List Value}{p:Nat×Value}(h:p∈Wn1 i vs):p.1=i/\vs[0]?=some p.2:=by
 unfold Wn1 at h;split at h
 .simp at h;subst h;exact⟨rfl,rfl⟩
 .cases h
theorem WY:∀(ps:List PTy) (i k:Nat) (vs:List Value),∀p∈WK ps i k vs,p.1∈Wem ps i k
 | [],_,_,_,p,h=>by simp[WK]at h
 | .v _ _::ps,i,k+1,vs,p,h=>WY ps i k vs p h
 | .box _::ps,i,k+1,vs,p,h=>WY ps i k vs p h
 | .mut _::ps,i,k+1,vs,p,h=>WY ps i k vs p h
 | .clos _ _::ps,i,k+1,vs,p,h=>WY ps i k vs p h
 | .v _ _::ps,i,0,vs,p,h=>WY ps (i+1) 0 vs.tail p h
 | .box _::ps,i,0,vs,p,h=>by
  simp only[WK]at h;rcases Xm.1 h with h|h
  .rw[(Wbz h).1];exact Xh ..
  .exact Xe _ (WY ps (i+1) 0 vs.tail p h)
 | .mut _::ps,i,0,vs,p,h=>by
  simp only[WK]at h;rcases Xm.1 h with h|h
  .rw[(Wbz h).1];exact Xh ..
  .exact Xe _ (WY ps (i+1) 0 vs.tail p h)
 | .clos _ n::ps,i,0,vs,p,h=>by
  simp only[WK]at h;rcases Xm.1 h with h|h
  .rw[(Wbz h).1];exact Xh ..
  .exact Xe _ (WY ps (i+1) n vs.tail p h)
 | .kv _ _::ps,i,k+1,vs,p,h=>WY ps i k vs p h
 | .kv _ _::ps,i,0,vs,p,h=>by
  simp only[WK]at h;rcases Xm.1 h with h|h
  .rw[(Wbz h).1];exact Xh ..
  .exact Xe _ (WY ps (i+1) 0 vs.tail p h)
 | .rp _::ps,i,k+1,vs,p,h=>WY ps i k vs p h
 | .rp _::ps,i,0,vs,p,h=>WY ps (i+1) 0 vs.tail p h
 | .vj _::ps,i,k+1,vs,p,h=>WY ps i k vs p h
 | .vj _::ps,i,0,vs,p,h=>WY ps (i+1) 0 vs.tail p h
 | .boxal _ _::ps,i,k+1,vs,p,h=>WY ps i k vs p h
 | .boxal _ _::ps,i,0,vs,p,h=>by
  simp only[WK]at h;rcases Xm.1 h with h|h
  .rw[(Wbz h).1];exact Xh ..
  .exact Xe _ (WY ps (i+2) 0 vs.tail.tail p h)
theorem WS:∀(ps:List PTy) (i k:Nat) (vs:List Value),∀p∈WK ps i k vs,i<=p.1/\vs[p.1-i]?=some p.2
 | [],_,_,_,p,h=>by simp[WK]at h
 | .v _ _::ps,i,k+1,vs,p,h=>WS ps i k vs p h
 | .box _::ps,i,k+1,vs,p,h=>WS ps i k vs p h
 | .mut _::ps,i,k+1,vs,p,h=>WS ps i k vs p h
 | .clos _ _::ps,i,k+1,vs,p,h=>WS ps i k vs p h
 | .v _ _::ps,i,0,vs,p,h=>by
  obtain⟨h1,h2⟩:=WS ps (i+1) 0 vs.tail p h;refine⟨by omega,?_⟩;rw[show p.1-i=(p.1-(i+1))+1 by omega,←Xcb];exact h2
 | .box _::ps,i,0,vs,p,h=>by
  simp only[WK]at h;rcases Xm.1 h with h|h
  .obtain⟨h1,h2⟩:=Wbz h;rw[h1];exact⟨Xn _,by rw[Xcv];exact h2⟩
  .obtain⟨h1,h2⟩:=WS ps (i+1) 0 vs.tail p h;refine⟨by omega,?_⟩;rw[show p.1-i=(p.1-(i+1))+1 by omega,←Xcb];exact h2
 | .mut _::ps,i,0,vs,p,h=>by
  simp only[WK]at h;rcases Xm.1 h with h|h
  .obtain⟨h1,h2⟩:=Wbz h;rw[h1];exact⟨Xn _,by rw[Xcv];exact h2⟩
  .obtain⟨h1,h2⟩:=WS ps (i+1) 0 vs.tail p h;refine⟨by omega,?_⟩;rw[show p.1-i=(p.1-(i+1))+1 by omega,←Xcb];exact h2
 | .clos _ n::ps,i,0,vs,p,h=>by
  simp only[WK]at h;rcases Xm.1 h with h|h
  .obtain⟨h1,h2⟩:=Wbz h;rw[h1];exact⟨Xn _,by rw[Xcv];exact h2⟩
  .obtain⟨h1,h2⟩:=WS ps (i+1) n vs.tail p h;refine⟨by omega,?_⟩;rw[show p.1-i=(p.1-(i+1))+1 by omega,←Xcb];exact h2
 | .kv _ _::ps,i,k+1,vs,p,h=>WS ps i k vs p h
 | .kv _ _::ps,i,0,vs,p,h=>by
  simp only[WK]at h;rcases Xm.1 h with h|h
  .obtain⟨h1,h2⟩:=Wbz h;rw[h1];exact⟨Xn _,by rw[Xcv];exact h2⟩
  .obtain⟨h1,h2⟩:=WS ps (i+1) 0 vs.tail p h;refine⟨by omega,?_⟩;rw[show p.1-i=(p.1-(i+1))+1 by omega,←Xcb];exact h2
 | .rp _::ps,i,k+1,vs,p,h=>WS ps i k vs p h
 | .rp _::ps,i,0,vs,p,h=>by
  obtain⟨h1,h2⟩:=WS ps (i+1) 0 vs.tail p h;refine⟨by omega,?_⟩;rw[show p.1-i=(p.1-(i+1))+1 by omega,←Xcb];exact h2
 | .vj _::ps,i,k+1,vs,p,h=>WS ps i k vs p h
 | .vj _::ps,i,0,vs,p,h=>by
  obtain⟨h1,h2⟩:=WS ps (i+1) 0 vs.tail p h;refine⟨by omega,?_⟩;rw[show p.1-i=(p.1-(i+1))+1 by omega,←Xcb];exact h2
 | .boxal _ _::ps,i,k+1,vs,p,h=>WS ps i k vs p h
 | .boxal _ _::ps,i,0,vs,p,h=>by
  simp only[WK]at h;rcases Xm.1 h with h|h
  .obtain⟨h1,h2⟩:=Wbz h;rw[h1];exact⟨Xn _,by rw[Xcv];exact h2⟩
  .obtain⟨h1,h2⟩:=WS ps (i+2) 0 vs.tail.tail p h;refine⟨by omega,?_⟩;rw[show p.1-i=(p.1-(i+2))+1+1 by omega,←Xcb,←Xcb];exact h2
def WmF(tmps:Array Value):ResultVar->Sem Value
 | .tmp t=>pure (tmps.getD t undef)
 | .cell b t=>do loadVar t (←asAddr (tmps.getD b undef))
theorem Wln(hT:Wao P T)(hr:Rel w0 F nt G0 G ν st a w):∀(l:List ResultVar) (xs:List AVal),We0 T st l=some xs->
  ∃vs:List Value,(l.mapM (WmF a.tmps)).run P w= .ok vs w/\vs.length=xs.length/\
   ∀(j:Nat) (x:AVal) (v:Value),xs[j]?=some x->vs[j]?=some v->AValRel G ν st.nx x v
 | [],xs,h=>by
  simp only[We0]at h;injection h with h;subst h;exact⟨[],by simp,rfl,λj x v hj=>by simp at hj⟩
 | .tmp t::l,xs,h=>by
  simp only[We0]at h;split at h
  .rename_i x ur h1 h2;injection h with h;subst h;obtain⟨vs,h3,h4,h5⟩:=Wln hT hr l ur h2;obtain⟨v,hv,hx⟩:=hr.env t x h1;refine⟨v::vs,?_,by simp[h4],λj y u hj hu=>?_⟩
   .have bt:a.tmps.getD t undef=v:=by simp[Xcm,hv]
    simp only[Xfb,Sem.run_bind,WmF,Sem.run_pure,Result.andThen_ok,h3,bt]
   .cases j with
    |zero=>simp at hj hu;subst hj hu;exact hx
    |succ j=>exact h5 j y u (by simpa using hj) (by simpa using hu)
  .cases h
 | .cell b t::l,xs,h=>by
  simp only[We0]at h;split at h
  .rename_i x ur h1 h2;injection h with h;subst h;obtain⟨vs,h3,h4,h5⟩:=Wln hT hr l ur h2;cases hb:look st.env b with
   |none=>simp[hb]at h1
   |some y=>
    simp only[hb,Xd]at h1;obtain⟨v,hv,hx⟩:=hr.env b y hb;obtain⟨u,hu,vF⟩:=Whr hT hr.h hx h1;refine⟨u::vs,?_,by simp[h4],λj z q hj hq=>?_⟩
    .have bt:a.tmps.getD b undef=v:=by simp[Xcm,hv]
     unfold Instr.loadAt at hu;rw[Sem.run_bind]at hu;obtain⟨p,rfl⟩:∃p,v= .pointer (some p):=by
      unfold Instr.sureAddr at hu;split at hu
      .exact⟨_,rfl⟩
      .simp[stuck]at hu
     simp only[Instr.sureAddr,Sem.run_pure,Result.andThen_ok]at hu;have ha:(asAddr (.pointer (some p))).run P w= .ok p w:=rfl;simp only[Xfb,Sem.run_bind,WmF,Sem.run_pure,Result.andThen_ok,bt,ha,hu,h3]
    .cases j with
     |zero=>simp at hj hq;subst hj hq;exact vF
     |succ j=>exact h5 j z q (by simpa using hj) (by simpa using hq)
  .cases h
theorem Wef(h:HR w0 F G ν φ objs nx w)(hg:GLe G G'):∀(rs:List PTy) (xs:List AVal) (vs:List Value) (A:Outs (Whd rs)),vs.length=xs.length->
  (∀(j:Nat) (x:AVal) (v:Value),xs[j]?=some x->vs[j]?=some v->AValRel G ν nx x v)->Lent G' w φ objs A.lent->A.moved.Nodup->Wbk rs xs objs=some A->
  ∃ns,Wgt G' w rs A.d vs ns/\Sep (fps ns)/\(∀q∈ns,CS.le q.fp (FromL φ objs A.moved))/\(∀i∈A.moved,Live objs i)
 | [],xs,vs,A,hlen,hx,hl,aP,hf=>by
  simp only[Wbk]at hf;split at hf
  .injection hf with hf;subst hf;have fw:vs= []:=Xaa (by simpa using hlen);exact⟨[],⟨fw,rfl⟩,List.Pairwise.nil,by simp,by simp⟩
  .cases hf
 | .v t agg::rs,xs,vs,A,hlen,hx,hl,aP,hf=>by
  simp only[Wbk]at hf;split at hf
  .rename_i x xs;split at hf
   .rename_i d m l A' h1 h2;injection hf with hf;subst hf
    match vs,hlen with
    |v::vs,hlen=>
     cases hc:cellsOf agg x with
     |none=>simp[hc]at h1
     |some cs=>
      simp[hc]at h1;obtain⟨k1,k2,k3⟩:=Xaj.1 aP;obtain⟨n1,g1,g2,g3,g4,_⟩:=WkH h hg (hx 0 x v rfl rfl) (hl.mono (λi hi=>Xk _ hi)) k1 hc h1;obtain⟨n2,g5,g6,g7,g8⟩:=Wef h hg rs xs vs A' (by simpa using hlen) (λj y u hj hu=>hx (j+1) y u (by simpa using hj) (by simpa using hu)) (hl.mono (λi hi=>Xg _ hi)) k2 h2;refine⟨n1++n2,⟨v,vs,n1,n2,rfl,rfl,g1,g5⟩,Wcp h g2 g6 g3 g7 (λi hi hj=>k3 i hi i hj rfl),λq hq=>?_,λi hi=>?_⟩
      .rcases Xm.1 hq with hq|hq
       .exactλb o hh=>FromL.mono (λi hi=>Xk _ hi) b o (g3 q hq b o hh)
       .exactλb o hh=>FromL.mono (λi hi=>Xg _ hi) b o (g7 q hq b o hh)
      .rcases Xm.1 hi with hi|hi
       .exact g4 i hi
       .exact g8 i hi
   .cases hf
  .cases hf
 | .box t::rs,xs,vs,A,hlen,hx,hl,aP,hf=>by
  simp only[Wbk]at hf;split at hf
  .rename_i id xs;split at hf
   .rename_i cs aS;split at hf
    .rename_i d m l A' h1 h2;injection hf with hf;subst hf
     match vs,hlen with
     |v::vs,hlen=>
      obtain⟨k0,k1⟩:=Xai.1 aP;obtain⟨k2,k3,k4⟩:=Xaj.1 k1;obtain⟨⟨_,b,hνb,rfl⟩,_⟩:=hx 0 _ v rfl rfl;have az:Live objs id:=⟨_,aS,by simp⟩;obtain⟨b'',us,mn,hrow,hmem,bB,eO⟩:WcG G ν nx w id (φ id) (.box cs):=h.ob _ _ aS;rw[hνb]at mn;injection mn with mn;subst mn;obtain⟨n1,g1,g2,g3,g4,_⟩:=Wak h hg t cs us d m l bB (hl.mono (λi hi=>Xk _ hi)) k2 h1;have cI:cs.length=t.size:=by rw[←bB.1];exact WF _ _ _ _ g1
      obtain⟨n2,g5,g6,g7,g8⟩:=Wef h hg rs xs vs A' (by simpa using hlen) (λj y u hj hu=>hx (j+1) y u (by simpa using hj) (by simpa using hu)) (hl.mono (λi hi=>Xg _ hi)) k3 h2;rw[cI]at hrow eO;refine⟨⟨Wcb b ((ν id).off+0),rng b ((ν id).off+0) t.size⟩::(n1++n2),⟨b,(ν id).off+0,vs,n1,n2,rfl,rfl,⟨us,hrow,hmem,g1⟩,g5⟩,?_,λq hq=>?_,λi hi=>?_⟩
      .refine Wcp h (n1:=[⟨Wcb b ((ν id).off+0),rng b ((ν id).off+0) t.size⟩]) (m:=[id]) (l:=m++A'.moved) (Xbc _ _) (Wcp h g2 g6 g3 g7 (λi hi hj=>k4 i hi i hj rfl)) (λq hq=>?_) (λq hq=>?_) (λi hi hj=>k0 (by rw[←Xaf.1 hi];exact hj))
       .rw[Xaf.1 hq];exactλb o hh=>⟨id,by simp,az,eO b o hh⟩
       .rcases Xm.1 hq with hq|hq
        .exactλb o hh=>FromL.mono (λi hi=>Xk _ hi) b o (g3 q hq b o hh)
        .exactλb o hh=>FromL.mono (λi hi=>Xg _ hi) b o (g7 q hq b o hh)
      .rcases Xr.1 hq with rfl|hq
       .exactλb o hh=>⟨id,by simp,az,eO b o hh⟩
       .rcases Xm.1 hq with hq|hq
        .exactλb o hh=>FromL.mono (λi hi=>Xe _ (Xk _ hi)) b o (g3 q hq b o hh)
        .exactλb o hh=>FromL.mono (λi hi=>Xe _ (Xg _ hi)) b o (g7 q hq b o hh)
      .rcases Xr.1 hi with rfl|hi
       .exact az
       .rcases Xm.1 hi with hi|hi
        .exact g4 i hi
        .exact g8 i hi
    .cases hf
   .cases hf
  .cases hf
 | .mut _::_,_,_,_,_,_,_,_,h=>by simp only[Wbk]at h;cases h
 | .clos _ _::_,_,_,_,_,_,_,_,h=>by simp only[Wbk]at h;cases h
 | .kv _ _::_,_,_,_,_,_,_,_,h=>by simp only[Wbk]at h;cases h
 | .rp _::_,_,_,_,_,_,_,_,h=>by simp only[Wbk]at h;cases h
 | .vj t::rs,xs,vs,A,hlen,hx,hl,aP,hf=>by
  simp only[Wbk]at hf;split at hf
  .rename_i cs xs;split at hf
   .rename_i hcl;split at hf
    .rename_i d m l A' h1 h2;injection hf with hf;subst hf
     match vs,hlen with
     |v::vs,hlen=>
      obtain⟨k1,k2,k3⟩:=Xaj.1 aP;obtain⟨us,rfl,bB⟩:=hx 0 _ v rfl rfl;obtain⟨n1,g1,g2,g3,g4,_⟩:=Wak h hg t (cs.take t.size) (us.take t.size) d m l (bB.take t.size) (hl.mono (λi hi=>Xk _ hi)) k1 h1;obtain⟨n2,g5,g6,g7,g8⟩:=Wef h hg rs xs vs A' (by simpa using hlen) (λj y u hj hu=>hx (j+1) y u (by simpa using hj) (by simpa using hu)) (hl.mono (λi hi=>Xg _ hi)) k2 h2;have cI:us.length=t.size+1:=by rw[bB.1,hcl]
      have hlt:t.size<us.length:=by omega
      have e0:us=us.take t.size++ [us[t.size]]:=by
       rw[←List.take_succ_eq_append_getElem hlt,Xdl (by omega)]
      have ho:=(bB.2 t.size (cs[t.size]'(by omega)) us[t.size] (Xq (by omega)) (Xq hlt)).2;refine⟨n1++n2,⟨us.take t.size,us[t.size],vs,n1,n2,by rw[←e0],ho,rfl,g1,g5⟩,Wcp h g2 g6 g3 g7 (λi hi hj=>k3 i hi i hj rfl),λq hq=>?_,λi hi=>?_⟩
      .rcases Xm.1 hq with hq|hq
       .exactλb o hh=>FromL.mono (λi hi=>Xk _ hi) b o (g3 q hq b o hh)
       .exactλb o hh=>FromL.mono (λi hi=>Xg _ hi) b o (g7 q hq b o hh)
      .rcases Xm.1 hi with hi|hi
       .exact g4 i hi
       .exact g8 i hi
    .cases hf
   .cases hf
  .cases hf
 | .boxal _ _::_,_,_,_,_,_,_,_,h=>by simp only[Wbk]at h;cases h
theorem Wos{p:PTy}{ps:List PTy}{k:Nat}(h:Wkd (p::ps) (k+1)=true):(∃t,p= .box t)/\Wkd ps k=true:=by
 cases p with
 |box t=>exact⟨⟨t,rfl⟩,h⟩
 |_=>cases h
theorem WgI(hr:Rel w0 F nt G0 G ν st a w){i:Nat}{u:Value}(hp:a.tmps[i]?=some u):(look st.env i).getD (.tup [])= .tup []\/AValRel G ν st.nx ((look st.env i).getD (.tup [])) u:=by
 cases he:look st.env i with
 |none=>exact .inl rfl
 |some y=>
  obtain⟨v,hv,hx⟩:=hr.env i y he;rw[hp]at hv;injection hv with hv;subst hv;exact .inr hx
theorem WaS{wb:World}{Gb:GH}(hr:Rel w0 F nt G0 G ν st a w):∀(ps:List PTy) (d:WfA ps) (vs:List Value) (ns:List Pc) (ks:List Nu) (i k:Nat),Wbw Gb wb ps d vs ns ks->WcC ps=true->Wkd ps k=true->k<=vs.length->
  (∀p∈WK ps i k (vs.drop k),a.tmps[p.1]?=some p.2)->(Wy ps i k st).length+k=vs.length/\
  ∀(j:Nat) (x:AVal) (v:Value),(Wy ps i k st)[j]?=some x->vs[k+j]?=some v->x= .tup []\/AValRel G ν st.nx x v
 | [],d,vs,ns,ks,i,k,⟨h1,_,_⟩,_,_,hk,_=>by
  subst h1;have:k=0:=by simpa using hk
  subst this;exact⟨rfl,λj x v hj=>by simp[Wy]at hj⟩
 |p::ps,d,vs,ns,ks,i,k+1,h,hc,hb,hk,hp=>by
  obtain⟨⟨t,rfl⟩,hb'⟩:=Wos hb;obtain⟨b,o,vs',n1,n2,ks',h1,h2,h3,h4,h6⟩:=h;subst h1;have hQ:WcC ps=true:=hc;obtain⟨e1,e2⟩:=WaS hr ps d.2 vs' n2 ks' i k h6 hQ hb' (by simpa using hk) (by simpa [WK]using hp);refine⟨by simp only[Wy,Xs];omega,λj x v hj hv=>e2 j x v (by simpa [Wy]using hj) ?_⟩;rw[show k+1+j=(k+j)+1 by omega]at hv;simpa using hv
 | .v t agg::ps,d,vs,ns,ks,i,0,⟨v,vs',n1,n2,h1,h2,h3,h4⟩,hc,_,_,hp=>by
  subst h1;obtain⟨e1,e2⟩:=WaS hr ps d.2 vs' n2 ks (i+1) 0 h4 hc (by cases ps<;>rfl) (Xbk _) (by simpa [WK]using hp);refine⟨by simp only[Wy,Xs];omega,λj x u hj hu=>?_⟩;cases j with
  |zero=>simp[Wy]at hj;exact .inl hj.symm
  |succ j=>exact e2 j x u (by simpa [Wy]using hj) (by simpa using hu)
 | .rp t::ps,d,vs,ns,ks,i,0,⟨b,o,us,vs',h1,h2,h3,h4⟩,hc,_,_,hp=>by
  subst h1;obtain⟨e1,e2⟩:=WaS hr ps d.2 vs' ns ks (i+1) 0 h4 hc (by cases ps<;>rfl) (Xbk _) (by simpa [WK]using hp);refine⟨by simp only[Wy,Xs];omega,λj x u hj hu=>?_⟩;cases j with
  |zero=>simp[Wy]at hj;exact .inl hj.symm
  |succ j=>exact e2 j x u (by simpa [Wy]using hj) (by simpa using hu)
 | .box t::ps,d,vs,ns,ks,i,0,⟨b,o,vs',n1,n2,ks',h1,h2,h3,h4,h6⟩,hc,_,_,hp=>by
  subst h1;simp only[WK,Xch,Xed]at hp;obtain⟨e1,e2⟩:=WaS hr ps d.2 vs' n2 ks' (i+1) 0 h6 hc (by cases ps<;>rfl) (Xbk _) (λp hP=>hp p (Xg _ (by simpa using hP)));refine⟨by simp only[Wy,Xs];omega,λj x u hj hu=>?_⟩;cases j with
  |zero=>
   simp[Wy]at hj hu;subst hj hu;exact WgI hr (hp (i,_) (Xk _ (Xh ..)))
  |succ j=>exact e2 j x u (by simpa [Wy]using hj) (by simpa using hu)
 | .vj _::_,_,_,_,_,_,_,h,_,_,_,_=>h.elim
 | .boxal t lf::ps,d,vs,ns,ks,i,0,⟨b,o,b',pc,vs',n1,n2,ks',h1,h2,h3,h4,h5,h6,h7,h8⟩,hc,_,_,hp=>by
  subst h1;simp only[WK,Xch,Xed]at hp;obtain⟨e1,e2⟩:=WaS hr ps d.2.2 vs' n2 ks' (i+2) 0 h8 hc (by cases ps<;>rfl) (Xbk _) (λp hP=>hp p (Xg _ (by simpa using hP)));refine⟨by simp only[Wy,Xs];omega,λj x u hj hu=>?_⟩
  match j with
  |0=>
   simp[Wy]at hj hu;subst hj hu;exact WgI hr (hp (i,_) (Xk _ (Xh ..)))
  |1=>simp[Wy]at hj;exact .inl hj.symm
  |j+2=>exact e2 j x u (by simpa [Wy]using hj) (by simpa using hu)
 | .mut e::ps,d,vs,ns,ks,i,0,⟨pc,vs',n2,ks',h1,h2,h3,h4,h5⟩,hc,_,_,hp=>by
  subst h1;simp only[WK,Xch,Xed]at hp;obtain⟨e1,e2⟩:=WaS hr ps d.2 vs' n2 ks' (i+1) 0 h5 hc (by cases ps<;>rfl) (Xbk _) (λp hP=>hp p (Xg _ (by simpa using hP)));refine⟨by simp only[Wy,Xs];omega,λj x u hj hu=>?_⟩;cases j with
  |zero=>
   simp[Wy]at hj hu;subst hj hu;exact WgI hr (hp (i,_) (Xk _ (Xh ..)))
  |succ j=>exact e2 j x u (by simpa [Wy]using hj) (by simpa using hu)
 | .clos g n::ps,d,vs,ns,ks,i,0,⟨cvs,vs',h1,h2,h3,h4⟩,hc,_,_,hp=>by
  subst h1;simp only[WcC,Xi]at hc;simp only[WK,Xch,Xed]at hp;obtain⟨e1,e2⟩:=WaS hr ps d (cvs++vs') ns ks (i+1) n h4 hc.2 hc.1 (by simp[h2]) (λp hP=>hp p (Xg _ (by rw[List.drop_left' h2]at hP;exact hP)));refine⟨by simp only[Wy,Xs];simp at e1;omega,λj x u hj hu=>?_⟩;cases j with
  |zero=>
   simp[Wy]at hj hu;subst hj hu;exact WgI hr (hp (i,_) (Xk _ (Xh ..)))
  |succ j=>exact e2 j x u (by simpa [Wy]using hj) (by rw[Xce (by omega),h2,Xcc];simpa using hu)
 | .kv t agg::ps,d,vs,ns,ks,i,0,⟨v,vs',n1,n2,ks',h1,h2,jN,h3,h4⟩,hc,_,_,hp=>by
  subst h1;simp only[WK,Xch,Xed]at hp;obtain⟨e1,e2⟩:=WaS hr ps d.2 vs' n2 ks' (i+1) 0 h4 hc (by cases ps<;>rfl) (Xbk _) (λp hP=>hp p (Xg _ (by simpa using hP)));refine⟨by simp only[Wy,Xs];omega,λj x u hj hu=>?_⟩;cases j with
  |zero=>
   simp[Wy]at hj hu;subst hj hu;exact WgI hr (hp (i,_) (Xk _ (Xh ..)))
  |succ j=>exact e2 j x u (by simpa [Wy]using hj) (by simpa using hu)
theorem Wpd{G G':GH}{wb w:World}{nu su:Nu}{e:Ty}{xs ys:List e.den}{S S':CS}(h4:OwnL wb (TyRel G wb e) e.size nu xs S)(hown:OwnL w (TyRel G' w e) e.size su ys S')(hx:nu.hdr=su.hdr):OwnL w (TyRel G' w e) e.size nu ys S':=by
 unfold Nu.hdr at hx;cases hb:su.blk with
 |none=>
  cases hb':nu.blk with
  |some b=>simp[hb,hb']at hx
  |none=>
   have k1:=Wcs h4 hb';have k2:=Wcs hown hb;refine⟨by rw[k2,←h4.1,k1],h4.2.1,?_⟩;simp only[hb'];exact k2
 |some b=>
  cases hb':nu.blk with
  |none=>simp[hb,hb']at hx
  |some b'=>
   simp only[hb,hb']at hx;injection hx with x1 x2 x3;injection x1 with x1;injection x1 with x1 x4 _;have e1:=h4.2.1;have e2:=hown.2.1;have:nu=su:=by
    obtain⟨a1,a2,a3,a4,a5⟩:=nu;obtain⟨b1,b2,b3,b4,b5⟩:=su;simp only at hb hb' x1 x2 x3 x4 e1 e2;subst hb hb' x1 x2 x3 x4;rw[e1,e2]
   rw[this];exact hown
theorem We3{G G':GH}{wb w:World}:∀(t:Ty) (d0 d:t.den) (us:List Value) (n1 n2:List Pc),TyRel G wb t d0 us n1->TyRel G' w t d us n2->∃n3,TyRel G' w t d us n3/\nus n3=nus n1/\fps n3=fps n2
 | .own e,d0,d,us,n1,n2,⟨pc,h1,h2,h3⟩,⟨cE,g1,g2,g3⟩=>by
  subst h1 g1;have hx:pc.nu.hdr=cE.nu.hdr:=by rw[h2]at g2;simpa using g2
  exact⟨[⟨pc.nu,cE.fp⟩],⟨_,rfl,h2,Wpd h3 g3 hx⟩,rfl,rfl⟩
 | .prod a b,d0,d,us,n1,n2,⟨v1,v2,m1,m2,h1,h2,h3,h4⟩,⟨u1,u2,k1,k2,g1,g2,g3,g4⟩=>by
  have l1:=WF a _ _ _ h3;have l2:=WF a _ _ _ g3;obtain⟨q1,q2⟩:=List.append_inj (h1.symm.trans g1) (by rw[l1,l2]);subst q1 q2 h2 g2;obtain⟨a1,a2,a3,a4⟩:=We3 a _ _ _ _ _ h3 g3;obtain⟨b1,b2,b3,b4⟩:=We3 b _ _ _ _ _ h4 g4;exact⟨a1++b1,⟨_,_,a1,b1,h1,rfl,a2,b2⟩,by unfold nus at a3 b3⊢;rw[Xu,Xu,a3,b3],by unfold fps at a4 b4⊢;rw[Xu,Xu,a4,b4]⟩
 | .int _,d0,d,us,n1,n2,h,g=>by obtain⟨h1,_⟩:=h;obtain⟨g1,g2⟩:=g;subst h1 g1;exact⟨[],⟨rfl,g2⟩,rfl,rfl⟩
 | .bool,d0,d,us,n1,n2,h,g=>by obtain⟨h1,_⟩:=h;obtain⟨g1,g2⟩:=g;subst h1 g1;exact⟨[],⟨rfl,g2⟩,rfl,rfl⟩
 | .str,d0,d,us,n1,n2,h,g=>by obtain⟨h1,_⟩:=h;obtain⟨g1,g2⟩:=g;subst h1 g1;exact⟨[],⟨rfl,g2⟩,rfl,rfl⟩
 | .slice _,d0,d,us,n1,n2,h,g=>by obtain⟨h1,_⟩:=h;obtain⟨g1,g2⟩:=g;subst h1 g1;exact⟨[],⟨rfl,g2⟩,rfl,rfl⟩
theorem WrV{G G':GH}{wb w:World}{t:Ty}{agg:Bool}{d0 d:t.den}{v:Value}{n1 n2:List Pc}(h:Wje G wb t agg d0 v n1)(g:Wje G' w t agg d v n2):∃us n3,TyRel G' w t d us n3/\nus n3=nus n1/\fps n3=fps n2:=by
 unfold Wje at h g;split at h
 .rename_i ha;rw[Wb ha]at g;obtain⟨us,h1,h2⟩:=h;obtain⟨zM,g1,g2⟩:=g;have:us=zM:=by
   rw[h1]at g1;injection g1 with g1;have:=Wl Array.toList g1;simpa using this
  subst this;exact⟨us,We3 _ _ _ _ _ _ h2 g2⟩
 .rename_i ha;rw[Wa ha]at g;exact⟨_,We3 _ _ _ _ _ _ h g⟩
structure OOk(G':GH)(φ:Nat->CS)(objs:Waj)(w:World)(ps:List PTy)(B:OutK (Wgd ps))(ks:List Nu)(kf:List CS)(ms:List Pc):Prop where
 outs:WbP G' w ps B.d ks kf ms
 sepk:Sep kf
 sepm:Sep (fps ms)
 kf:∀S∈kf,CS.le S (FromL φ objs B.kept)
 ms:∀q∈ms,CS.le q.fp (FromL φ objs B.moved)
theorem Ww7(h:HR w0 F G ν φ objs nx w){k1 k2:List CS}{m l:List Nat}(h1:Sep k1)(h2:Sep k2)(g1:∀S∈k1,CS.le S (FromL φ objs m))(g2:∀S∈k2,CS.le S (FromL φ objs l))(hd:∀i∈m,i∉l):Sep (k1++k2):=
 WnJ h1 h2 (A:=FromL φ objs m) (B:=FromL φ objs l) g1 g2 (FromL.disj h hd)
theorem Who{wb:World}{Gb:GH}(hg:GLe G G')(h:HR w0 F G ν φ objs nx w){t:Ty}{ps:List PTy}{id b o:Nat}{cs:List Cell}{dd:t.den}{m l:List Nat}{A:OutK (Wgd ps)}{ks:List Nu}{kf:List CS}{ms:List Pc}
  (hx:CellRel G ν nx (.ptr id 0) (.pointer (some ⟨b,o,none⟩))) (ho:look objs id=some (.box cs)) (g1:WaB t cs objs=some (dd,m,l)) (hl:Lent G' w φ objs l) (hk:(id::A.kept).Nodup) (hm:(m++A.moved).Nodup) (hA:OOk G' φ objs w ps A ks kf ms):
  ∃nn,WfC G' w t dd b o nn/\Sep (rng b o t.size::kf)/\Sep (fps (nn++ms))/\(∀S∈rng b o t.size::kf,CS.le S (FromL φ objs (id::A.kept)))/\(∀q∈nn++ms,CS.le q.fp (FromL φ objs (m++A.moved))):=by
 obtain⟨_,b',zN,kL⟩:=hx;injection kL with kL;injection kL with kL;injection kL with kL mb _;subst kL mb;have az:Live objs id:=⟨_,ho,by simp⟩;obtain⟨b'',us,uw,hrow,hmem,bB,eO⟩:WcG G ν nx w id (φ id) (.box cs):=h.ob _ _ ho;rw[zN]at uw;injection uw with uw;subst uw;obtain⟨k1,k2⟩:=Xai.1 hk;obtain⟨k3,k4,k5⟩:=Xaj.1 hm;obtain⟨nn,e1,e2,e3,_⟩:=Wak h hg t cs us dd m l bB hl k3 g1;have cI:cs.length=t.size:=by rw[←bB.1];exact WF _ _ _ _ e1
 rw[cI]at hrow eO;have gD:CS.le (rng b ((ν id).off+0) t.size) (FromL φ objs [id]):=λb o hh=>⟨id,by simp,az,eO b o hh⟩;refine⟨nn,⟨us,hrow,hmem,e1⟩,?_,Wcp h e2 hA.sepm e3 hA.ms (λi hi hj=>k5 i hi i hj rfl),λS hS=>?_,λq hq=>?_⟩
 .exact Ww7 h (k1:=[rng b ((ν id).off+0) t.size]) (m:=[id]) (Xbc _ _) hA.sepk (λS hS=>by rw[Xaf.1 hS];exact gD) hA.kf (λi hi hj=>k1 (by rw[←Xaf.1 hi];exact hj))
 .rcases Xr.1 hS with rfl|hS
  .exactλb o hh=>FromL.mono (λi hi=>by rw[Xaf.1 hi];exact Xh ..) b o (gD b o hh)
  .exactλb o hh=>FromL.mono (λi hi=>Xe _ hi) b o (hA.kf S hS b o hh)
 .rcases Xm.1 hq with hq|hq
  .exactλb o hh=>FromL.mono (λi hi=>Xk _ hi) b o (e3 q hq b o hh)
  .exactλb o hh=>FromL.mono (λi hi=>Xg _ hi) b o (hA.ms q hq b o hh)
theorem Wa6{wb:World}{Gb:GH}(hg:GLe G G')(h:HR w0 F G ν φ objs nx w):∀(ps:List PTy) (d:WfA ps) (vs:List Value) (ns:List Pc) (ks:List Nu) (xs:List AVal) (B:OutK (Wgd ps)),Wbw Gb wb ps d vs ns ks->xs.length=vs.length->
  (∀(j:Nat) (x:AVal) (v:Value),xs[j]?=some x->vs[j]?=some v->x= .tup []\/AValRel G ν nx x v)->Lent G' w φ objs B.lent->B.kept.Nodup->B.moved.Nodup->W4 ps xs objs=some B->
  ∃kf ms,OOk G' φ objs w ps B ks kf ms
 | [],d,vs,ns,ks,xs,B,⟨_,_,hk⟩,_,_,_,_,_,hf=>by
  simp only[W4]at hf;injection hf with hf;subst hf;exact⟨[],[],⟨hk,rfl,rfl⟩,List.Pairwise.nil,List.Pairwise.nil,by simp,by simp⟩
 | .v t agg::ps,d,vs,ns,ks,xs,B,⟨v,vs',n1,n2,h1,h2,h3,h4⟩,hlen,hp,hl,hk,hm,hf=>by
  subst h1;simp only[W4]at hf;cases hA:W4 ps xs.tail objs with
  |none=>simp[hA]at hf
  |some A=>
   simp[hA]at hf;subst hf
   match xs,hlen with
   |x::xs,hlen=>
    obtain⟨kf,ms,hO⟩:=Wa6 hg h ps d.2 vs' n2 ks xs A h4 (by simpa using hlen) (λj y u hj hu=>hp (j+1) y u (by simpa using hj) (by simpa using hu)) hl hk hm hA;exact⟨kf,ms,hO.outs,hO.sepk,hO.sepm,hO.kf,hO.ms⟩
 | .rp t::ps,d,vs,ns,ks,xs,B,⟨b,o,us,vs',h1,h2,h3,h4⟩,hlen,hp,hl,hk,hm,hf=>by
  subst h1;simp only[W4]at hf;cases hA:W4 ps xs.tail objs with
  |none=>simp[hA]at hf
  |some A=>
   simp[hA]at hf;subst hf
   match xs,hlen with
   |x::xs,hlen=>
    obtain⟨kf,ms,hO⟩:=Wa6 hg h ps d.2 vs' ns ks xs A h4 (by simpa using hlen) (λj y u hj hu=>hp (j+1) y u (by simpa using hj) (by simpa using hu)) hl hk hm hA;exact⟨kf,ms,hO.outs,hO.sepk,hO.sepm,hO.kf,hO.ms⟩
 | .box t::ps,d,vs,ns,ks,xs,B,⟨b,o,vs',n1,n2,ks',h1,h2,h3,h4,h6⟩,hlen,hp,hl,hk,hm,hf=>by
  subst h1;simp only[W4]at hf;split at hf
  .rename_i id xs;split at hf
   .rename_i cs ho;split at hf
    .rename_i dd m l A g1 g2;injection hf with hf;subst hf;have hx:=((hp 0 _ _ rfl rfl).resolve_left (λe=>by cases e)).1;obtain⟨kf,ms,hO⟩:=Wa6 hg h ps d.2 vs' n2 ks' xs A h6 (by simpa using hlen) (λj y u hj hu=>hp (j+1) y u (by simpa using hj) (by simpa using hu)) (hl.mono λj hj=>Xg _ hj) (Xai.1 hk).2 (Xaj.1 hm).2.1 g2;obtain⟨nn,e1,e2,e3,e4,e5⟩:=Who (wb:=wb) (Gb:=Gb) hg h hx ho g1 (hl.mono λj hj=>Xk _ hj) hk hm hO;exact⟨_,nn++ms,⟨b,o,ks',kf,nn,ms,h3,rfl,rfl,e1,hO.outs⟩,e2,e3,e4,e5⟩
    .cases hf
   .cases hf
  .cases hf
 | .vj _::_,_,_,_,_,_,_,h,_,_,_,_,_,_=>h.elim
 | .boxal t lf::ps,d,vs,ns,ks,xs,B,⟨b,o,b',pc,vs',n1,n2,ks',h1,h2,h3,h4,h5,h6,h7,h8⟩,hlen,hp,hl,hk,hm,hf=>by
  subst h1;simp only[W4]at hf;split at hf
  .rename_i id y xs;split at hf
   .rename_i cs ho;split at hf
    .rename_i dd m l A g1 g2;injection hf with hf;subst hf;have hx:=((hp 0 _ _ rfl rfl).resolve_left (λe=>by cases e)).1;obtain⟨kf,ms,hO⟩:=Wa6 hg h ps d.2.2 vs' n2 ks' xs A h8 (by simpa using hlen) (λj y u hj hu=>hp (j+2) y u (by simpa using hj) (by simpa using hu)) (hl.mono λj hj=>Xg _ hj) (Xai.1 hk).2 (Xaj.1 hm).2.1 g2;obtain⟨nn,e1,e2,e3,e4,e5⟩:=Who (wb:=wb) (Gb:=Gb) hg h hx ho g1 (hl.mono λj hj=>Xk _ hj) hk hm hO;exact⟨_,nn++ms,⟨b,o,ks',kf,nn,ms,h3,rfl,rfl,e1,hO.outs⟩,e2,e3,e4,e5⟩
    .cases hf
   .cases hf
  .cases hf
 | .mut e::ps,d,vs,ns,ks,xs,B,⟨pc,vs',n2,ks',h1,h2,h3,h4,h5⟩,hlen,hp,hl,hk,hm,hf=>by
  subst h1;simp only[W4]at hf;split at hf
  .rename_i id xs;split at hf
   .rename_i e' ys ho;split at hf
    .rename_i dd A g1 g2;injection hf with hf;subst hf;obtain⟨dV,hd⟩:=WaC g1;subst dV;simp only at hd;subst hd;obtain⟨⟨_,hx⟩,_⟩:=(hp 0 _ _ rfl rfl).resolve_left (λe=>by cases e);have az:Live objs id:=⟨_,ho,by simp⟩;have hown:OwnL w (TyRel G w e') e'.size (ν id) ys (φ id):=h.ob _ _ ho;have hown':=Wc5 hg (Same.refl _ w) (λ_ _ hh=>hh) hown;obtain⟨k1,k2⟩:=Xai.1 hk;obtain⟨kf,ms,hO⟩:=Wa6 hg h ps d.2 vs' n2 ks' xs A h5 (by simpa using hlen) (λj y u hj hu=>hp (j+1) y u (by simpa using hj) (by simpa using hu)) hl k2 hm g2;refine⟨φ id::kf,ms,⟨⟨pc.nu,φ id⟩,ks',kf,h3,rfl,Wpd h4 hown' hx,hO.outs⟩,?_,hO.sepm,λS hS=>?_,hO.ms⟩
     .exact Ww7 h (k1:=[φ id]) (m:=[id]) (Xbc _ _) hO.sepk (λS hS=>by rw[Xaf.1 hS];exact FromL.one (by simp) az) hO.kf (λi hi hj=>k1 (by rw[←Xaf.1 hi];exact hj))
     .rcases Xr.1 hS with rfl|hS
      .exact FromL.one (Xh ..) az
      .exactλb o hh=>FromL.mono (λi hi=>Xe _ hi) b o (hO.kf S hS b o hh)
    .cases hf
   .cases hf
  .cases hf
 | .clos g n::ps,d,vs,ns,ks,xs,B,⟨cvs,vs',h1,h2,h3,h4⟩,hlen,hp,hl,hk,hm,hf=>by
  subst h1;simp only[W4]at hf;split at hf
  .rename_i g' caps xs;split at hf
   .rename_i hc;obtain⟨rfl,hcl⟩:=hc;cases hA:W4 ps (Wko caps++xs) objs with
    |none=>simp[hA]at hf
    |some A=>
     simp[hA]at hf;subst hf;obtain⟨⟨us,qT,ux,xJ⟩,_⟩:=(hp 0 _ _ rfl rfl).resolve_left (λe=>by cases e);have jM:us=cvs:=by
      injection qT with _ _ qT;have:=Wl Array.toList qT;simpa using this.symm
     subst jM;obtain⟨kf,ms,hO⟩:=Wa6 hg h ps d (us++vs') ns ks (Wko caps++xs) A h4 (by simp[Wko,ux];simpa using hlen) (λj y u hj hu=>by
      rw[Xav]at hj hu;simp only[Wko,List.length_map]at hj;rw[ux]at hu;split at hj
      .rename_i hlt;rw[Wb hlt]at hu;rw[Xan]at hj;obtain⟨id,bz,rfl⟩:=Xv.1 hj;obtain⟨q1,q3,q2⟩:=xJ _ id u bz hu;exact .inr ⟨⟨q1,q2⟩,q3⟩
      .rename_i hlt;rw[Wa hlt]at hu;exact hp (j-caps.length+1) y u (by simpa using hj) (by simpa using hu)) hl hk hm hA
     exact⟨kf,ms,hO.outs,hO.sepk,hO.sepm,hO.kf,hO.ms⟩
   .cases hf
  .cases hf
 | .kv t agg::ps,d,vs,ns,ks,xs,B,⟨v,vs',n1,n2,ks',h1,h2,jN,h3,h4⟩,hlen,hp,hl,hk,hm,hf=>by
  subst h1;simp only[W4]at hf;split at hf
  .rename_i x xs;split at hf
   .rename_i dd m l A g1 g2;split at hf
    .rename_i gF;injection hf with hf;subst hf;cases hc:cellsOf agg x with
     |none=>simp[hc]at g1
     |some cs=>
      simp[hc]at g1;obtain⟨k1,k2,k3⟩:=Xaj.1 hk;have hx:=(hp 0 _ _ rfl rfl).resolve_left (λe=>by subst e;cases hc);have bc:Lent G' w φ objs l:=hl.mono λj hj=>Xk _ hj;obtain⟨_,_,_,_,q4,_⟩:=WkH h hg hx bc k1 hc g1;obtain⟨v1,_⟩:=Wms h hg hx bc hc g1 gF;obtain⟨us,n3,r1,r2,r3⟩:=WrV h3 v1;obtain⟨kf,ms,hO⟩:=Wa6 hg h ps d.2 vs' n2 ks' xs A h4 (by simpa using hlen) (λj y u hj hu=>hp (j+1) y u (by simpa using hj) (by simpa using hu)) (hl.mono λj hj=>Xg _ hj) k2 hm g2;have gp:∀S∈fps n3,CS.le S (FromL φ objs m):=λS hS=>by
       rw[r3,Wn7]at hS;obtain⟨i,hi,rfl⟩:=Xw.1 hS;exact FromL.one hi (q4 i hi)
      have gs:Sep (fps n3):=by
       rw[r3,Wn7];refine List.pairwise_map.2 (k1.imp_of_mem λ{i j} hi hj hne=>?_)
       exactλb o h1 h2=>hne (h.inj i j b o (q4 i hi) (q4 j hj) h1 h2)
      refine⟨fps n3++kf,ms,⟨n3,ks',kf,us,by rw[jN,r2],rfl,r1,hO.outs⟩,Ww7 h gs hO.sepk gp hO.kf (λi hi hj=>k3 i hi i hj rfl),hO.sepm,λS hS=>?_,hO.ms⟩;rcases Xm.1 hS with hS|hS
      .exactλb o hh=>FromL.mono (λi hi=>Xk _ hi) b o (gp S hS b o hh)
      .exactλb o hh=>FromL.mono (λi hi=>Xg _ hi) b o (hO.kf S hS b o hh)
    .cases hf
   .cases hf
  .cases hf
end
end Go.Sx
namespace Go.Sx
set_option linter.unusedVariables false
set_option linter.unusedSimpArgs false
section
variable{P:Program}{T:Tab}{Γ:Ctx}
theorem Wt8{sg:Sig}{d:WfA sg.ps}{G:GH}{w:World}{vs:List Value}{ns:List Pc}{ks:List Nu}{n:Nat}(hn:WbZ sg.ps<=n)(eP:WcC sg.ps=true)(hargs:Wbw G w sg.ps d vs ns ks)(hsep:Sep (fps ns))
  (hfree:∀q∈ns,∀b off,q.fp b off->G b off=none/\b<w.heap.size) (hg:∀b o v,G b o=some v->w.cell? ⟨b,o,none⟩=some v):
  ∃ν,Rel w (Of ns) ⟨n,WK sg.ps 0 0 vs⟩ G G ν {env:=Whb 0 (WU sg.ps d [] 0).1,objs:=(WU sg.ps d [] 0).2.1,nx:=(WU sg.ps d [] 0).2.2}
   {tmps:=vs.toArray++Xea (n-vs.toArray.size) undef,defers:=[]} w:=by
 obtain⟨ν,hν⟩:∃ν:Nat->Nu,ν= λi=>((nus ns)[i]?).getD ⟨none,0,0,0,0⟩:=⟨_,rfl⟩;obtain⟨φ,hφ⟩:∃φ:Nat->CS,φ= λi=>((fps ns)[i]?).getD (λ_ _=>False):=⟨_,rfl⟩;have hAt:At ν φ 0 ns:=λj pc hj=>by
  have e1:(nus ns)[j]?=some pc.nu:=by unfold nus;rw[Xan,hj];rfl
  have e2:(fps ns)[j]?=some pc.fp:=by unfold fps;rw[Xan,hj];rfl
  rw[hν,hφ];simp only[Xbb,e1,e2];exact⟨rfl,rfl⟩
 obtain⟨h1,h2,h3,h4⟩:=Wcr (ν:=ν) (φ:=φ) sg.ps d vs ns ks [] 0 (0+ns.length) eP hargs hAt (Xn _);have uf:=Wdn _ _ _ _ _ hargs;have cx:∀id,Live (WU sg.ps d [] 0).2.1 id->id<ns.length:=λid ⟨ob,ho,_⟩=>by
  rcases h2 id ob ho with⟨_,h,_⟩|h
  .simpa using h
  .cases h
 have an:∀id b o,φ id b o->∃q,ns[id]?=some q/\(fps ns)[id]?=some q.fp/\q.fp b o:=λid b o hp=>by
  rw[hφ]at hp
  try simp only at hp
  cases hq:ns[id]? with
  |none=>
   have:(fps ns)[id]?=none:=by unfold fps;rw[Xan,hq];rfl
   rw[this]at hp;exact hp.elim
  |some q=>
   have:(fps ns)[id]?=some q.fp:=by unfold fps;rw[Xan,hq];rfl
   rw[this]at hp;exact⟨q,rfl,this,hp⟩
 have xK:∀(i:Nat) (v:Value),vs[i]?=some v->(vs.toArray++Xea (n-vs.toArray.size) undef)[i]?=some v:=λi v hi=>by
  have hlt:=(Xad.1 hi).1;rw[Array.getElem?_append_left (by simpa using hlt)];simpa using hi
 refine⟨ν,rfl,by simp;omega,λp hp=>?_,λi x hx=>?_,⟨φ,?_⟩,λ_ _ _ hh=>hh,λ_ _ _ hh=>.inl hh⟩
 .obtain⟨_,g2⟩:=WS _ _ _ _ p hp;exact xK _ _ (by simpa using g2)
 .simp only at hx;rw[WhE]at hx;simp only[Xbk,Wav,Xdj]at hx;have hlt:=(Xad.1 hx).1;rw[h3]at hlt;have hv:=Xq hlt;refine⟨_,xK i _ hv,?_⟩;have:=h4 i x _ hx hv;simp only[h1];exact this
 .exact{
   g:=hg
   ob:=λid ob ho=>by
    rcases h2 id ob ho with⟨_,_,h⟩|h
    .simp only[h1];exact h
    .cases h
   gf:=λid b o hl hp=>by
    obtain⟨q,g1,_,g2⟩:=an id b o hp;exact(hfree q (Xaw g1) b o g2).1
   inj:=λid bK b o hl bS hp dv=>by
    obtain⟨q,_,g1,g2⟩:=an id b o hp;obtain⟨q',_,zO,zP⟩:=an bK b o dv;exact Wlc hsep g1 zO g2 zP
   own:=λid b o hl hp=>by
    obtain⟨q,g1,_,g2⟩:=an id b o hp;exact .inr ⟨q,Xaw g1,g2⟩
   lt:=λid hl=>by simp only[h1];have:=cx id hl;omega
   bl:=λid b o hl hp=>by
    obtain⟨q,g1,_,g2⟩:=an id b o hp;exact(hfree q (Xaw g1) b o g2).2
   le:=WLe.refl _ w}
theorem Wsr(hT:Wao P T){f:Func}{sg:Sig}{d:WfA sg.ps}{G:GH}{w:World}{vs:List Value}{ns:List Pc}{ks:List Nu}{n:Nat}(eP:WcC sg.ps=true)(hargs:Wbw G w sg.ps d vs ns ks)
  {st:St} {a:Act} {w':World} {G1:GH} {ν:Nat->Nu} (hr:Rel w (Of ns) ⟨n,WK sg.ps 0 0 vs⟩ G G1 ν st a w') {xs:List AVal} (hx:We0 T st f.results.toList=some xs)
  {A:Outs (Whd sg.rs)} (hA:Wbk sg.rs xs st.objs=some A) {B:OutK (Wgd sg.ps)} (hB:W4 sg.ps (Wy sg.ps 0 0 st) st.objs=some B)
  (aP:WbF (B.kept++(B.moved++A.moved))=true) (mc:Wg3 (A.lent++B.lent) (B.kept++(B.moved++A.moved))=true):
  ∃rv kf ms cD G',(results f a.tmps).run P w'= .ok (Wi2 rv) w'/\After sg (B.d,A.d) G w ns ks rv kf ms cD G' w':=by
 have aP:=(We4 _).1 aP;have mc:=WmW mc;obtain⟨φ,hφ⟩:=hr.h;have vG:=hφ.addG_le (A.lent++B.lent);have vH:=hφ.addG_w (A.lent++B.lent);have nm:Lent (Wq4 G1 w' (FromL φ st.objs (A.lent++B.lent))) w' φ st.objs (A.lent++B.lent):=λid bz hl=>(WiX _).mono (FromL.one bz hl);obtain⟨k1,k2,k3⟩:=Xaj.1 aP;obtain⟨k4,k5,k6⟩:=Xaj.1 k2;obtain⟨rv,vJ,vK,vL⟩:=Wln hT hr _ xs hx;obtain⟨cD,q1,q2,q3,q4⟩:=Wef hφ vG sg.rs xs rv A vK vL (nm.mono λi hi=>Xk _ hi) k5 hA;obtain⟨hsl,dh⟩:=WaS hr sg.ps d vs ns ks 0 0 hargs eP (by cases sg.ps<;>rfl) (Xbk _) (by simpa using hr.par);obtain⟨kf,ms,hO⟩:=Wa6 vG hφ sg.ps d vs ns ks _ B hargs hsl (λj x v hj hv=>dh j x v hj (by simpa using hv)) (nm.mono λi hi=>Xg _ hi) k1 k4 hB;have fA:∀S∈kf++fps (ms++cD),CS.le S (FromL φ st.objs (B.kept++(B.moved++A.moved))):=λS hS=>by
  rcases Xm.1 hS with hS|hS
  .exactλb o hh=>FromL.mono (λi hi=>Xk _ hi) b o (hO.kf S hS b o hh)
  .obtain⟨q,hq,rfl⟩:=Xw.1 hS;rcases Xm.1 hq with hq|hq
   .exactλb o hh=>FromL.mono (λi hi=>Xg _ (Xk _ hi)) b o (hO.ms q hq b o hh)
   .exactλb o hh=>FromL.mono (λi hi=>Xg _ (Xg _ hi)) b o (q3 q hq b o hh)
 refine⟨rv,kf,ms,cD,Wq4 G1 w' (FromL φ st.objs (A.lent++B.lent)),?_,?_⟩
 .show(do let vs←f.results.mapM (WmF a.tmps);pure (if h:vs.size=1 then vs[0]else .tuple vs):Sem Value).run P w'=_;have jp:(f.results.mapM (WmF a.tmps)).run P w'= .ok rv.toArray w':=by
   rw[Array.mapM_eq_mapM_toList,Sem.run_map,vJ];rfl
  rw[Sem.run_bind,jp];simp only[Result.andThen_ok,Sem.run_pure];congr 1;unfold Wi2
  match rv with
  | []=>rfl
  | [v]=>rfl
  |u::v::l=>simp
 .exact{
   res:=q1
   outs:=hO.outs
   sep:=by
    refine Ww7 hφ hO.sepk (Wcp hφ hO.sepm q2 hO.ms q3 (λi hi hj=>k6 i hi i hj rfl)) hO.kf (l:=B.moved++A.moved) (λS hS=>?_) (λi hi hj=>k3 i hi i hj rfl);obtain⟨q,hq,rfl⟩:=Xw.1 hS;rcases Xm.1 hq with hq|hq
    .exactλb o hh=>FromL.mono (λi hi=>Xk _ hi) b o (hO.ms q hq b o hh)
    .exactλb o hh=>FromL.mono (λi hi=>Xg _ hi) b o (q3 q hq b o hh)
   own:=λS hS b off hh=>by
    obtain⟨i,hi,h1,h2⟩:=fA S hS b off hh;refine⟨?_,(hφ.own i b off h1 h2).symm,hφ.bl i b off h1 h2⟩;rw[Wdm (λ⟨j,hj,h3,h4⟩=>by
     have:=hφ.inj i j b off h1 h3 h2 h4;subst this;exact mc _ hj hi)]
    exact hφ.gf i b off h1 h2
   gx:=by
    refine⟨λb o v hv=>vG b o v (hr.gx.le b o v hv),λb off v hv=>?_⟩;by_cases hb:FromL φ st.objs (A.lent++B.lent) b off
    .obtain⟨j,hj,h1,h2⟩:=hb;exact .inr (hφ.own j b off h1 h2)
    .rw[Wdm hb]at hv;exact hr.gx.new b off v hv
   g:=vH
   le:=hφ.le}
theorem WvO(hM:P.follows .mixedOrders=true)(hT:Wao P T)(hΓ:Wft P Γ){f:Func}{k:FuncId}{c:Code}(hf:P.funcs[k]?=some f)(hb:f.body=some c){sg:Sig}(aJ:Wdx f.ntmps (Wem sg.ps 0 0) c=true)(eP:WcC sg.ps=true)
  (hn:WbZ sg.ps<=f.ntmps) {ann:Nat->List Ghost} (h:∀d o,sg.run d=some o->∃N,den T Γ ann N sg f d some=some o):Good P k sg:=by
 intro d o hrun G w vs ns ks hargs hsep hfree hg;obtain⟨N,ir⟩:=h d o hrun;unfold den at ir;simp only[hb]at ir;obtain⟨ν,kM⟩:=Wt8 hn eP hargs hsep hfree hg;split at ir
 case h_2=>cases ir
 rename_i c' b st0 hQ zQ;injection hQ with hQ;subst hQ;obtain⟨rfl,ir⟩:=WaY ir;obtain⟨G0',ν0',hr⟩:=Wdz _ _ _ _ _ kM zQ;refine calls_of_wp hf hb ?_
 suffices hk:∀e,WrF w (Of ns) ⟨f.ntmps,WK sg.ps 0 0 vs⟩ G (Wxw T sg f.results.toList some e) o (bodyPost P f (λe w'=>∃rv kf ms cD G',e= .returned (Wi2 rv)/\After sg o G w ns ks rv kf ms cD G' w') e.to)from
  WoK (nt:=⟨f.ntmps,WK sg.ps 0 0 vs⟩) hM hT hΓ (n:=f.ntmps) rfl (WY sg.ps 0 0 vs) c aJ hk _ _ _ _ _ hr ir
 intro e st a w' G1 ν1 kG hk;have it:(∃xs,We0 T st f.results.toList=some xs/\∃A B,Wbk sg.rs xs st.objs=some A/\W4 sg.ps (Wy sg.ps 0 0 st) st.objs=some B/\WbF (B.kept++(B.moved++A.moved))=true/\Wg3 (A.lent++B.lent) (B.kept++(B.moved++A.moved))=true/\(B.d,A.d)=o)->
   a.defers= []/\∃v,(results f a.tmps).run P w'= .ok v w'/\∃rv kf ms cD G',Ending.returned v= .returned (Wi2 rv)/\After sg o G w ns ks rv kf ms cD G' w':=by
  rintro⟨xs,hx,A,B,hA,hB,h1,h2,rfl⟩;obtain⟨rv,kf,ms,cD,G',h3,h4⟩:=Wsr hT (f:=f) eP hargs kG hx hA hB h1 h2;exact⟨kG.defers,_,h3,rv,kf,ms,cD,G',rfl,h4⟩
 have oo:(match We0 T st f.results.toList with
   |some xs=>match Wbk sg.rs xs st.objs,W4 sg.ps (Wy sg.ps 0 0 st) st.objs with
    |some A,some B=>if WbF (B.kept++(B.moved++A.moved))&&Wg3 (A.lent++B.lent) (B.kept++(B.moved++A.moved))then some (B.d,A.d)else none
    |_,_=>none
   |none=>none)=some o->(∃xs,We0 T st f.results.toList=some xs/\∃A B,Wbk sg.rs xs st.objs=some A/\W4 sg.ps (Wy sg.ps 0 0 st) st.objs=some B/\WbF (B.kept++(B.moved++A.moved))=true/\Wg3 (A.lent++B.lent) (B.kept++(B.moved++A.moved))=true/\(B.d,A.d)=o):=λhk=>by
  split at hk
  .rename_i xs hx;split at hk
   .rename_i A B hA hB;obtain⟨hc,hk⟩:=Wb6 hk;simp only[Xi]at hc;injection hk with hk;exact⟨xs,hx,A,B,hA,hB,hc.1,hc.2,hk⟩
   .cases hk
  .cases hk
 cases e with
 |normal=>exact it (oo hk)
 |ret=>exact it (oo hk)
 |exit id=>cases hk
end
end Go.Sx
namespace Go.Sx
set_option linter.unusedVariables false
set_option linter.unusedSimpArgs false
def zv1:Value->Value->Bool
 | .int k n,.int k' n'=>decide (k=k')&&decide (n=n')
 | .bool b,.bool b'=>b==b'
 | .string s,.string s'=>match s.data.toList,s'.data.toList with
  | [],[]=>true
  |_,_=>false
 | .slice none 0 0,.slice none 0 0=>true
 | .pointer none,.pointer none=>true
 |_,_=>false
theorem WtQ(x y:Value)(h:zv1 x y=true):x=y:=by
 unfold zv1 at h;split at h
 .simp only[Xi,Wh]at h;obtain⟨rfl,rfl⟩:=h;rfl
 .have:=eq_of_beq h;subst this;rfl
 .rename_i s s';split at h
  .rename_i e1 e2;have:s=s':=by
    cases s with|mk a=>cases s' with|mk b=>
    congr 1;apply Array.ext';simp only at e1 e2;rw[e1,e2]
   rw[this]
  .cases h
 .rfl
 .rfl
 .cases h
def Ww5:List Value->List Value->Bool
 | [],[]=>true
 |x::l,y::m=>zv1 x y&&Ww5 l m
 |_,_=>false
theorem Wmz:∀(l m:List Value),Ww5 l m=true->l=m
 | [],[],_=>rfl
 | [],_::_,h=>by cases h
 |_::_,[],h=>by cases h
 |x::l,y::m,h=>by
  simp only[Ww5,Xi]at h;rw[WtQ x y h.1,Wmz l m h.2]
def Wgy:List Field->List (Nat×TypeId)->Bool
 | [],[]=>true
 |f::l,p::m=>Xbo f.offset p.1&&Xbo f.type p.2&&(f.name != "_")&&Wgy l m
 |_,_=>false
def Ws1(P:Program)(T:Tab)(t:TypeId)(te:TE):Bool:=match te.shape with
 | .basic=>!te.agg&&(match te.ty with
  | .int k=>match P.underlying t with|some (.int k')=>decide (k'=k)|_=>false
  | .bool=>match P.underlying t with|some .bool=>true|_=>false
  | .str=>match P.underlying t with|some .string=>true|_=>false
  |_=>false)
 | .slice e=>!te.agg&&(match P.underlying t with|some (.slice e')=>Xbo e' e|_=>false)&&(match look T e with|some du=>decide (te.ty= .slice du.ty)|none=>false)
 | .struct fs=>te.agg&&(match P.underlying t with|some (.struct fields)=>Wgy fields.toList fs|_=>false)&& !P.stoodInHeld t&& !P.eqGuardType P.depth t
 | .ptr e=>!te.agg&&(match P.underlying t with|some (.pointer e')=>Xbo e' e|_=>false)
 | .arr n e=>te.agg&&(match P.underlying t with|some (.array n' e')=>Xbo n' n&&Xbo e' e|_=>false)&&(match look T e with|some du=>decide (du.ty=te.ty)&&du.plain|none=>false)
def WnV(P:Program)(t:TypeId)(te:TE):Bool:=match P.info? t with
 |some i=>match i.zero with
  |some z=>Xbo i.size te.size&&Ww5 z.cells.toList te.cells&&Nat.ble i.bytes 4096
  |none=>false
 |none=>false
def WlV(P:Program)(T:Tab):Tab->Bool
 | []=>true
 |(t,te)::l=>Ws1 P T t te&&WnV P t te&&WlV P T l
theorem Wfy:∀(l:List Field) (m:List (Nat×TypeId)),Wgy l m=true→l.map (λf=>(f.offset,f.type))=m∧∀f∈l,f.name≠ "_"
 | [],[],_=>⟨rfl,by simp⟩
 | [],_::_,h=>by cases h
 |_::_,[],h=>by cases h
 |f::l,p::m,h=>by
  simp only[Wgy,Xi,bne_iff_ne,ne_eq]at h;obtain⟨⟨⟨h1,h2⟩,h3⟩,h4⟩:=h;obtain⟨h5,h6⟩:=Wfy l m h4;have h1:f.offset=p.1:=by simpa using h1
  have h2:f.type=p.2:=by simpa using h2
  refine⟨by rw[Xak,h5,h1,h2],λg hg=>?_⟩;rcases Xr.1 hg with hg|hg
  .subst hg;exact h3
  .exact h6 g hg
theorem WnW{P:Program}{T:Tab}{t:TypeId}{te:TE}(h:Ws1 P T t te=true)(hi:WnV P t te=true):TEok P T t te:=by
 obtain⟨ty,agg,shape⟩:=te;refine⟨?_,?_⟩
 .unfold Ws1 at h;cases shape with
  |basic=>
   simp only[Xi,Xaq]at h⊢;refine⟨h.1,?_⟩;have h:=h.2;cases ty with
   |int k=>
    simp only at h⊢;split at h
    .rename_i k' hu;simp only[Wh]at h;rw[hu,h]
    .cases h
   |bool=>
    simp only at h⊢;split at h
    .assumption
    .cases h
   |str=>
    simp only at h⊢;split at h
    .assumption
    .cases h
   |slice e=>cases h
   |own e=>cases h
   |prod a b=>cases h
  |slice e=>
   simp only[Xi,Xaq]at h⊢;obtain⟨⟨h1,h2⟩,h3⟩:=h;refine⟨h1,?_,?_⟩
   .split at h2
    .rename_i e' hu;rw[hu];have:e'=e:=by simpa using h2
     rw[this]
    .cases h2
   .split at h3
    .rename_i du hl;exact⟨du,hl,by simpa using h3⟩
    .cases h3
  |struct fs=>
   simp only[Xi,Xaq]at h⊢;obtain⟨⟨⟨h1,h2⟩,h3⟩,h4⟩:=h;refine⟨h1,?_⟩;split at h2
   .rename_i fields hu;obtain⟨h5,h6⟩:=Wfy _ _ h2;exact⟨fields,hu,h5,λf hf=>h6 f (by simpa using hf),h3,h4⟩
   .cases h2
  |ptr e=>
   simp only[Xi,Xaq]at h⊢;refine⟨h.1,?_⟩;have h:=h.2;split at h
   .rename_i e' hu;rw[hu];have:e'=e:=by simpa using h
    rw[this]
   .cases h
  |arr n e=>
   simp only[Xi]at h⊢;obtain⟨⟨h1,h2⟩,h3⟩:=h;refine⟨h1,?_,?_⟩
   .split at h2
    .rename_i n' e' hu;simp only[Xi]at h2;have e1:n'=n:=by simpa using h2.1
     have e2:e'=e:=by simpa using h2.2
     rw[hu,e1,e2]
    .cases h2
   .split at h3
    .rename_i du hl;simp only[Xi,Wh]at h3;refine⟨du,hl,h3.1,λm f hs=>?_⟩;have:=h3.2;unfold TE.plain at this;rw[hs]at this;cases this
    .cases h3
 .unfold WnV at hi;split at hi
  .rename_i i gI;split at hi
   .rename_i z hz;simp only[Xi]at hi;obtain⟨⟨h1,h2⟩,h3⟩:=hi;exact⟨i,z,gI,by simpa using h1,hz,Wmz _ _ h2,Xgb h3⟩
   .cases hi
  .cases hi
theorem WwZ{P:Program}{T:Tab}(h:WlV P T T=true):Wao P T:=by
 have key:∀l,WlV P T l=true->∀t te,look l t=some te->TEok P T t te:=by
  intro l
  induction l with
  |nil=>intro _ t te hl;cases hl
  |cons p l ih=>
   intro hc t te hl;obtain⟨t',du⟩:=p;simp only[WlV,Xi]at hc;rw[WH]at hl;split at hl
   .rename_i e;subst e;injection hl with hl;subst hl;exact WnW hc.1.1 hc.1.2
   .exact ih hc.2 t te hl
 exact key T h
theorem Wi{P:Program}:Wft P []:=λk sg h=>by cases h
theorem WtH{P:Program}{Γ:Ctx}{k:FuncId}{sg:Sig}(hg:Good P k sg)(hc:Wgz P k)(h:Wft P Γ):Wft P ((k,sg)::Γ):=λk' zR hl=>by
 simp only[look]at hl;split at hl
 .rename_i e;have:k=k':=by simpa using e
  subst this;injection hl with hl;subst hl;exact⟨hg,hc⟩
 .exact h k' zR hl
def Wp7(f:Func):Bool:=f.body.isSome&& !(f.name== "runtime.NumGoroutine")
theorem WdX{P:Program}{k:FuncId}{f:Func}(hf:P.funcs[k]?=some f)(h:Wp7 f=true):Wgz P k:=by
 simp only[Wp7,Xi,Xaq]at h;refine⟨f,hf,?_,h.2⟩;cases hb:f.body with
 |none=>rw[hb]at h;cases h.1
 |some c=>rfl
def WnK(f:Func)(ps:List PTy):Bool:=match f.body with
 |some c=>Wdx f.ntmps (Wem ps 0 0) c&&Nat.ble (WbZ ps) f.ntmps&&WcC ps
 |none=>false
theorem Wsh{P:Program}{T:Tab}{Γ:Ctx}(hM:P.follows .mixedOrders=true)(hT:Wao P T)(hΓ:Wft P Γ){f:Func}{k:FuncId}(hf:P.funcs[k]?=some f){sg:Sig}(aJ:WnK f sg.ps=true){ann:Nat->List Ghost}
  (h:∀d o,sg.run d=some o->∃N,den T Γ ann N sg f d some=some o):Good P k sg:=by
 unfold WnK at aJ;split at aJ
 .rename_i c hb;simp only[Xi]at aJ;exact WvO hM hT hΓ hf hb aJ.1.1 aJ.2 (Xgb aJ.1.2) h
 .cases aJ
end Go.Sx
namespace Go.Sx
def WfT:Code->List Code
 | .seq a b=>WfT a++WfT b
 | .cond _ a b=>WfT a++WfT b
 | .block _ c=>WfT c
 | .loop c=>c::WfT c
 |_=>[]
def WsH(f:Func):Code:=match f.body with
 |some c=>c
 |none=>.skip
def WrT(f:Func)(i:Nat):Code:=(WfT (WsH f)).getD i .skip
noncomputable def Wvl{R:Type}(T:Tab)(Γ:Ctx)(ann:Nat->List Ghost)(N:Nat):Code->List Nat->(Ex->St->Option R)->Ex->St->Option R
 | .seq a b,p,k=>match p with
  |0::p=>Wvl T Γ ann N a p λe af=>match e with
   | .normal=>sx T Γ ann N b af k
   | .exit id=>k (.exit id) af
   | .ret=>k .ret af
  |_::p=>Wvl T Γ ann N b p k
  | []=>k
 | .cond _ x y,p,k=>match p with
  |0::p=>Wvl T Γ ann N x p k
  |_::p=>Wvl T Γ ann N y p k
  | []=>k
 | .block id c,p,k=>match p with
  |_::p=>Wvl T Γ ann N c p λe af=>match e with
   | .exit bK=>if bK=id then k .normal af else k (.exit bK) af
   | .normal=>k .normal af
   | .ret=>k .ret af
  | []=>k
 |_,_,k=>k
def Wxk{R:Type}(gs:List Ghost)(L:St->(Ex->St->Option R)->Option R)(K:Ex->St->Option R):Ex->St->Option R:=λe st=>match e with
 | .normal=>match Wel gs st with
  |some (c,af)=>bif c then L af K else none
  |none=>none
 | .exit id=>K (.exit id) st
 | .ret=>K .ret st
abbrev vI(x:Int):AVal:=.s (.one (.val (.int .i64) x))
abbrev vB(x:Bool):AVal:=.s (.one (.val .bool x))
abbrev vV(t:Ty)(x:t.den):AVal:=.s (.one (.val t x))
abbrev vO(i:Nat):AVal:=.s (.one (.own i))
abbrev vP(i o:Nat):AVal:=.s (.one (.ptr i o))
abbrev Qs(s:Sig):=Wgd s.ps×Whd s.rs
structure Fn where
 F:Func
 a:Nat->List Ghost
 s:Nat->Sig
 c:Nat->Ctx
def WM:Nat->List Ghost:=λ_=>[]
def Wbq:Nat->Ctx:=λ_=>[]
noncomputable def lpM{R:Type}(T:Tab)(Γ:Ctx)(ann:Nat->List Ghost)(N:Nat)(F:Func)(i k n:Nat)(st:St)(K:Ex->St->Option R):Option R:=Wol (Wjy (ann k) λst k=>sx T Γ ann N (WrT F i) st k) n st K
noncomputable def cxF(T:Tab)(Γ:Ctx)(ann:Nat->List Ghost)(N:Nat)(sg:Sig)(F:Func)(p:List Nat):Ex->St->Option (Qs sg):=Wvl (R:=Qs sg) T Γ ann N (WsH F) p (Wxw T sg F.results.toList some)
noncomputable def cxL{R:Type}(T:Tab)(Γ:Ctx)(ann:Nat->List Ghost)(N:Nat)(F:Func)(i k:Nat)(p:List Nat)(n:Nat)(K:Ex->St->Option R):Ex->St->Option R:=Wvl T Γ ann N (WrT F i) p (Wxk (ann k) (lpM T Γ ann N F i k n) K)
end Go.Sx
namespace Go.Sx
open Go.ChangeShapes Go.WideShapes Go.ChangeAt Go.RowKit
set_option linter.unusedVariables false
set_option linter.unusedSimpArgs false
def Wfd:(t:Ty)->t.den->Prop
 | .int k,n=>(Lit.int k n).wf=true
 | .bool,_=>True
 | .str,s=>Xa s<=maxLen
 | .slice e,l=>Xa l<=maxLen/\∀x,List.Mem x l->Wfd e x
 | .own _,_=>False
 | .prod a b,d=>Wfd a d.1/\Wfd b d.2
def Wgj:(t:Ty)->t.den->Nat
 | .int _,_=>1
 | .bool,_=>1
 | .str,s=>Xa s+1
 | .slice e,l=>(List.map (Wgj e) l).sum+1
 | .own _,_=>0
 | .prod a b,d=>Wgj a d.1+Wgj b d.2
structure Bulk{H:Type}(β:DataW H->Nat):Prop where
 lit:∀l,1<=β (.lit l)
 str:∀s,s.length+1<=β (.lit (.string s))
 nil:1<=β .nil
 slice:∀es sp,(es.map β).sum+1<=β (.slice es sp)
 agg:∀ps,(ps.map β).sum<=β (.agg ps)
def WjL(T:Tab):List (Nat×TypeId)->Nat->Option (List Ty)
 | [],_=>some []
 |(o,ft)::fs,off=>match look T ft with
  |some te=>bif Xbo o off&&te.plain then(WjL T fs (off+te.ty.size)).map (te.ty:: ·)else none
  |none=>none
def Wen:List Ty->Ty
 | []=>.bool
 | [t]=>t
 |t::ts=>.prod t (Wen ts)
def Wok(T:Tab):Nat->TypeId->Bool
 |0,_=>false
 |n+1,t=>match look T t with
  |some te=>match te.shape with
   | .basic=>match te.ty with
    | .int _=>true
    | .bool=>true
    | .str=>true
    | .slice _=>false
    | .own _=>false
    | .prod _ _=>false
   | .slice e=>Wok T n e&&(match look T e with|some du=>du.plain|none=>false)
   | .struct fs=>fs.all (λf=>Wok T n f.2)&&(match WjL T fs 0 with
    |some (t::ts)=>decide (te.ty=Wen (t::ts))
    |_=>false)
   | .ptr _=>false
   | .arr _ _=>false
  |none=>false
section
variable{P:Program}{T:Tab}{H:Type}{enc:TypeId×Value->H}{β:DataW H->Nat}{w:World}
theorem WgX{t:TypeId}{te:TE}(h:TEok P T t te):P.cellsOf t=te.size:=by
 obtain⟨i,z,hi,hs,_⟩:=h.info;unfold Program.cellsOf;rw[hi];exact hs
def Wim(w:World):GH:=λb o=>w.cell? ⟨b,o,none⟩
theorem WsI{b:Nat}{a:Addr}{n:Nat}{cs:List Value}(h:w.cells? b a n=some cs):cs.length=n/\∀(j:Nat) (v:Value),cs[j]?=some v->w.cell? (a.add j)=some v:=by
 unfold World.cells? at h;split at h
 .refine⟨by simpa using mapM_some_length h,λj v hj=>?_⟩;have hlt:j<n:=by
   have:=mapM_some_length h;have h2:=(Xad.1 hj).1;simp at this;omega
  have:=mapM_some_get h j j (by simp[hlt]);rw[this];exact hj
 .cases h
theorem Wps{e:Ty}{a:Addr}(n:Nat)(hn:0<n):∀(k:Nat) (i0:Nat) (el:Nat->Option (DataW H×List MemPlace)) (f:List Value->Option (DataW H×List MemPlace)),
  (∀cs y,f cs=some y->∃d:e.den,Enc (Wim w) e d cs/\Wfd e d/\Wgj e d<=β y.1)->
  (∀i,i0<=i->i<i0+k->∃y cs,w.cells? 0 (a.add (i*n)) n=some cs/\f cs=some y/\el i=some y)->
  ∃(l:List e.den) (cs:List Value),l.length=k/\EncL (Enc (Wim w) e) l cs/\(∀x∈l,Wfd e x)/\(∀(j:Nat) (v:Value),cs[j]?=some v->w.cell? (a.add (i0*n+j))=some v)/\
   cs.length=k*n/\(l.map (Wgj e)).sum<=((Xda k).map λi=>match el (i0+i)with|some y=>β y.1|none=>0).sum
 |0,i0,el,f,hf,he=>⟨[],[],rfl,rfl,by simp,by simp,by simp,by simp⟩
 |k+1,i0,el,f,hf,he=>by
  obtain⟨y,c1,h1,h2,h3⟩:=he i0 (Xn _) (by omega);obtain⟨d,zS,me,hd3⟩:=hf _ _ h2;obtain⟨l,cs,g1,g2,g3,g4,g5,g6⟩:=Wps n hn k (i0+1) el f hf (λi xL sw=>he i (by omega) (by omega));obtain⟨hl,hg⟩:=WsI h1;refine⟨d::l,c1++cs,by simp[g1],⟨c1,cs,rfl,zS,g2⟩,λx hx=>?_,λj v hj=>?_,?_,?_⟩
  .rcases Xr.1 hx with rfl|hx
   .exact me
   .exact g3 x hx
  .rw[Xav]at hj;split at hj
   .have:=hg j v hj;rw[Addr.add_add]at this;exact this
   .rename_i hlt;have:=g4 _ v hj;rw[hl]at this hlt;have e:(i0+1)*n+(j-n)=i0*n+j:=by rw[Xcs];omega
    rw[e]at this;exact this
  .rw[Xz,hl,g5,Xcs];omega
  .rw[List.range_succ_eq_map,Xak,Xak,Xct,Xct,Xeb];simp only[Xax,h3];have:((λi=>match el (i0+i)with|some y=>β y.1|none=>0)∘Nat.succ)= λi=>match el (i0+1+i)with|some y=>β y.1|none=>0:=by
    funext i;simp only[Function.comp,Nat.succ_eq_add_one];rw[show i0+(i+1)=i0+1+i by omega]
   rw[this];omega
theorem WvD{β':DataW H×List MemPlace->Nat}(xs:List (DataW H×List MemPlace)):((Xda xs.length).map λi=>match xs[0+i]? with|some y=>β' y|none=>0).sum=(xs.map β').sum:=by
 congr 1;apply List.ext_getElem
 .simp
 .intro i h1 h2;simp at h1;simp[h1]
theorem WnZ{t:Ty}{ts:List Ty}(h:ts≠ []):Wen (t::ts)= .prod t (Wen ts):=by
 cases ts with
 |nil=>exact Wg rfl h
 |cons _ _=>rfl
theorem WjH(hT:Wao P T)(hβ:Bulk β)(f:TypeId->List Value->Option (DataW H×List MemPlace)){cs:List Value}:∀(fs:List (Nat×TypeId)) (off:Nat) (ts:List Ty) (ys:List (DataW H×List MemPlace)),ts≠ []->WjL T fs off=some ts->
  (∀fd∈fs,∀te cs y,look T fd.2=some te->f fd.2 cs=some y->∃d:te.ty.den,Enc (Wim w) te.ty d cs/\Wfd te.ty d/\Wgj te.ty d<=β y.1)->
  ys.length=fs.length->(∀(i:Nat) (fd:Nat×TypeId),fs[i]?=some fd->f fd.2 ((cs.drop fd.1).take (P.cellsOf fd.2))=ys[i]?)->cs.length=off+(Wen ts).size->
  ∃d:(Wen ts).den,Enc (Wim w) (Wen ts) d (cs.drop off)/\Wfd (Wen ts) d/\Wgj (Wen ts) d<=(ys.map λy=>β y.1).sum
 | [],off,ts,ys,hne,iY,_,_,_,_=>by injection iY with iY;exact Wg iY.symm hne
 |(o,ft)::fs,off,ts,ys,hne,iY,hf,hlen,xM,bB=>by
  cases ys with
  |nil=>simp at hlen
  |cons y ys=>
   simp only[WjL]at iY;split at iY
   .rename_i te hl;obtain⟨hc,iY⟩:=WaY iY;simp only[Xi]at hc;have ho:o=off:=by simpa using hc.1
    obtain⟨xN,dW,rfl⟩:=Xv.1 iY;have hsz:P.cellsOf ft=te.ty.size:=by rw[WgX (hT _ _ hl),W2 hc.2]
    have h0:=xM 0 (o,ft) rfl;simp only[Xdk,hsz,ho]at h0;obtain⟨d1,e1,e2,e3⟩:=hf (o,ft) (Xh ..) te _ y hl h0;cases eC:fs with
    |nil=>
     subst eC;simp only[WjL]at dW;injection dW with dW;subst dW;have vM:ys= []:=by cases ys with
      |nil=>rfl
      |cons _ _=>simp at hlen
     subst vM;have jv:(cs.drop off).take te.ty.size=cs.drop off:=Xdl (by rw[List.length_drop,bB];simp[Wen]);rw[jv]at e1;exact⟨d1,e1,e2,by rw[Xak,Xbp,Xct,List.sum_nil,Xax];exact e3⟩
    |cons g gs=>
     have sy:xN≠ []:=by
      rw[eC]at dW;obtain⟨o2,ft2⟩:=g;simp only[WjL]at dW;split at dW
      .obtain⟨_,dW⟩:=WaY dW;obtain⟨x,_,rfl⟩:=Xv.1 dW;simp
      .cases dW
     have xO:=WnZ (t:=te.ty) sy;obtain⟨d2,f1,f2,f3⟩:=WjH hT hβ f (cs:=cs) fs (off+te.ty.size) xN ys sy dW (λfd iP=>hf fd (Xe _ iP)) (by simpa using hlen)
      (λi fd hi=>by have:=xM (i+1) fd (by simpa using hi);simpa using this) (by rw[bB,xO,Ty.size];omega)
     rw[xO];refine⟨(d1,d2),⟨_,_,?_,e1,f1⟩,⟨e2,f2⟩,?_⟩
     .rw[←List.drop_drop];exact(List.take_append_drop _ _).symm
     .simp only[Wgj,Xak,Xct];omega
   .cases iY
theorem WkZ(hT:Wao P T)(hβ:Bulk β):∀(n fuel:Nat) (t:TypeId) (te:TE) (cs:List Value) (x:DataW H×List MemPlace),Wok T n t=true->look T t=some te->
  DataW.trod enc P w 0 (λ_=>true) true fuel t cs=some x->∃d:te.ty.den,Enc (Wim w) te.ty d cs/\Wfd te.ty d/\Wgj te.ty d<=β x.1
 |0,_,_,_,_,_,h,_,_=>by cases h
 |n+1,fuel,t,te,cs,x,h,hl,hx=>by
  have bD:=hT _ _ hl;simp only[Wok,hl]at h;obtain⟨ty,agg,shape⟩:=te;cases shape with
  |basic=>
   have hu:=bD.und.2;cases ty with
   |int k=>
    obtain⟨m,rfl,rfl,hw⟩:=DataW.trod_int hu hx;exact⟨m,rfl,hw,hβ.lit _⟩
   |bool=>
    obtain⟨b,rfl,rfl⟩:=DataW.trod_bool hu hx;exact⟨b,rfl,trivial,hβ.lit _⟩
   |str=>
    obtain⟨s,rfl,rfl,hs⟩:=DataW.trod_string hu hx;refine⟨s.data.toList,by simp[Enc],?_,hβ.str _⟩;show s.data.toList.length<=maxLen;rw[Array.length_toList];exact hs
   |slice e=>cases h
   |own e=>cases h
   |prod a b=>cases h
  |slice e=>
   simp only[Xi]at h;obtain⟨ha,hu,du,hle,gR⟩:=bD.und;simp only at gR;subst gR;have hp:du.plain=true:=by have:=h.2;rw[hle]at this;exact this
   have hsz:P.cellsOf e=du.ty.size:=by rw[WgX (hT _ _ hle),W2 hp]
   rcases DataW.trod_slice hu hx with⟨rfl,rfl⟩|⟨a,len,cap,elems,rest,m,rfl,rfl,rfl,hb,zT,ie,vN,hel,jL,_⟩
   .exact⟨([]:List du.ty.den),⟨_,rfl,.inl ⟨rfl,rfl⟩⟩,⟨by simp,λx hx=>by cases hx⟩,by simpa [Wgj]using hβ.nil⟩
   .have key:=Wps (w:=w) (β:=β) (e:=du.ty) (a:=a) du.ty.size (WbU _) len 0 (λi=>elems[i]?) (λcs=>DataW.trod enc P w 0 (λ_=>true) true m e cs)
     (λcs y hy=>WkZ hT hβ n m e du cs y h.1 hle hy) (λi _ hi=>by
      rw[Xbb]at hi;have:=hel i hi;rw[hsz]at this;have hlt:i<elems.length:=by omega
      rw[Xq hlt]at this;obtain⟨cs,h1,h2⟩:=Xbs.1 this;exact⟨elems[i],cs,h1,h2,Xq hlt⟩)
    obtain⟨l,cs,g1,g2,g3,g4,g5,g6⟩:=key;refine⟨l,⟨_,rfl,?_⟩,⟨by rw[g1];omega,g3⟩,?_⟩
    .by_cases h0:len=0
     .subst h0;exact .inr (.inr ⟨a,cap,rfl,Xaa g1⟩)
     .have oc:0<cs.length:=by rw[g5];exact Nat.mul_pos (by omega) (WbU _)
      have sA:=g4 0 _ (Xq oc);have sB:a.spot=none:=by
       rw[Xeu,Xax]at sA;have:=World.cell?_spot sA;simpa [Addr.add]using this
      obtain⟨b,off,spot⟩:=a;subst sB;refine .inr (.inl ⟨b,off,cap,cs,by rw[g1],by rw[g1];exact zT,ie,g2,λj v hj=>?_⟩);have:=g4 j v hj;rw[Xeu,Xbb,Wbc]at this;exact this
    .have h1:=hβ.slice (elems.map (·.1)) (rest.map (·.1));have h2:((Xda len).map λi=>match elems[0+i]? with|some y=>β y.1|none=>0).sum=(elems.map λy=>β y.1).sum:=by
      rw[←vN];exact WvD elems
     rw[h2]at g6;rw[Xeb]at h1;simp only[Wgj];have h3:(List.map (β∘λx=>x.1) elems)=elems.map λy=>β y.1:=rfl;rw[h3]at h1;show(List.map (Wgj du.ty) l).sum+1<=_;omega
  |struct fs=>
   simp only[Xi]at h;obtain⟨ha,fields,hu,eC,xP,_⟩:=bD.und;have h2:=h.2;split at h2
   .rename_i t1 ts mq;have gR:ty=Wen (t1::ts):=Wu h2;subst gR;obtain⟨xs,m,rfl,rfl,hcl,jk,oj⟩:=DataW.trod_struct hu hx;have hsz:P.cellsOf t=(Wen (t1::ts)).size:=by rw[WgX bD];rfl
    have key:=WjH (w:=w) (P:=P) hT hβ (λt cs=>DataW.trod enc P w 0 (λ_=>true) true m t cs) (cs:=cs) fs 0 (t1::ts) xs (by simp) mq
     (λfd iP te cs y xI hy=>WkZ hT hβ n m fd.2 te cs y (Xac.1 h.1 fd iP) xI hy) (by rw[jk,←eC];simp)
     (λi fd hi=>by
      rw[←eC]at hi;rw[Xan]at hi;obtain⟨fl,fe,he⟩:=Xv.1 hi;subst he;exact oj i fl (by simpa using fe)) (by rw[hcl,hsz,Xbb])
    obtain⟨d,g1,g2,g3⟩:=key;rw[Xch]at g1;refine⟨d,g1,g2,Xco g3 ?_⟩;have:=hβ.agg (xs.map (·.1));rw[Xeb]at this;exact this
   .cases h2
  |ptr e=>cases h
  |arr m e=>cases h
theorem WeY{G:GH}{w:World}:∀(t:Ty) (d:t.den) (vs:List Value),Enc G t d vs->TyRel G w t d vs []
 | .int _,_,_,h=>⟨rfl,h⟩
 | .bool,_,_,h=>⟨rfl,h⟩
 | .str,_,_,h=>⟨rfl,h⟩
 | .slice _,_,_,h=>⟨rfl,h⟩
 | .own _,_,_,h=>h.elim
 | .prod a b,d,vs,⟨c1,c2,he,h1,h2⟩=>⟨c1,c2,[],[],he,rfl,WeY a _ _ h1,WeY b _ _ h2⟩
def WoY:(ps:List PTy)->WfA ps->Prop
 | [],_=>True
 | .v t _::ps,d=>Wfd t d.1/\WoY ps d.2
 | .box _::_,_=>False
 | .mut _::_,_=>False
 | .clos _ _::_,_=>False
 | .kv _ _::_,_=>False
 | .rp _::_,_=>False
 | .vj _::_,_=>False
 | .boxal _ _::_,_=>False
def Wgq:(ps:List PTy)->WfA ps->Nat
 | [],_=>0
 | .v t _::ps,d=>Wgj t d.1+Wgq ps d.2
 | .box _::_,_=>0
 | .mut _::_,_=>0
 | .clos _ _::_,_=>0
 | .kv _ _::_,_=>0
 | .rp _::_,_=>0
 | .vj _::_,_=>0
 | .boxal _ _::_,_=>0
def Wwa(P:Program)(T:Tab):List TypeId->List PTy->Bool
 | [],[]=>true
 |t::ts,p::ps=>(match p with
  | .v ty agg=>(match look T t with|some te=>decide (te.ty=ty)&&(te.agg==agg)|none=>false)&&Wok T 20 t&&P.readableRec t&&Nat.blt t P.types.size&&Wwa P T ts ps
  | .box _=>false
  | .mut _=>false
  | .clos _ _=>false
  | .kv _ _=>false
  | .rp _=>false
  | .vj _=>false
  | .boxal _ _=>false)
 |_,_=>false
theorem Wng(hT:Wao P T)(hβ:Bulk β):∀(ts:List TypeId) (ps:List PTy) (vs:List Value) (ds:List (DataW H)) (pl:List MemPlace),Wwa P T ts ps=true->DataW.TrodAll enc P w 0 (λ_=>true) true ts vs ds pl->
  (∀(j:Nat) (t:TypeId) (v:Value),ts[j]?=some t->vs[j]?=some v->∃base,Value.okWide P w .any base t v)->
  ∃d:WfA ps,Wbw (Wim w) w ps d vs [] []/\WoY ps d/\Wgq ps d<=(ds.map β).sum
 | [],[],vs,ds,pl,_,h,_=>by
  obtain⟨rfl,rfl,_⟩:=trodAll_nil h;exact⟨(),⟨rfl,rfl,rfl⟩,trivial,by simp[Wgq]⟩
 | [],_::_,_,_,_,h,_,_=>by cases h
 |_::_,[],_,_,_,h,_,_=>by cases h
 |t::ts,.box _::ps,_,_,_,h,_,_=>by cases h
 |t::ts,.mut _::ps,_,_,_,h,_,_=>by cases h
 |t::ts,.clos _ _::ps,_,_,_,h,_,_=>by cases h
 |t::ts,.kv _ _::ps,_,_,_,h,_,_=>by cases h
 |t::ts,.rp _::ps,_,_,_,h,_,_=>by cases h
 |t::ts,.vj _::ps,_,_,_,h,_,_=>by cases h
 |t::ts,.boxal _ _::ps,_,_,_,h,_,_=>by cases h
 |t::ts,.v ty agg::ps,vs,ds,pl,hp,h,gm=>by
  obtain⟨v,vs',d,sD,p,q,rfl,rfl,rfl,h0,hr⟩:=trodAll_cons h;simp only[Wwa,Xi]at hp;obtain⟨⟨⟨⟨h1,h2⟩,h3⟩,h4⟩,h5⟩:=hp;split at h1
  .rename_i te hl;simp only[Xi]at h1;have e1:te.ty=ty:=Wu h1.1;have e2:te.agg=agg:=eq_of_beq h1.2;subst e1 e2;obtain⟨fuel,hx⟩:=h0;obtain⟨x,cy,xQ,fh⟩:=WkZ hT hβ 20 fuel t te _ (d,p) h2 hl hx;obtain⟨base,aJ⟩:=gm 0 t v rfl rfl;obtain⟨dd,g1,g2,g3⟩:=Wng hT hβ ts ps vs' sD q h5 hr (λj t v hj hv=>gm (j+1) t v (by simpa using hj) (by simpa using hv));refine⟨(x,dd),⟨v,vs',[],[],rfl,rfl,?_,g1⟩,⟨xQ,g2⟩,?_⟩
   .have hu:=(hT _ _ hl).und;unfold Wje;obtain⟨ty,ag,shape⟩:=te;simp only at cy xQ fh⊢;have dS:∀u:Value,u.cells= #[u]->u=v->v.cells.toList= [v]:=λu h e=>by rw[←e,h]
    cases shape with
    |basic=>
     obtain⟨ha,hu⟩:=hu;simp only at ha;subst ha;simp only[Xbg,Waw];have:v.cells.toList= [v]:=by
      cases ty with
      |int k=>obtain⟨n,rfl⟩:=okWide_int hu aJ;rfl
      |bool=>obtain⟨n,rfl⟩:=okWide_bool hu aJ;rfl
      |str=>obtain⟨n,rfl⟩:=okWide_string hu aJ;rfl
      |slice e=>cases hu
      |own e=>cases hu
      |prod a b=>cases hu
     rw[this]at cy;exact WeY _ _ _ cy
    |slice e=>
     obtain⟨ha,hu,_⟩:=hu;simp only at ha;subst ha;simp only[Xbg,Waw];obtain⟨a,l,c,rfl⟩:=okWide_slice hu aJ;exact WeY _ _ _ cy
    |struct fs=>
     obtain⟨ha,fields,hu,_⟩:=hu;simp only at ha;subst ha;simp only[Wav];obtain⟨cs,rfl,_⟩:=okWide_struct hu aJ;exact⟨cs.toList,by simp,WeY _ _ _ cy⟩
    |ptr e=>simp only[Wok,hl]at h2;cases h2
    |arr m e=>simp only[Wok,hl]at h2;cases h2
   .have fh:Wgj te.ty x<=β d:=fh;simp only[Wgq,Xak,Xct];omega
  .cases h1
theorem Wnm:∀(ts:List TypeId) (vs:List Value) (ds:List (DataW H)) (pl:List MemPlace),DataW.TrodAll enc P w 0 (λ_=>true) true ts vs ds pl->ds.length=ts.length
 | [],vs,ds,pl,h=>by obtain⟨_,rfl,_⟩:=trodAll_nil h;rfl
 |t::ts,vs,ds,pl,h=>by
  obtain⟨v,vs',d,sD,p,q,rfl,rfl,rfl,h0,hr⟩:=trodAll_cons h;simp[Wnm ts vs' sD q hr]
theorem WlX(jc:laidOutB P=true){W W':World}(hb:Below W.heap.size W W'){sp:Nat->Bool}:∀(ts:List TypeId) (ps:List PTy) (vs:List Value) (ds:List (DataW H)) (pl:List MemPlace),Wwa P T ts ps=true->
  DataW.TrodAll enc P W 0 (λ_=>true) true ts vs ds pl->(∀p∈pl,p.block<W.heap.size)->(∀p∈pl,sp p.block=true)->DataW.TrodAll enc P W' 0 sp true ts vs ds pl
 | [],ps,vs,ds,pl,_,h,_,_=>by
  obtain⟨rfl,rfl,rfl⟩:=trodAll_nil h;exact trodAll_mk0
 |t::ts,[],_,_,_,h,_,_,_=>by cases h
 |t::ts,.box _::ps,_,_,_,h,_,_,_=>by cases h
 |t::ts,.mut _::ps,_,_,_,h,_,_,_=>by cases h
 |t::ts,.clos _ _::ps,_,_,_,h,_,_,_=>by cases h
 |t::ts,.kv _ _::ps,_,_,_,h,_,_,_=>by cases h
 |t::ts,.rp _::ps,_,_,_,h,_,_,_=>by cases h
 |t::ts,.vj _::ps,_,_,_,h,_,_,_=>by cases h
 |t::ts,.boxal _ _::ps,_,_,_,h,_,_,_=>by cases h
 |t::ts,.v ty agg::ps,vs,ds,pl,hp,h,hlt,jL=>by
  obtain⟨v,vs',d,sD,p,q,rfl,rfl,rfl,h0,hr⟩:=trodAll_cons h;simp only[Wwa,Xi]at hp;obtain⟨⟨⟨⟨h1,h2⟩,h3⟩,h4⟩,h5⟩:=hp;have hrow:t<P.types.size:=by rw[Xgy]at h4;exact h4
  exact⟨p,q,WideElems.Trod_stays jc h3 hrow h0 (λx hx=>hb.same (hlt x (Xk _ hx))) (λx hx=>jL x (Xk _ hx)),
   WlX jc hb ts ps vs' sD q h5 hr (λx hx=>hlt x (Xg _ hx)) (λx hx=>jL x (Xg _ hx)),rfl⟩
theorem WtA{f:Func}{s:ChangeSpec}{apart fresh fO again:Bool}{W W':World}{args:Array Value}{v:Value}{ds gs:List (DataW H)}{before pa pv:List MemPlace}
  (hW:DataW.Whole enc P f.params.toList s.vars apart W args.toList ds gs before)
  (ik:∀(b:Nat) (sp:Nat->Bool) (hd:Bool),DataW.TrodAll enc P W' b sp hd f.resultTypes.toList (v.resultList f.resultTypes.size) (s.fn H (ds++gs)).results [])
  (hargs:∀sp:Nat->Bool,(∀p∈before,sp p.block=true)->DataW.TrodAll enc P W' 0 sp true f.params.toList args.toList (s.fn H (ds++gs)).args pa)
  (nq:∀sp:Nat->Bool,(∀p∈before,sp p.block=true)->DataW.TrodVars enc P W' sp s.vars (s.fn H (ds++gs)).vars pv)
  (ca:before=pa++pv) (hk:W.keptBut W' (· ∈before)) (xR:∀a,a.block<W.heap.size->W'.frozen? a=W.frozen? a)
  (aJ:∀(j:Nat) (t:TypeId) (r:Value),f.resultTypes[j]?=some t->(v.resultList f.resultTypes.size)[j]?=some r->Value.okWide P W' .any 0 t r):
  s.post enc P f apart fresh fO again W args v W':=by
 have gB:∀p∈before,(λb=>decide (b<W.heap.size)) p.block=true:=λp hp=>by simpa using hW.lt p hp
 refine⟨ds,gs,before,[],pa,pv,hW,ik _ _ _,hargs _ gB,nq _ gB,World.keptBut_mono (λp hp=>⟨hp,?_⟩) hk,λ_=>?_⟩
 .rw[ca,Xm]at hp;exact Or.inr hp
 .have hlt:=hW.lt;obtain⟨_,_,_,_,_,hz,hn⟩:=hW;refine⟨aJ,_,_,([]++pa)++pv,⟨[]++pa,pv,trodAll_append (hargs _ (λ_ _=>rfl)) (ik _ _ _),nq _ (λ_ _=>rfl),rfl,?_,?_⟩,?_⟩
  .intro b off hp;have dv:MemPlace.cell b off∈before:=by rw[ca];simpa using hp
   rw[xR ⟨b,off,none⟩ (hlt _ dv)];exact hz b off dv
  .intro ha;have:=hn ha;rw[ca]at this;simpa using this
  .intro p hp _;rw[ca];simpa using hp
theorem law_row(hT:Wao P T)(jc:laidOutB P=true){f:Func}{k:FuncId}{s:ChangeSpec}(dh:s.vars= [])(hs:∀ds:List (DataW H),ds.length=f.params.toList.length->s.fn H ds={results:=[.lit (.bool true)],args:=ds})
  {ps:List PTy} (ca:Wwa P T f.params.toList ps=true) {tb:TypeId} (ik:f.resultTypes= #[tb]) (xS:P.underlying tb=some .bool) {run:Nat->WfA ps->Option (Wgd ps×Whd [.v .bool false])}
  (kF:∀N,Good P k (Sig.of ps [.v .bool false] (run N))) (hβ:Bulk β) {ok:List (DataW H)->Prop} {M:Nat->Prop} (sE:∀ds m,ok ds->m<=(ds.map β).sum->M m)
  (vQ:∀d:WfA ps,WoY ps d->M (Wgq ps d)->∃N o,run N d=some (o,(true,()))) {apart fresh fO again:Bool}
  (W:World) (base:Nat) (args:Array Value) (ds gs:List (DataW H)) (before:List MemPlace)
  (gm:∀(j:Nat) t v,f.params[j]?=some t->args[j]?=some v->Value.okWide P W .any base t v)
  (hW:DataW.Whole enc P f.params.toList s.vars apart W args.toList ds gs before) (hk:ok ds):
  Calls P k args W λe W'=>∃v,e= .returned v/\s.post enc P f apart fresh fO again W args v W':=by
 have hW':=hW;have hlt:=hW.lt;obtain⟨p,q,hA,hV,xT,xR,aP⟩:=hW;rw[dh]at hV;obtain⟨vR,hq⟩:=trodVars_none hV;subst vR hq;rw[Xcw]at xT;subst xT;obtain⟨d,h1,h2,h3⟩:=Wng (w:=W) hT hβ f.params.toList ps args.toList ds before ca hA (λj t v hj hv=>⟨base,gm j t v (by simpa using hj) (by simpa using hv)⟩);obtain⟨N,o,ho⟩:=vQ d h2 (sE ds _ hk h3);have hc:=kF N d (o,(true,())) ho (Wim W) W args.toList [] [] h1 List.Pairwise.nil (by simp) (λb o v hv=>hv);have hargs:args.toList.toArray=args:=by simp
 rw[hargs]at hc;refine hc.mono λe W' ⟨rv,kf,ms,cD,G',he,ha⟩=>?_;have hb:Below W.heap.size W W':=⟨ha.le.os,ha.le.tape,ha.le.output,ha.le.size,λb hb=>ha.le.whole b hb (λo ⟨q,hq,_⟩=>by simp at hq)⟩;obtain⟨v,vs',n1,n2,e1,e2,e3,e4⟩:=ha.res;obtain⟨e5,_⟩:=e4;subst e5;have hv:v= .bool true:=by
  unfold Wje at e3;simp only[Xbg,Waw]at e3;have:=e3.2;simpa [Enc]using this
 subst hv;have di:Wi2 rv= .bool true:=by rw[e1];rfl
 rw[di]at he;refine⟨.bool true,he,?_⟩;have hlen:=Wnm _ _ _ _ hA;have vS:=hs (ds++ []) (by rw[Xcw];exact hlen);refine WtA (pa:=before) (pv:=[]) hW' ?_ ?_ ?_ (by simp) (hb.frame _) (λa ha=>hb.frozen ha) (ok_one ik rfl (okWide_bool_mk xS _))
 .intro b sp hd;rw[vS,ik];exact trodAll_cons_mk (shut_bool xS _) trodAll_mk0
 .intro sp jL;rw[vS,Xcw];exact WlX jc hb _ _ _ _ _ ca hA hlt jL
 .intro sp jL;rw[vS,dh];rfl
end
end Go.Sx
namespace Go.Sx
set_option linter.unusedVariables false
def sortInts(xs:List Int):List Int:=xs.mergeSort λx y=>decide (x<=y)
def Zpd(N:Nat)(xs:List Int):Option ((List Int×Unit)×Unit):=bif decide (xs.length<4611686018427387904)then some ((sortInts xs,()),())else none
theorem sortInt_some{N:Nat}{xs:List Int}{o:(List Int×Unit)×Unit}(h:Zpd N xs=some o):xs.length<4611686018427387904/\o=((sortInts xs,()),()):=by
 unfold Zpd at h;by_cases h':xs.length<4611686018427387904
 .rw[show decide (xs.length<4611686018427387904)=true by simpa using h']at h;simp only[Wc]at h;injection h with h;exact⟨h',h.symm⟩
 .rw[show decide (xs.length<4611686018427387904)=false by simpa using h']at h;cases h
end Go.Sx
namespace Go.Sx
set_option linter.unusedVariables false
def Wk3{α:Type}(r:α->α->Bool):List α->Bool
 | []=>true
 |x::l=>l.all (r x)&&Wk3 r l
def lessBy{α:Type}(cf:α->α->Int)(x y:α):Bool:=decide (cf x y<0)
def apart{α:Type}(cf:α->α->Int)(x y:α):Bool:=lessBy cf x y||lessBy cf y x
def sortBy{α:Type}(cf:α->α->Int)(xs:List α):List α:=xs.mergeSort λx y=>!lessBy cf y x
def Zma{α:Type}(rng:α->Bool)(cf:α->α->Int)(N:Nat)(xs:List α):Option ((List α×Unit)×Unit):=
 bif xs.all rng&&(Wk3 (apart cf) xs&&decide (xs.length<4611686018427387904))then some ((sortBy cf xs,()),())else none
structure SwoOn{α:Type}(rng:α->Bool)(cf:α->α->Int):Prop where
 irr:∀x,rng x=true->¬cf x x<0
 tr:∀x y z,rng x=true->rng y=true->rng z=true->cf x y<0->cf y z<0->cf x z<0
 nt:∀x y z,rng x=true->rng y=true->rng z=true->¬cf x y<0->¬cf y z<0->¬cf x z<0
theorem sortBy_some{α:Type}{rng:α->Bool}{cf:α->α->Int}{N:Nat}{xs:List α}{o:(List α×Unit)×Unit}(h:Zma rng cf N xs=some o):
  (∀x∈xs,rng x=true)/\Wk3 (apart cf) xs=true/\xs.length<4611686018427387904/\o=((sortBy cf xs,()),()):=by
 unfold Zma at h;cases hb:xs.all rng&&(Wk3 (apart cf) xs&&decide (xs.length<4611686018427387904))
 .rw[hb]at h;cases h
 .rw[hb]at h;simp only[Wc]at h;injection h with h;simp only[Xi,Wh]at hb;exact⟨Xac.1 hb.1,hb.2.1,hb.2.2,h.symm⟩
theorem pairs_get{α:Type}{r:α->α->Bool}:∀{l:List α},Wk3 r l=true->∀(i j:Nat) (hi:i<l.length) (hj:j<l.length),i<j->r l[i] l[j]=true
 | [],_,i,_,hi,_,_=>by simp at hi
 |x::l,h,0,j+1,hi,hj,hij=>by
  simp only[Wk3,Xi]at h;exact Xac.1 h.1 _ (List.getElem_mem _)
 |x::l,h,i+1,j+1,hi,hj,hij=>by
  simp only[Wk3,Xi]at h;simpa using pairs_get h.2 i j (by simpa using hi) (by simpa using hj) (by omega)
def WuA(k:Int):Bool:=decide (-1000000000<=k)&&decide (k<=1000000000)
def WwA(a:Int×Int×Int):Bool:=WuA a.1
def cfE(a b:Int×Int×Int):Int:=a.1-b.1
def Wvk(a:Int×Int×Int):Bool:=WuA a.1&&WuA a.2.1
def cfH(a b:Int×Int×Int):Int:=bif a.2.1==b.2.1 then a.1-b.1 else a.2.1-b.2.1
theorem Wg1{k:Int}(h:WuA k=true):-1000000000<=k/\k<=1000000000:=by unfold WuA at h;simpa using h
theorem WxK:SwoOn WwA cfE:=⟨λx _=>by unfold cfE;omega,λx y z _ _ _=>by unfold cfE;omega,λx y z _ _ _=>by unfold cfE;omega⟩
theorem Wcd{a b:Int×Int×Int}:cfH a b<0↔(a.2.1<b.2.1\/(a.2.1=b.2.1/\a.1<b.1)):=by
 unfold cfH;by_cases h:a.2.1=b.2.1
 .have:(a.2.1==b.2.1)=true:=by simpa using h
  rw[this];simp only[Wc];omega
 .have:(a.2.1==b.2.1)=false:=by simpa using h
  rw[this];simp only[We];omega
theorem WwF{a b:Int×Int×Int}(h:(a.2.1 !=b.2.1)=false):a.1-b.1=cfH a b:=by
 have h:a.2.1=b.2.1:=bne_eq_false_iff_eq.1 h;unfold cfH;rw[beq_iff_eq.2 h];rfl
theorem Www{a b:Int×Int×Int}(h:(a.2.1 !=b.2.1)=true):a.2.1-b.2.1=cfH a b:=by
 have h:a.2.1≠b.2.1:=bne_iff_ne.1 h;unfold cfH;rw[beq_eq_false_iff_ne.2 h];rfl
theorem WxJ:SwoOn Wvk cfH:=⟨λx _=>by rw[Wcd];omega,λx y z _ _ _=>by rw[Wcd,Wcd,Wcd];omega,λx y z _ _ _=>by rw[Wcd,Wcd,Wcd];omega⟩
end Go.Sx
