/- The abstract machine, part 3: a reflective interpreter of the program's code over data, with its soundness over the model. -/
import Derived.Test.YtceijnpnofmkkaaGreatEng2
open List renaming mem_cons→Xq,mem_cons_of_mem→Xf,mem_cons_self→Xk,length_append→Xs,getD_eq_getElem?_getD→Xac,getElem?_append→Xav,getElem?_cons_zero→Xdv,getElem?_eq_none→Xcv,all_eq_true→Xah,append_of_mem→Xej,mem_append→Xm,range→Xca,mem_filter→Xar,mem_range→Xen,filter_cons→Xbj,mem_map→Xx,eq_nil_of_length_eq_zero→Xt,eq_nil_iff_forall_not_mem→Xez,nodup_nil→Xde,mem_of_getElem?→Xat,nodup_cons→Xaj,nil_append→Xbu,cons_append→Xax,length_filter_le→Xet,length_range→Xfm,mem_append_left→Xl,mem_append_right→Xh,mem_flatMap→Xga,map_cons→Xag,map_map→Xek,map_congr_left→Xbz,append_nil→Xdi,nodup_append→Xak,filter_append→Xcx,prefix_append→Xgt,map_append→Xu,map_nil→Xbd,mem_erase_of_ne→Xgl,length_erase_of_mem→Xfv,length_pos_of_mem→Xge,length_cons→Xr,getElem?_cons_succ→Xeo,getElem?_eq_some_iff→Xae,getElem?_append_right→Xcg,getElem?_tail→Xcd,mapM_cons→Xfe,pairwise_singleton→Xbi,mem_singleton→Xaf,take_of_length_le→Xcs,getElem?_eq_getElem→Xp,drop_zero→Xbm,tail_cons→Xem,getElem?_map→Xaq,length→Xb,map→Xft,sum_cons→Xdc
open Nat renaming sub_self→Xda,blt_eq→Xhd,le_refl→Xn,zero_add→Xaz,zero_le→Xbp,sub_zero→Xdt,beq→Xbt,le_trans→Xcr,add_zero→Xbb,add_sub_cancel_left→Xce,le_of_ble_eq_true→Xgj,add_mul→Xcz,zero_mul→Xey
open Option renaming getD_some→Xer,bind_some→Xd,bind_eq_some_iff→Xbx,map_eq_some_iff→Xz
open Bool renaming and_eq_true→Xj,not_eq_true'→Xan,false_eq_true→Xbk,or_eq_true→Xck
open Array renaming getD_eq_getD_getElem?→Xcp,getElem?_setIfInBounds→Xfc,getElem?_eq_getElem→Xdn,getElem?_eq_some_iff→Xdk,replicate→Xeh
namespace Go.Sx
set_option linter.unusedVariables false
set_option linter.unusedSimpArgs false
theorem Wp7{x y:Nat}{l:List Nat}:y∈Wxq x l↔y=x\/y∈l:=by
 unfold Wxq;cases h:Wcz x l with
 |true=>
  have:=(WaZ x l).1 h;simp only[We];exact⟨.inr,λh=>h.elim (λe=>e▸this) id⟩
 |false=>simp
theorem Wkh{y:Nat}:∀(m l:List Nat),y∈Wnq m l↔y∈m\/y∈l
 | [],l=>by simp[Wnq]
 |x::m,l=>by
  rw[Wnq,Wkh m,Wp7,Xq];constructor
  .rintro(h|h|h)
   .exact .inl (.inr h)
   .exact .inl (.inl h)
   .exact .inr h
  .rintro((h|h)|h)
   .exact .inr (.inl h)
   .exact .inl h
   .exact .inr (.inr h)
theorem Wjt{acc:List (List Nat)}{y:Nat}:∀(ds l:List Nat),y∈Wl2 acc ds l↔(∃j∈ds,y=j\/y∈acc.getD j [])\/y∈l
 | [],l=>by simp[Wl2]
 |j::ds,l=>by
  rw[Wl2,Wjt ds,Wkh,Wp7];constructor
  .rintro(⟨k,hk,h⟩|h|h|h)
   .exact .inl ⟨k,Xf _ hk,h⟩
   .exact .inl ⟨j,Xk ..,.inr h⟩
   .exact .inl ⟨j,Xk ..,.inl h⟩
   .exact .inr h
  .rintro(⟨k,hk,h⟩|h)
   .rcases Xq.1 hk with rfl|hk
    .exact .inr (h.elim (λh=>.inr (.inl h)) .inl)
    .exact .inl ⟨k,hk,h⟩
   .exact .inr (.inr (.inr h))
def Wnh(ops:Array Oper)(S:Nat->Prop):Prop:=∀i o,ops[i]?=some o->S i->∀d∈WnG o,S d
theorem Wks{ops:Array Oper}{S:Nat->Prop}(hS:Wnh ops S):∀(l:List Oper) (acc:List (List Nat)),(∀(k:Nat) (o:Oper),l[k]?=some o->ops[acc.length+k]?=some o)->
  (∀i,S i->∀j∈acc.getD i [],S j)->∀i,S i->∀j∈(Wey l acc).getD i [],S j
 | [],acc,_,h=>h
 |o::l,acc,hl,h=>by
  refine Wks hS l _ (λk o' hk=>?_) (λi hi j hj=>?_)
  .have:=hl (k+1) o' (by simpa using hk);rw[Xs];have e:acc.length+(k+1)=acc.length+ [Wl2 acc (WnG o) []].length+k:=by simp;omega
   rw[←e];exact this
  .rw[Xac,Xav]at hj;split at hj
   .exact h i hi j (by rw[Xac];exact hj)
   .rename_i hlt;by_cases he:i=acc.length
    .subst he;simp only[Xda,Xdv,Xer]at hj;rcases(Wjt _ _).1 hj with⟨k,hk,ka⟩|hj
     .have hSk:=hS _ o (hl 0 o (by simp)) hi k hk;rcases ka with rfl|ka
      .exact hSk
      .exact h k hSk j ka
     .cases hj
    .have:[Wl2 acc (WnG o) []][i-acc.length]?=none:=Xcv (by simp;omega);rw[this]at hj;cases hj
theorem WqT{ops:Array Oper}{S:Nat->Prop}(hS:Wnh ops S){i j:Nat}(h:Wdo (Wey ops.toList []) j i=true)(hi:S i):S j:=
 Wks hS ops.toList [] (λk o hk=>by simpa using hk) (λi _ j hj=>by simp at hj) i hi j ((WaZ _ _).1 h)
theorem Wke{ops:Array Oper}:∀(l:List Oper) (n:Nat),WuC l n=true->∀(k:Nat) (o:Oper),l[k]?=some o->∀d∈WnG o,d<n+k
 | [],_,_,k,o,hk=>by simp at hk
 |o'::l,n,h,k,o,hk=>by
  simp only[WuC,Xj,Xah]at h;cases k with
  |zero=>
   simp at hk;subst hk;intro e he;have:=h.1 e he;rw[Xhd]at this;omega
  |succ k=>
   have:=Wke (ops:=ops) l (n+1) h.2 k o (by simpa using hk);intro e he;have:=this e he;omega
structure Order(ops:Array Oper)(l:List Nat):Prop where
 nodup:l.Nodup
 all:∀i,i<ops.size↔i∈l
 dep:∀p i s,l=p++i::s->∀o,ops[i]?=some o->∀d∈WnG o,d∈p
theorem Order.closed{ops:Array Oper}{l:List Nat}(h:Order ops l){p s:List Nat}(e:l=p++s):Wnh ops (· ∈p):=λi o ho hi d hd=>by
 obtain⟨a,b,rfl⟩:=Xej hi;have:=h.dep a i (b++s) (by rw[e];simp) o ho d hd;simp[this]
theorem Order.bef{ops:Array Oper}{l:List Nat}(h:Order ops l){p s:List Nat}{i j:Nat}(e:l=p++s)(hb:Wdo (Wey ops.toList []) j i=true)(hi:i∈p):j∈p:=
 WqT (h.closed e) hb hi
theorem Order.bef'{ops:Array Oper}{l:List Nat}(h:Order ops l){p s:List Nat}{i j:Nat}(e:l=p++i::s)(hb:Wdo (Wey ops.toList []) j i=true)(hne:j≠i):j∈p:=by
 have:=h.bef (p:=p++ [i]) (s:=s) (by rw[e];simp) hb (by simp);rcases Xm.1 this with h|h
 .exact h
 .simp at h;exact Wj h hne
def unl(ops:Array Oper)(listed:Array Bool):List Nat:=(Xca ops.size).filter λi=>!listed.getD i true
theorem Wgb{ops:Array Oper}{listed:Array Bool}{i:Nat}:i∈unl ops listed↔i<ops.size/\listed.getD i true=false:=by
 unfold unl;rw[Xar,Xen];simp
theorem WgF{α:Type}{p q:α->Bool}:∀(l:List α),(∀x∈l,q x=true->p x=true)->(∃x∈l,p x=true/\q x=false)->(l.filter q).length<(l.filter p).length
 | [],_,⟨x,hx,_⟩=>by cases hx
 |x::l,h,⟨y,hy,hp,hq⟩=>by
  have hle:∀(l:List α),(∀x∈l,q x=true->p x=true)->(l.filter q).length<=(l.filter p).length:=by
   intro l
   induction l with
   |nil=>intro _;simp
   |cons x l ih=>
    intro h;have:=ih λx hx=>h x (Xf _ hx);have hx:=h x (Xk ..);rw[Xbj,Xbj];cases hqx:q x with
    |true=>rw[hx hqx];simpa using this
    |false=>cases p x<;>simp<;>omega
  rw[Xbj,Xbj];rcases Xq.1 hy with rfl|hy
  .rw[hp,hq];have:=hle l λx hx=>h x (Xf _ hx);simp;omega
  .have:=WgF l (λx hx=>h x (Xf _ hx)) ⟨y,hy,hp,hq⟩;have hx:=h x (Xk ..);cases hqx:q x with
   |true=>rw[hx hqx];simpa using this
   |false=>cases p x<;>simp<;>omega
theorem WlU{listed:Array Bool}{i j:Nat}:(listed.setIfInBounds i true).getD j true=(if i=j then true else listed.getD j true):=by
 simp only[Xcp,Xfc];split
 .split<;>rfl
 .rfl
theorem WtN{listed:Array Bool}{i j:Nat}(hi:i<listed.size):(listed.setIfInBounds i true).getD j false=(if i=j then true else listed.getD j false):=by
 simp only[Xcp,Xfc];split
 .simp[hi]
 .rfl
theorem WvM{listed:Array Bool}{i:Nat}(hi:i<listed.size):listed.getD i true=listed.getD i false:=by
 simp[hi]
theorem WpF{o:Oper}{e:Edge}(he:e∈o.after)(hb:Region.binds .any e=true):e.on∈WnG o:=
 Xx.2 ⟨e,Xar.2 ⟨by simpa using he,hb⟩,rfl⟩
theorem Wpx{ops:Array Oper}(hb:∀(k:Nat) (o:Oper),ops[k]?=some o->∀d∈WnG o,d<k):∀(fuel t:Nat) (listed:Array Bool),listed.size=ops.size->(unl ops listed).length<=fuel->
  (Region.linearise.go .any ops fuel t listed []).Nodup/\
  (∀i,i∈Region.linearise.go .any ops fuel t listed []↔i∈unl ops listed)/\
  (∀p i s,Region.linearise.go .any ops fuel t listed []=p++i::s->∀o,ops[i]?=some o->∀e∈o.after,Region.binds .any e=true->listed.getD e.on false=true\/e.on∈p)
 |0,t,listed,hs,hlen=>by
  have:unl ops listed= []:=Xt (by omega);simp only[Region.linearise.go,List.reverse_nil,this];exact⟨by simp,by simp,λp i s h=>by simp at h⟩
 |fuel+1,t,listed,hs,hlen=>by
  have kB:Region.linearise.go .any ops (fuel+1) t listed []=match(Region.ready .any ops listed)[t%(Region.ready .any ops listed).length]? with
   |some i=>Region.linearise.go .any ops fuel (t/(Region.ready .any ops listed).length) (listed.setIfInBounds i true) [i]
   |none=>[]:=rfl
  rw[kB];cases hi:(Region.ready .any ops listed)[t%(Region.ready .any ops listed).length]? with
  |none=>
   have bY:Region.ready .any ops listed= []:=by
    cases hr:Region.ready .any ops listed with
    |nil=>rfl
    |cons x xs=>
     rw[hr]at hi;have hlt:t%(x::xs).length<(x::xs).length:=Nat.mod_lt _ (by simp);simp at hi;simp at hlt;omega
   have hu:unl ops listed= []:=by
    have key:∀n i,i<=n->i∉unl ops listed:=by
     intro n
     induction n with
     |zero=>
      intro i iT hm;obtain⟨h1,h2⟩:=Wgb.1 hm;have:i∈Region.ready .any ops listed:=by
       rw[mem_ready];refine⟨h2,ops[i],Xdn h1,λe he mC=>?_⟩;have:=hb i _ (Xdn h1) e.on (WpF he mC);omega
      rw[bY]at this;cases this
     |succ n ih=>
      intro i iT hm;obtain⟨h1,h2⟩:=Wgb.1 hm;have:i∈Region.ready .any ops listed:=by
       rw[mem_ready];refine⟨h2,ops[i],Xdn h1,λe he mC=>?_⟩;have hlt:=hb i _ (Xdn h1) e.on (WpF he mC);have du:=ih e.on (by omega);have h3:e.on<ops.size:=by omega
       cases h4:listed.getD e.on true with
       |false=>exact Wj (Wgb.2 ⟨h3,h4⟩) du
       |true=>rw[←WvM (by omega)];exact h4
      rw[bY]at this;cases this
    exact Xez.2 λi=>key i i (Xn _)
   rw[hu];exact⟨Xde,λ_=>Iff.rfl,λp i s h=>by simp at h⟩
  |some i=>
   have A3:=Xat hi;obtain⟨h1,o,ho,h3⟩:=mem_ready.1 A3;have sq:i<ops.size:=(Xdk.1 ho).1;have A4:i∈unl ops listed:=Wgb.2 ⟨sq,h1⟩;simp only[];rw[linearise_go_acc,List.reverse_singleton,List.singleton_append];have jD:(unl ops (listed.setIfInBounds i true)).length<=fuel:=by
    have:(unl ops (listed.setIfInBounds i true)).length<(unl ops listed).length:=by
     refine WgF _ (λx _ hx=>?_) ⟨i,Xen.2 sq,by simpa using h1,by rw[WlU];simp⟩;rw[WlU]at hx;split at hx
     .simp at hx
     .exact hx
    omega
   obtain⟨g1,g2,g3⟩:=Wpx hb fuel (t/(Region.ready .any ops listed).length) (listed.setIfInBounds i true) (by simp[hs]) jD;have hmem:∀j,j∈unl ops (listed.setIfInBounds i true)↔j∈unl ops listed/\j≠i:=λj=>by
    rw[Wgb,Wgb,WlU];constructor
    .rintro⟨q1,q2⟩;split at q2
     .cases q2
     .rename_i hne;exact⟨⟨q1,q2⟩,λe=>hne e.symm⟩
    .rintro⟨⟨q1,q2⟩,hne⟩;exact⟨q1,by rw[Wa (λe=>hne e.symm)];exact q2⟩
   refine⟨Xaj.2 ⟨λhm=>?_,g1⟩,λj=>?_,λp j s e o' iU ed ra mC=>?_⟩
   .exact((hmem i).1 ((g2 i).1 hm)).2 rfl
   .rw[Xq,g2,hmem];constructor
    .rintro(rfl|h)
     .exact A4
     .exact h.1
    .intro h;by_cases he:j=i
     .exact .inl he
     .exact .inr ⟨h,he⟩
   .cases p with
    |nil=>
     simp only[Xbu,List.cons.injEq]at e;obtain⟨rfl,_⟩:=e;rw[ho]at iU;injection iU with iU;subst iU;exact .inl (h3 ed ra mC)
    |cons x p=>
     simp only[Xax,List.cons.injEq]at e;obtain⟨rfl,e⟩:=e;rcases g3 p j s e o' iU ed ra mC with h|h
     .rw[WtN (by omega)]at h;split at h
      .rename_i he;exact .inr (by rw[he];simp)
      .exact .inl h
     .exact .inr (Xf _ h)
theorem Wi5{ops:Array Oper}{t:Nat}(hb:∀(k:Nat) (o:Oper),ops[k]?=some o->∀d∈WnG o,d<k):Order ops (Region.linearise .any ops t):=by
 have hu:∀i,i∈unl ops (Xeh ops.size false)↔i<ops.size:=λi=>by
  rw[Wgb];constructor
  .exactλh=>h.1
  .exactλh=>⟨h,by simp[h]⟩
 obtain⟨h1,h2,h3⟩:=Wpx hb ops.size t (Xeh ops.size false) (by simp) (by
  have:=Xet (λi=>!(Xeh ops.size false).getD i true) (Xca ops.size);rw[Xfm]at this;exact this)
 refine⟨h1,λi=>by unfold Region.linearise;rw[h2,hu],λp i s e o ho d hd=>?_⟩;unfold WnG at hd;obtain⟨ed,ra,rfl⟩:=Xx.1 hd;obtain⟨ra,mC⟩:=Xar.1 ra;rcases h3 p i s e o ho ed (by simpa using ra) mC with h|h
 .exfalso;rw[Xcp,Array.getElem?_replicate]at h;split at h<;>simp at h
 .exact h
theorem WjK{ops:Array Oper}{t:Nat}(hb:∀(k:Nat) (o:Oper),ops[k]?=some o->∀d∈WnG o,d<k):Order ops (Region.schedule true ops t):=by
 unfold Region.schedule;rw[Wb (by simp)];exact Wi5 hb
end Go.Sx
namespace Go.Sx
set_option linter.unusedVariables false
set_option linter.unusedSimpArgs false
def Wts(n:Nat)(kept:List Nat)(o:Oper):Bool:=match o.dst with
 |some d=>Nat.blt d n&& !Wcz d kept
 |none=>true
def WdJ(n:Nat)(kept:List Nat):Code->Bool
 | .region _ ops _=>ops.toList.all (Wts n kept)
 | .seq a b=>WdJ n kept a&&WdJ n kept b
 | .cond _ x y=>WdJ n kept x&&WdJ n kept y
 | .block _ c=>WdJ n kept c
 | .loop c=>WdJ n kept c
 |_=>true
theorem Woo{nt:Slots}{n:Nat}{kept:List Nat}(hn:nt.n=n)(hk:∀p∈nt.kept,p.1∈kept){o:Oper}(h:Wts n kept o=true):∀d,o.dst=some d->nt.Ok d:=λd hd=>by
 unfold Wts at h;rw[hd]at h;simp only[Xj,Xan]at h;refine⟨by have h1:=h.1;rw[Xhd]at h1;rw[hn];exact h1,λp hp e=>?_⟩;have:=hk p hp;rw[e]at this;rw[(WaZ d kept).2 this]at h;exact Wj h.2 (by simp)
def Ex.to:Ex->Exit
 | .normal=>.normal
 | .exit id=>.exit id
 | .ret=>.ret
section
variable{w0:World}{F:CS}{nt:Slots}{G0:GH}{P:Program}{T:Tab}{Γ:Ctx}{A:List (Nat×An)}{R:Type}{r:R}
def Wst(w0:World)(F:CS)(nt:Slots)(G0:GH)(k:St->Option R)(r:R)(K:Act->World->Prop):Prop:=
 ∀st a w G ν,Rel w0 F nt G0 G ν st a w->k st=some r->K a w
theorem WoY{G:GH}{ν:Nat->Nu}{st:St}{a:Act}{w:World}(hr:Rel w0 F nt G0 G ν st a w){ops:Array Oper}{j:Nat}{t:Tmp}(ht:(ops[j]?).bind (·.dst)=some t){b:Bool}(hb:(look st.env t).bind asB=some b):
  a.tmps[t]?=some (.bool b)/\yielded ops a.tmps j=some b:=by
 cases hl:look st.env t with
 |none=>simp[hl]at hb
 |some x=>
  simp only[hl,Xd]at hb;obtain⟨v,hv,hx⟩:=hr.env t x hl;have:=Wow x v b hx hb;subst this;refine⟨hv,?_⟩;unfold yielded;rw[ht];simp[hv]
theorem Wvo(hT:War P T)(hΓ:Wfx P Γ){ops:Array Oper}{o:Oper}(hd:∀d,o.dst=some d->nt.Ok d){k:St->Option R}{K:Act->World->Prop}{Q:Exit->Act->World->Prop}(hK:Wst w0 F nt G0 k r K)
  {st:St} {a:Act} {w:World} {G:GH} {ν:Nat->Nu} (hr:Rel w0 F nt G0 G ν st a w) (h:rxg T Γ A ops o st k=some r):
  if Region.wanted o (yielded ops a.tmps)then o.wp P a w K Q else K (a.put o.dst undef) w:=by
 unfold rxg at h;have iW:∀am,Rel w0 F nt G0 G ν am a w->Rel w0 F nt G0 G ν (am.put o.dst (.tup [])) (a.put o.dst undef) w:=λam bG=>
  bG.put hd ⟨[],rfl,rfl,λj x v hj=>by simp at hj⟩
 have eO:∀b:Bool,AValRel G ν st.nx (one .bool b) (.bool b):=λb=>WU (t:=.bool) (d:=b) (v:=.bool b) rfl;split at h
 .rename_i hg;simp only[Region.wanted,hg,WaD];exact Wta hT hΓ hr hd h (λam a' w' G' ν' bG hk=>hK _ _ _ _ _ bG hk)
 .rename_i j want hg;split at h
  .rename_i t ht;split at h
   .rename_i hl;obtain⟨v,hv,hx⟩:=hr.env t _ hl;have iy:v=undef:=by
     obtain⟨vs,h1,h2,_⟩:=hx;rw[h1,Xt h2];rfl
    subst iy;have hy:yielded ops a.tmps j=none:=by
     unfold yielded;rw[ht];simp only[Xd,hv];rfl
    simp only[Region.wanted,hg,hy];rw[Wa (by simp)];exact hK _ _ _ _ _ (iW _ hr) h
   .rename_i x _ hl;split at h
    .rename_i b hb;obtain⟨hv,hy⟩:=WoY hr ht (b:=b) (by rw[hl];exact hb);simp only[Region.wanted,hg,hy];have nD:=hr.rebind hv (eO b);cases b with
     |true=>
      simp only[We]at h;cases want with
      |true=>
       simp only[WaD]at h;simp only[beq_self_eq_true,WaD];exact Wta hT hΓ nD hd h (λam a' w' G' ν' bG hk=>hK _ _ _ _ _ bG hk)
      |false=>
       simp only[Xbk,WaE]at h;rw[Wa (by simp)];exact hK _ _ _ _ _ (iW _ nD) h
     |false=>
      simp only[Wc]at h;cases want with
      |true=>
       simp only[WaD]at h;rw[Wa (by simp)];exact hK _ _ _ _ _ (iW _ nD) h
      |false=>
       simp only[Xbk,WaE]at h;simp only[beq_self_eq_true,WaD];exact Wta hT hΓ nD hd h (λam a' w' G' ν' bG hk=>hK _ _ _ _ _ bG hk)
    .cases h
   .cases h
  .cases h
theorem Wvw(hT:War P T)(hΓ:Wfx P Γ){ops:Array Oper}:∀(l:List Oper),(∀o∈l,∀d,o.dst=some d->nt.Ok d)->∀{k:St->Option R} {Q:Exit->Act->World->Prop},Wst w0 F nt G0 k r (Q .normal)->
  Wst w0 F nt G0 (λst=>rxs T Γ A ops l st k) r (wpList P ops Q l)
 | [],_,k,Q,hK=>λst a w G ν hr h=>hK st a w G ν hr h
 |o::l,hd,k,Q,hK=>λst a w G ν hr h=>by
  have ih:=Wvw (ops:=ops) hT hΓ l (λo ho=>hd o (Xf _ ho)) hK;have h:rxg T Γ A ops o st (λam=>match opG A o am with
   |some (c,cH)=>bif c then rxs T Γ A ops l cH k else none
   |none=>none)=some r:=h
  have A5:Wst w0 F nt G0 (λam=>match opG A o am with
   |some (c,cH)=>bif c then rxs T Γ A ops l cH k else none
   |none=>none) r (wpList P ops Q l):=λdY a1 w1 G1 ν1 iX h1=>by
   have h1:(match opG A o dY with
    |some (c,cH)=>bif c then rxs T Γ A ops l cH k else none
    |none=>none)=some r:=h1
   split at h1
   .rename_i c ar hg;obtain⟨rfl,h1⟩:=WaQ h1;have:∃G' ν',Rel w0 F nt G0 G' ν' ar a1 w1:=by
     unfold opG at hg;split at hg
     .split at hg
      .injection hg with hg;injection hg with _ hg;subst hg;exact⟨G1,ν1,iX⟩
      .exact Wnv iX hg
     .injection hg with hg;injection hg with _ hg;subst hg;exact⟨G1,ν1,iX⟩
     .injection hg with hg;injection hg with _ hg;subst hg;exact⟨G1,ν1,iX⟩
     .injection hg with hg;injection hg with _ hg;subst hg;exact⟨G1,ν1,iX⟩
     .injection hg with hg;injection hg with _ hg;subst hg;exact⟨G1,ν1,iX⟩
    obtain⟨G2,ν2,iY⟩:=this;exact ih ar a1 w1 G2 ν2 iY h1
   .cases h1
  have:=Wvo hT hΓ (hd o (Xk ..)) (Q:=Q) A5 hr h;unfold wpList;split
  .rename_i hw;rw[Wb hw]at this;exact .inl this
  .rename_i hw;rw[Wa hw]at this;exact this
end
end Go.Sx
namespace Go.Sx
set_option linter.unusedVariables false
set_option linter.unusedSimpArgs false
section
variable{T:Tab}{Γ:Ctx}{A:List (Nat×An)}{ops:Array Oper}
theorem Wly{R:Type}(o:Oper)(st:St)(k:St->Option R):rx1 T Γ A o st k=(rx1 T Γ A o st some).bind k:=by
 unfold rx1;rw[Wgo,Wgo o st (λx objs nx=>some _),Option.bind_assoc];rfl
theorem WuM{R:Type}(o:Oper)(st:St)(k:St->Option R):rxg T Γ A ops o st k=(rxg T Γ A ops o st some).bind k:=by
 unfold rxg;cases o.guard with
 |none=>exact Wly o st k
 |some g=>
  obtain⟨j,want⟩:=g;simp only;cases(ops[j]?).bind (·.dst)with
  |none=>rfl
  |some t=>
   simp only;cases look st.env t with
   |none=>rfl
   |some x=>
    have main:(match asB x with
      |some b=>bif b
       then(if want then rx1 T Γ A o (st.put (some t) (one .bool true)) k else k ((st.put (some t) (one .bool true)).put o.dst (.tup [])))
       else(if want then k ((st.put (some t) (one .bool false)).put o.dst (.tup []))else rx1 T Γ A o (st.put (some t) (one .bool false)) k)
      |none=>none)=(match asB x with
      |some b=>bif b
       then(if want then rx1 T Γ A o (st.put (some t) (one .bool true)) some else some ((st.put (some t) (one .bool true)).put o.dst (.tup [])))
       else(if want then some ((st.put (some t) (one .bool false)).put o.dst (.tup []))else rx1 T Γ A o (st.put (some t) (one .bool false)) some)
      |none=>none).bind k:=by
     cases asB x with
     |none=>rfl
     |some b=>
      cases b<;>cases want
      .exact Wly _ _ _
      .rfl
      .rfl
      .exact Wly _ _ _
    cases x with
    |s y=>exact main
    |tup l=>
     cases l with
     |nil=>rfl
     |cons y l=>exact main
theorem Wpw{R:Type}{o:Oper}{st:St}{k:St->Option R}{r:R}(h:rxg T Γ A ops o st k=some r):∃am,rxg T Γ A ops o st some=some am/\k am=some r:=by
 rw[WuM]at h;exact Xbx.1 h
structure Eff(o:Oper)(v:AVal)(pre:Wal)(aq:Nat)(st am:St):Prop where
 env:∀t,look am.env t=if o.dst=some t then some v else look st.env t
 objs:am.objs=pre++st.objs
 nx:am.nx=aq
theorem Wds(st:St)(dst:Option Tmp)(x:AVal)(t:Nat):look (st.put dst x).env t=if dst=some t then some x else look st.env t:=by
 cases dst with
 |none=>simp[St.put]
 |some d=>
  simp only[St.put];rw[WK];by_cases h:d=t
  .subst h;simp
  .rw[Wa h,Wa (by simpa using h)]
theorem Wfo{st ar:St}{x:Operand}(h:∀t∈Wsk x,look ar.env t=look st.env t):ev ar x=ev st x:=by
 cases x with
 |tmp t=>exact h t (by simp[Wsk])
 |_=>rfl
theorem Wg8{st:St}{x:Operand}{v:AVal}:∀(l:List Operand),x∈l->ev st x=some v->∀id∈Wbc v,id∈We6 st l
 | [],h,_,_,_=>by cases h
 |y::l,h,hv,id,bO=>by
  simp only[We6];rcases Xq.1 h with rfl|h
  .rw[hv];exact Xl _ bO
  .split
   .exact Xh _ (Wg8 l h hv id bO)
   .exact Wg8 l h hv id bO
theorem WgM{st ar:St}:∀(l:List Operand),(∀x∈l,ev ar x=ev st x)->We6 ar l=We6 st l
 | [],_=>rfl
 |x::l,h=>by simp only[We6,h x (Xk ..),WgM l λy hy=>h y (Xf _ hy)]
theorem Wsw{o:Oper}{st am ar:St}(h:rx1 T Γ A o st some=some am)(he:∀x∈Wai o.op,ev ar x=ev st x)
  (hm:Wa1 o=true->ar.objs=st.objs/\ar.nx=st.nx) (hf:Wa1 o=false->∀id∈Wde o st,look ar.objs id=look st.objs id):
  ∃v pre aq,Eff o v pre aq st am/\(Wa1 o=false->pre= []/\aq=st.nx)/\
   ∃bZ,rx1 T Γ A o ar some=some bZ/\(Wa1 o=true->Eff o v pre aq ar bZ)/\(Wa1 o=false->Eff o v [] ar.nx ar bZ):=by
 unfold rx1 at*;rw[Wgo]at h;obtain⟨⟨v,objs',aq⟩,h1,h2⟩:=Xbx.1 h;injection h2 with h2;subst h2;cases eF:Wa1 o with
 |true=>
  obtain⟨e1,e2⟩:=hm eF;obtain⟨pre,rfl⟩:=WqF o st v objs' aq h1;refine⟨v,pre,aq,⟨λt=>Wds _ _ _ _,by cases o.dst<;>rfl,by cases o.dst<;>rfl⟩,by simp,?_⟩;have h3:rxe T Γ A o ar Wdf=some (v,pre++st.objs,aq):=by
   obtain⟨vL,yH,nx2⟩:=ar;simp only at e1 e2;subst e1 e2;rw[Wsi o (env:=vL) (st:=st) Wdf he];exact h1
  refine⟨_,?_,λ_=>⟨λt=>Wds (⟨ar.env,pre++st.objs,aq⟩) o.dst v t,?_,?_⟩,by simp⟩
  .rw[Wgo,h3];rfl
  .rw[e1];cases o.dst<;>rfl
  .cases o.dst<;>rfl
 |false=>
  rw[Wmv eF]at h1;obtain⟨u,h3,h4⟩:=Xbx.1 h1;injection h4 with h4;have e1:u=v:=Wm (λp:Out=>p.1) h4;have e2:st.objs=objs':=Wm (λp:Out=>p.2.1) h4;have e3:st.nx=aq:=Wm (λp:Out=>p.2.2) h4;subst e1 e2 e3;refine⟨u,[],st.nx,⟨λt=>Wds _ _ _ _,by cases o.dst<;>rfl,by cases o.dst<;>rfl⟩,by simp,?_⟩;have h5:Wvr T o ar=some u:=by
   rw[←h3];refine WqE eF he λA6 x hx v hv id bO=>hf eF id ?_;unfold Wde;rw[A6];exact Wg8 _ hx hv id bO
  refine⟨_,?_,by simp,λ_=>⟨λt=>Wds (⟨ar.env,ar.objs,ar.nx⟩) o.dst u t,?_,?_⟩⟩
  .rw[Wgo,Wmv eF,h5];rfl
  .cases o.dst<;>rfl
  .cases o.dst<;>rfl
theorem WvY{x:AVal}{b:Bool}(h:asB x=some b):x=one .bool b:=by
 unfold asB at h;split at h
 .injection h with h;subst h;rfl
 .cases h
theorem Wef{st:St}{t:Nat}{x:AVal}(h:look st.env t=some x)(t':Nat):look (st.put (some t) x).env t'=look st.env t':=by
 rw[Wds];split
 .rename_i e;injection e with e;subst e;exact h.symm
 .rfl
theorem WdV(st:St)(d:Option Tmp)(x:AVal):(st.put d x).objs=st.objs:=by cases d<;>rfl
theorem Wji(st:St)(d:Option Tmp)(x:AVal):(st.put d x).nx=st.nx:=by cases d<;>rfl
theorem WgR{o:Oper}{st ar:St}(h:∀x∈Wai o.op,ev ar x=ev st x):Wde o ar=Wde o st:=by
 unfold Wde;rw[WgM _ h]
theorem WsH{o:Oper}{st am ar:St}(h:rxg T Γ A ops o st some=some am)(he:∀t∈Wdy ops o,look ar.env t=look st.env t)
  (hm:Wa1 o=true->ar.objs=st.objs/\ar.nx=st.nx) (hf:Wa1 o=false->∀id∈Wde o st,look ar.objs id=look st.objs id):
  ∃v pre aq,Eff o v pre aq st am/\(Wa1 o=false->pre= []/\aq=st.nx)/\
   ∃bZ,rxg T Γ A ops o ar some=some bZ/\(Wa1 o=true->Eff o v pre aq ar bZ)/\(Wa1 o=false->Eff o v [] ar.nx ar bZ):=by
 have yI:∀x∈Wai o.op,ev ar x=ev st x:=λx hx=>Wfo λt ht=>he t (by
  unfold Wdy;exact Xl _ (Xga.2 ⟨x,hx,ht⟩))
 unfold rxg at h⊢;cases hg:o.guard with
 |none=>
  rw[hg]at h;exact Wsw h yI hm hf
 |some g=>
  obtain⟨j,want⟩:=g;rw[hg]at h;simp only at h⊢;cases ht:(ops[j]?).bind (·.dst)with
  |none=>rw[ht]at h;cases h
  |some t=>
   rw[ht]at h;simp only at h⊢;have jF:look ar.env t=look st.env t:=he t (by
    unfold Wdy;refine Xh _ ?_;rw[hg];simp only;rw[ht];simp)
   rw[jF];cases hx:look st.env t with
   |none=>rw[hx]at h;cases h
   |some x=>
    rw[hx]at h;have skip:∀(s s2:St) (s':St),some (s.put o.dst (.tup []))=some s'->(∀t,look s.env t=look st.env t)->s.objs=st.objs->s.nx=st.nx->(∀t,look s2.env t=look ar.env t)->s2.objs=ar.objs->s2.nx=ar.nx->
      ∃v pre aq,Eff o v pre aq st s'/\(Wa1 o=false->pre= []/\aq=st.nx)/\
       ∃bZ,some (s2.put o.dst (.tup []))=some bZ/\(Wa1 o=true->Eff o v pre aq ar bZ)/\(Wa1 o=false->Eff o v [] ar.nx ar bZ):=by
     intro s s2 s' hs a1 a2 a3 b1 b2 b3;injection hs with hs;subst hs;refine⟨.tup [],[],st.nx,⟨λt=>?_,by rw[WdV,a2];rfl,by rw[Wji,a3]⟩,λ_=>⟨rfl,rfl⟩,_,rfl,λeF=>⟨λt=>?_,by rw[WdV,b2];rfl,by rw[Wji,b3];exact(hm eF).2⟩,λ_=>⟨λt=>?_,by rw[WdV,b2];rfl,by rw[Wji,b3]⟩⟩
     .rw[Wds,a1]
     .rw[Wds,b1]
     .rw[Wds,b1]
    have doit:∀b:Bool,x=one .bool b->rx1 T Γ A o (st.put (some t) (one .bool b)) some=some am->
      ∃v pre aq,Eff o v pre aq st am/\(Wa1 o=false->pre= []/\aq=st.nx)/\
       ∃bZ,rx1 T Γ A o (ar.put (some t) (one .bool b)) some=some bZ/\(Wa1 o=true->Eff o v pre aq ar bZ)/\(Wa1 o=false->Eff o v [] ar.nx ar bZ):=by
     intro b hb h1;subst hb;have l1:=Wef hx;have l2:=Wef (st:=ar) (t:=t) (x:=one .bool b) (by rw[jF];exact hx);have sr:∀x∈Wai o.op,ev (st.put (some t) (one .bool b)) x=ev st x:=λx hx=>Wfo λt' _=>l1 t';have vM:∀x∈Wai o.op,ev (ar.put (some t) (one .bool b)) x=ev ar x:=λx hx=>Wfo λt' _=>l2 t';obtain⟨v,pre,aq,e1,e2,bZ,e3,e4,e5⟩:=Wsw (ar:=ar.put (some t) (one .bool b)) h1 (λx hx=>by rw[vM x hx,sr x hx,yI x hx])
      (λeF=>hm eF) (λiv id bO=>hf iv id (by rw[←WgR sr];exact bO))
     refine⟨v,pre,aq,⟨λt'=>by rw[e1.env,l1],e1.objs,e1.nx⟩,e2,bZ,e3,λeF=>⟨λt'=>by rw[(e4 eF).env,l2],(e4 eF).objs,(e4 eF).nx⟩,λeF=>⟨λt'=>by rw[(e5 eF).env,l2],(e5 eF).objs,(e5 eF).nx⟩⟩
    have main:(match asB x with
      |some b=>bif b
       then(if want then rx1 T Γ A o (st.put (some t) (one .bool true)) some else some ((st.put (some t) (one .bool true)).put o.dst (.tup [])))
       else(if want then some ((st.put (some t) (one .bool false)).put o.dst (.tup []))else rx1 T Γ A o (st.put (some t) (one .bool false)) some)
      |none=>none)=some am->∃v pre aq,Eff o v pre aq st am/\(Wa1 o=false->pre= []/\aq=st.nx)/\
       ∃bZ,(match asB x with
      |some b=>bif b
       then(if want then rx1 T Γ A o (ar.put (some t) (one .bool true)) some else some ((ar.put (some t) (one .bool true)).put o.dst (.tup [])))
       else(if want then some ((ar.put (some t) (one .bool false)).put o.dst (.tup []))else rx1 T Γ A o (ar.put (some t) (one .bool false)) some)
      |none=>none)=some bZ/\(Wa1 o=true->Eff o v pre aq ar bZ)/\(Wa1 o=false->Eff o v [] ar.nx ar bZ):=by
     intro h;cases hb:asB x with
     |none=>rw[hb]at h;cases h
     |some b=>
      rw[hb]at h;have eO:=WvY hb;have r1:∀b',b'=b->∀t',look (st.put (some t) (one .bool b')).env t'=look st.env t':=λb' e=>by subst e;exact Wef (by rw[hx,eO])
      have r2:∀b',b'=b->∀t',look (ar.put (some t) (one .bool b')).env t'=look ar.env t':=λb' e=>by subst e;exact Wef (by rw[jF,hx,eO])
      cases b<;>cases want
      .exact doit false eO h
      .exact skip _ _ _ h (r1 _ rfl) (WdV _ _ _) (Wji _ _ _) (r2 _ rfl) (WdV _ _ _) (Wji _ _ _)
      .exact skip _ _ _ h (r1 _ rfl) (WdV _ _ _) (Wji _ _ _) (r2 _ rfl) (WdV _ _ _) (Wji _ _ _)
      .exact doit true eO h
    cases x with
    |s y=>exact main h
    |tup l=>
     cases l with
     |nil=>exact skip st ar am h (λ_=>rfl) rfl rfl (λ_=>rfl) rfl rfl
     |cons y l=>exact main h
end
end Go.Sx
namespace Go.Sx
set_option linter.unusedVariables false
set_option linter.unusedSimpArgs false
structure Rc where
 i:Nat
 v:AVal
 pre:Wal
 nx:Nat
 ids:List Nat
 mv:Bool
section
variable{T:Tab}{Γ:Ctx}{A:List (Nat×An)}{ops:Array Oper}
structure StepTo(T:Tab)(Γ:Ctx)(A:List (Nat×An))(ops:Array Oper)(ρ:Rc)(o:Oper)(st am:St):Prop where
 at_:ops[ρ.i]?=some o
 isM:ρ.mv=Wa1 o
 lk:ρ.mv=false->ρ.ids=Wde o st
 run:rxg T Γ A ops o st some=some am
 env:∀t,look am.env t=if o.dst=some t then some ρ.v else look st.env t
 objs:am.objs=if ρ.mv then ρ.pre++st.objs else st.objs
 nx:am.nx=if ρ.mv then ρ.nx else st.nx
def Wwy(T:Tab)(Γ:Ctx)(A:List (Nat×An))(ops:Array Oper):List Rc->St->St->Prop
 | [],st,am=>st=am
 |ρ::l,st,am=>∃o dY,StepTo T Γ A ops ρ o st dY/\Wwy T Γ A ops l dY am
theorem WrG{i:Nat}{o:Oper}{st am:St}(hi:ops[i]?=some o)(h:rxg T Γ A ops o st some=some am):
  ∃ρ:Rc,ρ.i=i/\StepTo T Γ A ops ρ o st am:=by
 obtain⟨v,pre,aq,e1,e2,_⟩:=WsH (ar:=st) h (λ_ _=>rfl) (λ_=>⟨rfl,rfl⟩) (λ_ _ _=>rfl);refine⟨⟨i,v,pre,aq,Wde o st,Wa1 o⟩,rfl,hi,rfl,λ_=>rfl,h,e1.env,?_,?_⟩
 .simp only;cases hm:Wa1 o with
  |true=>simpa using e1.objs
  |false=>rw[e1.objs,(e2 hm).1];rfl
 .simp only;cases hm:Wa1 o with
  |true=>simpa using e1.nx
  |false=>rw[e1.nx,(e2 hm).2];rfl
theorem StepTo.move{ρ:Rc}{o:Oper}{st am ar:St}(h:StepTo T Γ A ops ρ o st am)(he:∀t∈Wdy ops o,look ar.env t=look st.env t)
  (hm:ρ.mv=true->ar.objs=st.objs/\ar.nx=st.nx) (hf:ρ.mv=false->∀id∈ρ.ids,look ar.objs id=look st.objs id):
  ∃bZ,StepTo T Γ A ops ρ o ar bZ:=by
 obtain⟨v,pre,aq,e1,e2,bZ,e3,e4,e5⟩:=WsH (ar:=ar) h.run he (λeF=>hm (by rw[h.isM];exact eF)) (λiv id bO=>hf (by rw[h.isM];exact iv) id (by rw[h.lk (by rw[h.isM];exact iv)];exact bO));have hv:∀t,o.dst=some t->v=ρ.v:=λt ht=>by
  have a:=e1.env t;have b:=h.env t;rw[Wb ht]at a b;rw[a]at b;injection b
 have vd:ρ.mv=false->Wde o ar=Wde o st:=λ_=>WgR λx hx=>Wfo λt ht=>he t (by
  unfold Wdy;exact Xl _ (Xga.2 ⟨x,hx,ht⟩))
 cases eF:Wa1 o with
 |true=>
  have hρ:ρ.mv=true:=by rw[h.isM];exact eF
  have e4:=e4 eF;obtain⟨q1,q2⟩:=hm hρ;refine⟨bZ,h.at_,h.isM,λhf=>(by rw[hρ]at hf;cases hf),e3,λt=>?_,?_,?_⟩
  .rw[e4.env];split
   .rename_i ht;rw[hv t ht]
   .rfl
  .rw[e4.objs,hρ];simp only[WaD];have a:=e1.objs;have b:=h.objs;rw[hρ]at b;simp only[WaD]at b;rw[a]at b;rw[List.append_cancel_right b]
  .rw[e4.nx,hρ];simp only[WaD];have a:=e1.nx;have b:=h.nx;rw[hρ]at b;simp only[WaD]at b;rw[←a,b]
 |false=>
  have hρ:ρ.mv=false:=by rw[h.isM];exact eF
  have e5:=e5 eF;refine⟨bZ,h.at_,h.isM,λhf=>by rw[vd hρ];exact h.lk hρ,e3,λt=>?_,?_,?_⟩
  .rw[e5.env];split
   .rename_i ht;rw[hv t ht]
   .rfl
  .rw[e5.objs,hρ];rfl
  .rw[e5.nx,hρ];rfl
def WuI(ids:List Nat)(pre:Wal):Prop:=∀id∈ids,id∉WhK pre
def WxJ(B:List (List Nat))(x y:Rc):Prop:=
 (x.mv=false->y.mv=true->Wdo B x.i y.i=true\/WuI x.ids y.pre)/\
 (x.mv=true->y.mv=false->Wdo B x.i y.i=true\/WuI y.ids x.pre)
theorem WeI{α:Type}:∀(l:List Nat) (k:List Nat->α),WgI l k=k l
 | [],_=>rfl
 |x::l,k=>by rw[WgI,WeI l]
theorem Wms{α:Type}:∀(l:List (List Nat)) (k:List (List Nat)->α),Wpr l k=k l
 | [],_=>rfl
 |x::l,k=>by rw[Wpr,WeI,Wms l]
theorem Wj9{ids:List Nat}{pre:Wal}(h:Whx ids (WhK pre)=true):WuI ids pre:=λid bO hk=>by
 unfold Whx at h;have:=Xah.1 h id bO;rw[(WaZ id _).2 hk]at this;cases this
theorem Wre(pre objs:Wal):WsY objs (pre++objs)=WhK pre:=by
 unfold WsY;simp
theorem WkM{B:List (List Nat)}{R:Type}{k:St->Option R}{r:R}:∀(l:List Nat) (fl mu:List (Nat×List Nat)) (st:St),rdx T Γ A ops B l fl mu st k=some r->
  ∃(rs:List Rc) (am:St),rs.map (·.i)=l/\Wwy T Γ A ops rs st am/\k am=some r/\rs.Pairwise (WxJ B)/\
   (∀p∈fl,∀ρ∈rs,ρ.mv=true->Wdo B p.1 ρ.i=true\/WuI p.2 ρ.pre)/\
   (∀p∈mu,∀ρ∈rs,ρ.mv=false->Wdo B p.1 ρ.i=true\/Whx ρ.ids p.2=true)
 | [],fl,mu,st,h=>⟨[],st,rfl,rfl,h,List.Pairwise.nil,by simp,by simp⟩
 |i::l,fl,mu,st,h=>by
  simp only[rdx]at h;cases ho:ops[i]? with
  |none=>rw[ho]at h;cases h
  |some o=>
   rw[ho]at h;simp only at h;cases hm:Wa1 o with
   |true=>
    simp only[hm,We]at h;obtain⟨dY,h1,h2⟩:=Wpw h;rw[WeI]at h2;obtain⟨lv,h2⟩:=WaQ h2;obtain⟨ρ,hi,hs⟩:=WrG ho h1;have hρ:ρ.mv=true:=by rw[hs.isM];exact hm
    have aK:=hs.objs;rw[hρ]at aK;simp only[WaD]at aK;rw[aK,Wre]at lv h2;obtain⟨rs,am,q1,q2,q3,q4,q5,q6⟩:=WkM l _ _ _ h2;refine⟨ρ::rs,am,by simp[hi,q1],⟨o,dY,hs,q2⟩,q3,List.Pairwise.cons (λy hy=>⟨λhf=>(by rw[hρ]at hf;cases hf),λ_ oE=>?_⟩) q4,λp hp y hy oF=>?_,λp hp y hy oE=>?_⟩
    .rcases q6 (i,WhK ρ.pre) (Xk ..) y hy oE with h|h
     .rw[hi];exact .inl h
     .exact .inr (Wj9 h)
    .rcases Xq.1 hy with rfl|hy
     .have:=Xah.1 lv p hp;rw[Xck]at this;rw[hi];exact this.imp id Wj9
     .exact q5 p hp y hy oF
    .rcases Xq.1 hy with rfl|hy
     .rw[hρ]at oE;cases oE
     .exact q6 p (Xf _ hp) y hy oE
   |false=>
    simp only[hm,Wc]at h;rw[WeI]at h;obtain⟨lv,h⟩:=WaQ h;obtain⟨dY,h1,h2⟩:=Wpw h;obtain⟨ρ,hi,hs⟩:=WrG ho h1;have hρ:ρ.mv=false:=by rw[hs.isM];exact hm
    have vN:=hs.lk hρ;rw[←vN]at lv h2;obtain⟨rs,am,q1,q2,q3,q4,q5,q6⟩:=WkM l _ _ _ h2;refine⟨ρ::rs,am,by simp[hi,q1],⟨o,dY,hs,q2⟩,q3,List.Pairwise.cons (λy hy=>⟨λ_ oF=>?_,λhf=>(by rw[hρ]at hf;cases hf)⟩) q4,λp hp y hy oF=>?_,λp hp y hy oE=>?_⟩
    .rw[hi];exact q5 (i,ρ.ids) (Xk ..) y hy oF
    .rcases Xq.1 hy with rfl|hy
     .rw[hρ]at oF;cases oF
     .exact q5 p (Xf _ hp) y hy oF
    .rcases Xq.1 hy with rfl|hy
     .have:=Xah.1 lv p hp;rw[Xck]at this;rw[hi];exact this
     .exact q6 p hp y hy oE
def Weu(ops:Array Oper)(i:Nat):Option Tmp:=(ops[i]?).bind (·.dst)
def WpA(ops:Array Oper):List Rc->(Nat->Option AVal)->Nat->Option AVal
 | [],e,t=>e t
 |ρ::a,e,t=>WpA ops a (λt'=>if Weu ops ρ.i=some t' then some ρ.v else e t') t
def Wia:List Rc->Wal×Nat->Wal×Nat
 | [],m=>m
 |ρ::a,m=>Wia a (if ρ.mv then(ρ.pre++m.1,ρ.nx)else m)
theorem Whw:∀(rs:List Rc) (st am:St),Wwy T Γ A ops rs st am->(∀t,look am.env t=WpA ops rs (look st.env) t)/\(am.objs,am.nx)=Wia rs (st.objs,st.nx)
 | [],st,am,h=>by cases h;exact⟨λ_=>rfl,rfl⟩
 |ρ::rs,st,am,⟨o,dY,hs,h⟩=>by
  obtain⟨h1,h2⟩:=Whw rs dY am h;have e:(look dY.env)= λt'=>if Weu ops ρ.i=some t' then some ρ.v else look st.env t':=funext λt=>by
   rw[hs.env];unfold Weu;rw[hs.at_];rfl
  refine⟨λt=>by rw[h1,e];rfl,?_⟩;rw[h2,Wia];congr 1;rw[hs.objs,hs.nx];split<;>rfl
theorem Wkz:∀(a:List Rc) (ρ:Rc) (b:List Rc) (st am:St),Wwy T Γ A ops (a++ρ::b) st am->∃o dY ar,Wwy T Γ A ops a st dY/\StepTo T Γ A ops ρ o dY ar
 | [],ρ,b,st,am,⟨o,dY,hs,h⟩=>⟨o,st,dY,rfl,hs⟩
 |x::a,ρ,b,st,am,⟨o,dY,hs,h⟩=>by
  obtain⟨o',s1,s2,h1,h2⟩:=Wkz a ρ b dY am h;exact⟨o',s1,s2,⟨o,dY,hs,h1⟩,h2⟩
theorem WbR:∀(a:List Rc) (m:Wal×Nat),Wia a m=Wia (a.filter (·.mv)) m
 | [],_=>rfl
 |ρ::a,m=>by
  rw[Wia,WbR a,Xbj];cases h:ρ.mv with
  |true=>simp only[WaD,Wia,h]
  |false=>simp only[Xbk,WaE]
theorem WdS:∀(a b:List Rc) (m:Wal×Nat),Wia (a++b) m=Wia b (Wia a m)
 | [],_,_=>rfl
 |ρ::a,b,m=>by rw[Xax,Wia,WdS a b];rfl
theorem WiP{pre objs:Wal}{id:Nat}(h:id∉WhK pre):look (pre++objs) id=look objs id:=by
 induction pre with
 |nil=>rfl
 |cons p pre ih=>
  obtain⟨j,ob⟩:=p;simp only[WhK,Xag,Xq,not_or]at h;rw[Xax,WK,Wa (λe=>h.1 e.symm)];exact ih h.2
theorem WiX{id:Nat}:∀(a:List Rc) (m:Wal×Nat),(∀ρ∈a,ρ.mv=true->id∉WhK ρ.pre)->look (Wia a m).1 id=look m.1 id
 | [],_,_=>rfl
 |ρ::a,m,h=>by
  rw[Wia,WiX a _ λx hx=>h x (Xf _ hx)];split
  .rename_i hm;exact WiP (h ρ (Xk ..) hm)
  .rfl
def WlV(ops:Array Oper):Prop:=∀i j t,Weu ops i=some t->Weu ops j=some t->i=j
theorem WgP{t:Nat}:∀(a:List Rc) (e:Nat->Option AVal),(∀ρ∈a,Weu ops ρ.i≠some t)->WpA ops a e t=e t
 | [],_,_=>rfl
 |ρ::a,e,h=>by
  rw[WpA,WgP a _ λx hx=>h x (Xf _ hx),Wa (h ρ (Xk ..))]
theorem WjA{t:Nat}(h1:WlV ops):∀(a:List Rc) (e:Nat->Option AVal),(a.map (·.i)).Nodup->∀ρ∈a,Weu ops ρ.i=some t->WpA ops a e t=some ρ.v
 | [],_,_,_,h,_=>by cases h
 |x::a,e,hn,ρ,hρ,ht=>by
  rw[Xag,Xaj]at hn;rw[WpA];rcases Xq.1 hρ with rfl|hρ
  .rw[WgP a _ λy hy A7=>hn.1 (by rw[h1 _ _ _ ht A7];exact Xx.2 ⟨y,hy,rfl⟩),Wb ht]
  .exact WjA h1 a _ hn.2 ρ hρ ht
theorem Wkc{t:Nat}(h1:WlV ops){a b:List Rc}{e:Nat->Option AVal}(ha:(a.map (·.i)).Nodup)(hb:(b.map (·.i)).Nodup)
  (h:∀ρ,Weu ops ρ.i=some t->(ρ∈a↔ρ∈b)):WpA ops a e t=WpA ops b e t:=by
 by_cases hx:∃ρ∈a,Weu ops ρ.i=some t
 .obtain⟨ρ,hρ,ht⟩:=hx;rw[WjA h1 a e ha ρ hρ ht,WjA h1 b e hb ρ ((h ρ ht).1 hρ) ht]
 .rw[WgP a e λρ hρ ht=>hx ⟨ρ,hρ,ht⟩,WgP b e λρ hρ ht=>hx ⟨ρ,(h ρ ht).2 hρ,ht⟩]
end
end Go.Sx
namespace Go.Sx
set_option linter.unusedVariables false
set_option linter.unusedSimpArgs false
theorem Wf1{α:Type}{x:α}:∀{a c b d:List α},(a++x::b).Nodup->a++x::b=c++x::d->a=c
 | [],[],_,_,_,_=>rfl
 | [],y::c,b,d,hn,h=>by
  simp only[Xbu,Xax,List.cons.injEq]at h;obtain⟨rfl,h⟩:=h;rw[Xbu,Xaj]at hn;exact Wj (by rw[h];simp) hn.1
 |y::a,[],b,d,hn,h=>by
  simp only[Xbu,Xax,List.cons.injEq]at h;obtain⟨rfl,h⟩:=h;rw[Xax,Xaj]at hn;exact Wj (by simp) hn.1
 |y::a,z::c,b,d,hn,h=>by
  simp only[Xax,List.cons.injEq]at h;obtain⟨rfl,h⟩:=h;rw[Xax,Xaj]at hn;rw[Wf1 hn.2 h]
def WaO(ops:Array Oper)(i:Nat):Bool:=match ops[i]? with
 |some o=>Wa1 o
 |none=>false
theorem Rel.same{w0:World}{F:CS}{nt:Slots}{G0 G:GH}{ν:Nat->Nu}{st ar:St}{a:Act}{w:World}(h:Rel w0 F nt G0 G ν st a w)
  (he:∀t,look ar.env t=look st.env t) (ho:ar.objs=st.objs) (hn:ar.nx=st.nx):Rel w0 F nt G0 G ν ar a w:=
 ⟨h.defers,h.ntm,h.par,λi x hx=>by rw[he]at hx;rw[hn];exact h.env i x hx,by rw[ho,hn];exact h.h,h.gx⟩
theorem WvE:∀(rs:List Rc),(rs.map (·.i)).Nodup->∃rec:Nat->Rc,∀ρ∈rs,rec ρ.i=ρ
 | [],_=>⟨λi=>⟨i,.tup [],[],0,[],false⟩,by simp⟩
 |ρ::rs,h=>by
  rw[Xag,Xaj]at h;obtain⟨rec,hr⟩:=WvE rs h.2;refine⟨λi=>if i=ρ.i then ρ else rec i,λx hx=>?_⟩;rcases Xq.1 hx with rfl|hx
  .simp
  .simp only;rw[Wa (λe=>h.1 (by rw[←e];exact Xx.2 ⟨x,hx,rfl⟩))];exact hr x hx
section
variable{w0:World}{F:CS}{nt:Slots}{G0:GH}{P:Program}{T:Tab}{Γ:Ctx}{A:List (Nat×An)}{ops:Array Oper}{Q:Exit->Act->World->Prop}
theorem WrP(hT:War P T)(hΓ:Wfx P Γ)(hd:∀o∈ops,∀d,o.dst=some d->nt.Ok d){l L:List Nat}(hl:Order ops l)(hL:Order ops L)(eO:WlV ops)
  (hsl:∀(i:Nat) (o:Oper) (t:Nat),ops[i]?=some o->t∈Wdy ops o->∀j,Weu ops j=some t->j=i\/Wdo (Wey ops.toList []) j i=true\/Wdo (Wey ops.toList []) i j=true)
  (hσ:l.filter (WaO ops)=L.filter (WaO ops)) {rs:List Rc} {st am:St} (kb:rs.map (·.i)=L) (lw:Wwy T Γ A ops rs st am) (cy:rs.Pairwise (WxJ (Wey ops.toList [])))
  (hK:∀a w G ν,Rel w0 F nt G0 G ν am a w->Q .normal a w) {a:Act} {w:World} {G:GH} {ν:Nat->Nu} (hr:Rel w0 F nt G0 G ν st a w):wpOps P ops Q l a w:=by
 have bf:(rs.map (·.i)).Nodup:=by rw[kb];exact hL.nodup
 obtain⟨rec,de⟩:=WvE rs bf;have hLr:L.map rec=rs:=by
  rw[←kb,Xek]
  conv=>rhs;rw[←List.map_id rs]
  exact Xbz λρ hρ=>de ρ hρ
 have jG:∀i,i∈l↔i∈L:=λi=>by rw[←hl.all,hL.all]
 have kd:∀i∈L,(rec i).i=i/\rec i∈rs:=λi hi=>by
  rw[←kb]at hi;obtain⟨ρ,hρ,rfl⟩:=Xx.1 hi;rw[de ρ hρ];exact⟨rfl,hρ⟩
 have fo:∀i∈L,∃pre post o dY ar,L=pre++i::post/\Wwy T Γ A ops (pre.map rec) st dY/\StepTo T Γ A ops (rec i) o dY ar:=λi hi=>by
  obtain⟨pre,post,e⟩:=Xej hi;have:rs=pre.map rec++rec i::post.map rec:=by rw[←hLr,e];simp
  rw[this]at lw;obtain⟨o,dY,ar,h1,h2⟩:=Wkz _ _ _ _ _ lw;exact⟨pre,post,o,dY,ar,e,h1,h2⟩
 have fm:∀i∈L,(rec i).mv=WaO ops i:=λi hi=>by
  obtain⟨pre,post,o,dY,ar,e,h1,h2⟩:=fo i hi;rw[h2.isM];have:=h2.at_;rw[(kd i hi).1]at this;unfold WaO;rw[this]
 have gm:∀(p:List Nat),(∀i∈p,i∈L)->(p.map rec).filter (·.mv)=(p.filter (WaO ops)).map rec:=by
  intro p
  induction p with
  |nil=>intro _;rfl
  |cons i p ih=>
   intro h;have:=ih λj hj=>h j (Xf _ hj);rw[Xag,Xbj,Xbj,fm i (h i (Xk ..))];split
   .rw[Xag,this]
   .exact this
 have oG:∀(p:List Nat),(∀i∈p,i∈L)->(p.map rec).map (·.i)=p:=by
  intro p h;rw[Xek]
  conv=>rhs;rw[←List.map_id p]
  exact Xbz λi hi=>(kd i (h i hi)).1
 have iT:∀(p:List Nat),(∀i∈p,i∈L)->∀i∈L,(rec i∈p.map rec↔i∈p):=λp hp i hi=>by
  constructor
  .intro h;obtain⟨j,hj,e⟩:=Xx.1 h;have:j=i:=by rw[←(kd j (hp j hj)).1,←(kd i hi).1,e]
   rw[←this];exact hj
  .exactλh=>Xx.2 ⟨i,h,rfl⟩
 have nE:∀i j pre post,L=pre++i::post->j∈post->WxJ (Wey ops.toList []) (rec i) (rec j):=λi j pre post e hj=>by
  have:rs=pre.map rec++rec i::post.map rec:=by rw[←hLr,e];simp
  rw[this,List.pairwise_append]at cy;exact(List.pairwise_cons.1 cy.2.1).1 _ (Xx.2 ⟨j,hj,rfl⟩)
 suffices main:∀(s p:List Nat),l=p++s->∀(ar:St) (a:Act) (w:World) (G:GH) (ν:Nat->Nu),Rel w0 F nt G0 G ν ar a w->
   (∀t,look ar.env t=WpA ops (p.map rec) (look st.env) t)->(ar.objs,ar.nx)=Wia (p.map rec) (st.objs,st.nx)->wpOps P ops Q s a w from
  main l [] rfl st a w G ν hr (λ_=>rfl) rfl
 intro s
 induction s with
 |nil=>
  intro p e ar a w G ν iY he hm;rw[Xdi]at e;subst e;obtain⟨f1,f2⟩:=Whw _ _ _ lw;have ss:∀i∈l,i∈L:=λi hi=>(jG i).1 hi;refine hK a w G ν (iY.same (λt=>?_) ?_ ?_)
  .rw[f1,he];refine Wkc eO bf (by rw[oG l ss];exact hl.nodup) λρ _=>?_;constructor
   .intro hρ;have hi:ρ.i∈L:=by rw[←kb];exact Xx.2 ⟨ρ,hρ,rfl⟩
    rw[←de ρ hρ];exact(iT l ss ρ.i hi).2 ((jG _).2 hi)
   .intro hρ;obtain⟨i,hi,rfl⟩:=Xx.1 hρ;exact(kd i (ss i hi)).2
  .have:Wia (l.map rec) (st.objs,st.nx)=Wia rs (st.objs,st.nx):=by
    rw[WbR,gm l ss,hσ,←gm L (λi hi=>hi),←WbR,hLr]
   rw[this,←f2]at hm;exact(Wm (·.1) hm).symm
  .have:Wia (l.map rec) (st.objs,st.nx)=Wia rs (st.objs,st.nx):=by
    rw[WbR,gm l ss,hσ,←gm L (λi hi=>hi),←WbR,hLr]
   rw[this,←f2]at hm;exact(Wm (·.2) hm).symm
 |cons i s ih=>
  intro p e ar a w G ν iY he hm;have rb:i∈L:=(jG i).1 (by rw[e];simp);have su:∀j∈p,j∈L:=λj hj=>(jG j).1 (by rw[e];exact Xl _ hj);obtain⟨pre,post,o,dY,A8,eL,h1,h2⟩:=fo i rb;have jH:∀j∈pre,j∈L:=λj hj=>by rw[eL];exact Xl _ hj
  have uJ:ops[i]?=some o:=by have:=h2.at_;rw[(kd i rb).1]at this;exact this
  obtain⟨g1,g2⟩:=Whw _ _ _ h1;have mD:=hl.nodup;have mE:=hL.nodup;rw[e]at mD;rw[eL]at mE;have dw:i∉p:=λh=>(Xak.1 mD).2.2 i h i (Xk ..) rfl;have jI:i∉pre:=λh=>(Xak.1 mE).2.2 i h i (Xk ..) rfl;have oH:∀t∈Wdy ops o,look ar.env t=look dY.env t:=λt ht=>by
   rw[he,g1];refine Wkc eO (by rw[oG p su];exact(Xak.1 mD).1) (by rw[oG pre jH];exact(Xak.1 mE).1) λρ hρt=>?_;have key:∀j∈L,Weu ops j=some t->(j∈p↔j∈pre):=λj hj vx=>by
    rcases hsl i o t uJ ht j vx with rfl|hb|hb
    .exact⟨λh=>Wj h dw,λh=>Wj h jI⟩
    .by_cases rc:j=i
     .subst rc;exact⟨λh=>Wj h dw,λh=>Wj h jI⟩
     .exact⟨λ_=>hL.bef' eL hb rc,λ_=>hl.bef' e hb rc⟩
    .exact⟨λh=>Wj (hl.bef e hb h) dw,λh=>Wj (hL.bef eL hb h) jI⟩
   constructor
   .intro hρ;obtain⟨j,hj,rfl⟩:=Xx.1 hρ;have sw:=su j hj;rw[(kd j sw).1]at hρt;exact Xx.2 ⟨j,(key j sw hρt).1 hj,rfl⟩
   .intro hρ;obtain⟨j,hj,rfl⟩:=Xx.1 hρ;have sw:=jH j hj;rw[(kd j sw).1]at hρt;exact Xx.2 ⟨j,(key j sw hρt).2 hj,rfl⟩
  have mF:Wia (p.map rec) (st.objs,st.nx)=Wia ((p.filter (WaO ops)).map rec) (st.objs,st.nx):=by rw[WbR,gm p su]
  have nF:Wia (pre.map rec) (st.objs,st.nx)=Wia ((pre.filter (WaO ops)).map rec) (st.objs,st.nx):=by rw[WbR,gm pre jH]
  obtain⟨A9,h3⟩:=h2.move (ar:=ar) oH (λeF=>by
   have uK:WaO ops i=true:=by rw[←fm i rb];exact eF
   have:p.filter (WaO ops)=pre.filter (WaO ops):=by
    have q:=hσ;rw[e,eL,Xcx,Xcx,Xbj,Xbj,Wb uK,Wb uK]at q;refine Wf1 ?_ q;have:=hl.nodup.filter (WaO ops);rw[e,Xcx,Xbj,Wb uK]at this;exact this
   rw[mF,this,←nF,←g2]at hm;exact⟨Wm (·.1) hm,Wm (·.2) hm⟩) (λiv id bO=>by
   have q:(p.filter (WaO ops))<+:l.filter (WaO ops):=by rw[e,Xcx];exact Xgt _ _
   have q2:(pre.filter (WaO ops))<+:l.filter (WaO ops):=by rw[hσ,eL,Xcx];exact Xgt _ _
   have qY:ar.objs=(Wia ((p.filter (WaO ops)).map rec) (st.objs,st.nx)).1:=by rw[←mF,←hm]
   have qZ:dY.objs=(Wia ((pre.filter (WaO ops)).map rec) (st.objs,st.nx)).1:=by rw[←nF,←g2]
   rw[qY,qZ];rcases List.prefix_or_prefix_of_prefix q q2 with⟨X,hX⟩|⟨X,hX⟩
   .
    rw[←hX,Xu,WdS];refine(WiX _ _ λρ hρ hρm=>?_).symm;obtain⟨m,re,rfl⟩:=Xx.1 hρ;have iZ:m∈pre:=(Xar.1 (by rw[←hX];exact Xh _ re:m∈pre.filter (WaO ops))).1;have oI:m∉p:=λhmem=>by
     have vQ:WaO ops m=true:=(Xar.1 (by rw[←hX];exact Xh _ re:m∈pre.filter (WaO ops))).2;have ly:(pre.filter (WaO ops)).Nodup:=(Xak.1 mE).1.filter _;rw[←hX]at ly;exact(Xak.1 ly).2.2 m (Xar.2 ⟨hmem,vQ⟩) m re rfl
    obtain⟨u,v,eu⟩:=Xej iZ;have hf:=nE m i u (v++i::post) (by rw[eL,eu];simp) (by simp);rcases hf.2 hρm iv with hb|hb
    .rw[(kd m (jH m iZ)).1,(kd i rb).1]at hb;exact Wj (hl.bef' e hb (λhc=>jI (hc▸iZ))) oI
    .exact hb id bO
   .rw[←hX,Xu,WdS];refine WiX _ _ λρ hρ hρm=>?_;obtain⟨m,re,rfl⟩:=Xx.1 hρ;have yJ:m∈p.filter (WaO ops):=by rw[←hX];exact Xh _ re
    have mG:m∈p:=(Xar.1 yJ).1;have oI:m∉pre:=λhmem=>by
     have vQ:WaO ops m=true:=(Xar.1 yJ).2;have ly:(p.filter (WaO ops)).Nodup:=(Xak.1 mD).1.filter _;rw[←hX]at ly;exact(Xak.1 ly).2.2 m (Xar.2 ⟨hmem,vQ⟩) m re rfl
    have yK:=su m mG;have oJ:m∈post:=by
     rw[eL]at yK;rcases Xm.1 yK with h|h
     .exact Wj h oI
     .rcases Xq.1 h with h|h
      .exact Wj (h▸mG) dw
      .exact h
    have hf:=nE i m pre post eL oJ;rcases hf.1 iv hρm with hb|hb
    .rw[(kd m (su m mG)).1,(kd i rb).1]at hb;exact Wj (hl.bef e hb mG) dw
    .exact hb id bO)
  have Ba:∀d,o.dst=some d->nt.Ok d:=hd o (Array.mem_of_getElem? uJ);have uL:=Wvo (F:=F) (G0:=G0) (w0:=w0) hT hΓ Ba (Q:=Q) (k:=some) (r:=A9) (K:=wpOps P ops Q s) (λBb a' w' G' ν' hr4 h4=>by
   injection h4 with h4;subst h4;refine ih (p++ [i]) (by rw[e];simp) Bb a' w' G' ν' hr4 (λt=>?_) ?_
   .rw[h3.env];have hv:WpA ops ((p++ [i]).map rec) (look st.env) t=if Weu ops i=some t then some (rec i).v else WpA ops (p.map rec) (look st.env) t:=by
     rw[Xu];have gen:∀(x:List Rc) (y:Rc) (e:Nat->Option AVal),WpA ops (x++ [y]) e t=if Weu ops y.i=some t then some y.v else WpA ops x e t:=by
      intro x
      induction x with
      |nil=>intro y e;rfl
      |cons z x ih=>intro y e;rw[Xax,WpA,ih];rfl
     rw[List.map_singleton,gen,(kd i rb).1]
    rw[hv,he];have:Weu ops i=o.dst:=by unfold Weu;rw[uJ];rfl
    rw[this]
   .rw[Xu,WdS,←hm];simp only[Xag,Xbd,Wia];rw[h3.objs,h3.nx];split<;>rfl) iY h3.run
  rw[wpOps_cons];unfold wpOp;rw[uJ];simp only;split
  .rename_i hw;rw[Wb hw]at uL;exact .inl uL
  .rename_i hw;rw[Wa hw]at uL;exact uL
end
end Go.Sx
namespace Go.Sx
set_option linter.unusedVariables false
set_option linter.unusedSimpArgs false
theorem WkI:∀{l:List (Nat×Nat)},WbJ (l.map (·.1))=true->∀p∈l,∀q∈l,p.1=q.1->p=q
 | [],_,p,hp,_,_,_=>by cases hp
 |x::l,h,p,hp,q,hq,e=>by
  have hn:=(We7 _).1 h;simp only[Xag,WbJ,Xj]at h;rw[Xag,Xaj]at hn;rcases Xq.1 hp with h1|h1
  .rcases Xq.1 hq with h2|h2
   .rw[h1,h2]
   .exact Wj (Xx.2 ⟨q,h2,by rw[←e,h1]⟩) hn.1
  .rcases Xq.1 hq with h2|h2
   .exact Wj (Xx.2 ⟨p,h1,by rw[e,h2]⟩) hn.1
   .exact WkI h.2 p h1 q h2 e
theorem Wj3:∀(l:List Oper) (n k:Nat) (o:Oper) (d:Nat),l[k]?=some o->o.dst=some d->(d,n+k)∈WhD l n
 | [],_,k,o,d,h,_=>by simp at h
 |x::l,n,k,o,d,h,hd=>by
  cases k with
  |zero=>
   simp at h;subst h;simp only[WhD,hd];exact Xk ..
  |succ k=>
   have:=Wj3 l (n+1) k o d (by simpa using h) hd;have e:n+(k+1)=n+1+k:=by omega
   rw[e];simp only[WhD];split
   .exact Xf _ this
   .exact this
theorem Wh6{ops:Array Oper}{B:List (List Nat)}{D:List (Nat×Nat)}:∀(l:List Oper) (n:Nat),WkX ops B D l n=true->∀(k:Nat) (o:Oper),l[k]?=some o->∀t∈Wdy ops o,∀p∈D,p.1=t->
  p.2=n+k\/Wdo B p.2 (n+k)=true\/Wdo B (n+k) p.2=true
 | [],_,_,k,o,h=>by simp at h
 |x::l,n,h,k,o,hk=>by
  simp only[WkX,Xj]at h;cases k with
  |zero=>
   simp at hk;subst hk;intro t ht p hp e;have:=Xah.1 (Xah.1 h.1 t ht) p hp;simp only[Xck,Xan]at this;rcases this with((h1|h1)|h1)|h1
   .rw[e]at h1;simp at h1
   .exact .inl (by simpa using h1)
   .exact .inr (.inl h1)
   .exact .inr (.inr h1)
  |succ k=>
   have:=Wh6 l (n+1) h.2 k o (by simpa using hk);have e:n+(k+1)=n+1+k:=by omega
   rw[e];exact this
structure RegOk(ops:Array Oper):Prop where
 back:∀(k:Nat) (o:Oper),ops[k]?=some o->∀d∈WnG o,d<k
 one:WlV ops
 slots:∀(i:Nat) (o:Oper) (t:Nat),ops[i]?=some o->t∈Wdy ops o->∀j,Weu ops j=some t->j=i\/Wdo (Wey ops.toList []) j i=true\/Wdo (Wey ops.toList []) i j=true
theorem WiN{ops:Array Oper}{j t:Nat}(h:Weu ops j=some t):(t,j)∈WhD ops.toList 0:=by
 unfold Weu at h;obtain⟨o,ho,hd⟩:=Xbx.1 h;have:=Wj3 ops.toList 0 j o t (by simpa using ho) hd;rw[Xaz]at this;exact this
theorem Wqw{ops:Array Oper}(h:WwE ops (Wey ops.toList [])=true):RegOk ops:=by
 simp only[WwE,Xj]at h;obtain⟨⟨h1,h2⟩,h3⟩:=h;refine⟨λk o ho e he=>?_,λi j t hi hj=>?_,λi o t ho ht j hj=>?_⟩
 .have:=Wke (ops:=ops) ops.toList 0 h1 k o (by simpa using ho) e he;omega
 .have:=WkI h2 _ (WiN hi) _ (WiN hj) rfl;exact Wm (·.2) this
 .have:=Wh6 ops.toList 0 h3 i o (by simpa using ho) t ht _ (WiN hj) rfl;simpa using this
theorem WkA{ops:Array Oper}:∀(l done:List Nat),WjP ops l done=true->done.Nodup->(∀i∈done,i<ops.size)->
  (done++l).Nodup/\(∀i∈done++l,i<ops.size)/\(done++l).length=ops.size/\(∀p i s,l=p++i::s->∀o,ops[i]?=some o->∀d∈WnG o,d∈done++p)
 | [],done,h,hn,hlt=>by
  simp only[WjP]at h;exact⟨by simpa using hn,by simpa using hlt,by simpa using h,λp i s e=>by simp at e⟩
 |x::l,done,h,hn,hlt=>by
  simp only[WjP,Xj,Xan]at h;obtain⟨⟨h1,h2⟩,h3⟩:=h;have hx:x∉done:=λhm=>by rw[(WaZ x done).2 hm]at h1;cases h1
  cases ho:ops[x]? with
  |none=>rw[ho]at h2;cases h2
  |some o=>
   rw[ho]at h2;have oz:x<ops.size:=(Xdk.1 ho).1;obtain⟨g1,g2,g3,g4⟩:=WkA l (x::done) h3 (Xaj.2 ⟨hx,hn⟩) (λi hi=>by
    rcases Xq.1 hi with rfl|hi
    .exact oz
    .exact hlt i hi)
   have lz:List.Perm (x::done++l) (done++x::l):=by simpa using(List.perm_middle (a:=x) (l₁:=done) (l₂:=l)).symm
   refine⟨lz.nodup_iff.1 g1,λi hi=>g2 i (lz.mem_iff.2 hi),by rw[←lz.length_eq];exact g3,λp i s e o' iU d hd=>?_⟩;cases p with
   |nil=>
    simp only[Xbu,List.cons.injEq]at e;obtain⟨rfl,_⟩:=e;rw[ho]at iU;injection iU with iU;subst iU;have:=Xah.1 h2 d hd;simpa using(WaZ d done).1 this
   |cons y p=>
    simp only[Xax,List.cons.injEq]at e;obtain⟨rfl,e⟩:=e;have:=g4 p i s e o' iU d hd;simp only[Xax,Xq,Xm]at this⊢;rcases this with h|h|h
    .exact .inr (.inl h)
    .exact .inl h
    .exact .inr (.inr h)
theorem WoD{l:List Nat}{n:Nat}(hn:l.Nodup)(hlt:∀i∈l,i<n)(hlen:l.length=n):∀i,i<n->i∈l:=by
 intro i hi;refine Classical.byContradiction λh=>?_;have h1:(i::l).Nodup:=Xaj.2 ⟨h,hn⟩;have h2:∀j∈i::l,j∈Xca n:=λj hj=>by
  rw[Xen];rcases Xq.1 hj with rfl|hj
  .exact hi
  .exact hlt j hj
 have key:∀(a b:List Nat),a.Nodup->(∀x∈a,x∈b)->a.length<=b.length:=by
  intro a
  induction a with
  |nil=>intro b _ _;simp
  |cons x a ih=>
   intro b oK fT;rw[Xaj]at oK;have sy:x∈b:=fT x (Xk ..);have:=ih (b.erase x) oK.2 λy hy=>(Xgl (λe=>oK.1 (by rw[←e];exact hy))).2 (fT y (Xf _ hy));rw[Xfv sy]at this;have hpos:=Xge sy;simp;omega
 have:=key _ _ h1 h2;rw[Xfm,Xr]at this;omega
theorem WoN{ops:Array Oper}{l:List Nat}(h:WjP ops l []=true):Order ops l:=by
 obtain⟨h1,h2,h3,h4⟩:=WkA l [] h Xde (by simp);rw[Xbu]at h1 h2 h3;exact⟨h1,λi=>⟨WoD h1 h2 h3 i,h2 i⟩,λp i s e o ho d hd=>by simpa using h4 p i s e o ho d hd⟩
theorem Wkv:∀(l:List Oper) (n i:Nat),i∈WhR l n↔n<=i/\∃o,l[i-n]?=some o/\Wa1 o=true
 | [],n,i=>by simp[WhR]
 |o::l,n,i=>by
  have ih:=Wkv l (n+1) i;have ij:(n<=i/\∃o',(o::l)[i-n]?=some o'/\Wa1 o'=true)↔(i=n/\Wa1 o=true)\/(n+1<=i/\∃o',l[i-(n+1)]?=some o'/\Wa1 o'=true):=by
   by_cases hi:i=n
   .subst hi;constructor
    .rintro⟨_,o',h1,h2⟩;rw[Xda]at h1;injection h1 with h1;subst h1;exact .inl ⟨rfl,h2⟩
    .rintro(⟨_,h⟩|⟨h,_⟩)
     .exact⟨Xn _,o,by rw[Xda];rfl,h⟩
     .omega
   .constructor
    .rintro⟨h0,o',h1,h2⟩;have e:i-n=(i-(n+1))+1:=by omega
     rw[e,Xeo]at h1;exact .inr ⟨by omega,o',h1,h2⟩
    .rintro(⟨h,_⟩|⟨h0,o',h1,h2⟩)
     .exact Wj h hi
     .have e:i-n=(i-(n+1))+1:=by omega
      exact⟨by omega,o',by rw[e,Xeo];exact h1,h2⟩
  rw[ij,←ih];simp only[WhR];cases hm:Wa1 o with
  |true=>simp
  |false=>simp
theorem WmE{ops:Array Oper}{i:Nat}:i∈WhR ops.toList 0↔WaO ops i=true:=by
 rw[Wkv];unfold WaO;simp only[Xbp,true_and,Xdt,Array.getElem?_toList];cases ops[i]? with
 |none=>simp
 |some o=>simp
theorem Wpj{B:List (List Nat)}:∀(σ rem:List Nat) (n:Nat),σ.length<=n->σ.Nodup->(∀i,i∈rem↔i∈σ)->(∀p m s,σ=p++m::s->∀m'∈m::s,Wdo B m' m=false)->σ∈Wv9 B n rem
 | [],rem,n,hn,bf,hmem,hb=>by
  have:rem= []:=Xez.2 λi hi=>by have:=(hmem i).1 hi;cases this
  subst this;cases n<;>simp[Wv9]
 |m::s,rem,0,hn,_,_,_=>by simp at hn
 |m::s,rem,n+1,hn,bf,hmem,hb=>by
  have hm:m∈rem:=(hmem m).2 (Xk ..);rw[Xaj]at bf;cases ke:rem with
  |nil=>rw[ke]at hm;cases hm
  |cons x xs=>
   rw[←ke];have nG:Wv9 B (n+1) rem=(rem.filter λm=>rem.all λm'=>!Wdo B m' m).flatMap λm=>(Wv9 B n (rem.filter λx=>!Xbt x m)).map (m:: ·):=by rw[ke];rfl
   rw[nG];refine Xga.2 ⟨m,Xar.2 ⟨hm,Xah.2 λm' iP=>?_⟩,Xx.2 ⟨s,?_,rfl⟩⟩
   .rw[hb [] m s rfl m' ((hmem m').1 iP)];rfl
   .refine Wpj s _ n (by simpa using hn) bf.2 (λi=>?_) (λp q s' e=>hb (m::p) q s' (by rw[e];rfl));rw[Xar,hmem,Xq];constructor
    .rintro⟨h1,h2⟩;rcases h1 with rfl|h1
     .simp at h2
     .exact h1
    .intro h;refine⟨.inr h,?_⟩;have hne:i≠m:=λe=>bf.1 (e▸h);cases hb':Xbt i m with
     |false=>rfl
     |true=>exact Wj (Nat.eq_of_beq_eq_true hb') hne
theorem Wvl:∀(l m:List Nat),eqN l m=true->l=m
 | [],[],_=>rfl
 | [],_::_,h=>by cases h
 |_::_,[],h=>by cases h
 |i::l,j::m,h=>by
  simp only[eqN,Xj]at h;have:i=j:=by simpa using h.1
  rw[this,Wvl l m h.2]
theorem Wrx{α:Type}{a b:Option α}{r:α}(h:WfB a b=some r):a=some r/\b=some r:=by
 unfold WfB at h;split at h
 .rename_i e;exact⟨h,e▸h⟩
 .cases h
section
variable{w0:World}{F:CS}{nt:Slots}{G0:GH}{P:Program}{T:Tab}{Γ:Ctx}{A:List (Nat×An)}{R:Type}{r:R}
theorem Wpm{ops:Array Oper}{B:List (List Nat)}{st:St}{k:St->Option R}:∀(l:List (List Nat)),Wxh T Γ A ops B st k l=some r->∀σ∈l,∃L,WjP ops L []=true/\L.filter (λi=>Wcz i σ)=σ/\rdx T Γ A ops B L [] [] st k=some r
 | [],_,σ,hσ=>by cases hσ
 |τ::l,h,σ,hσ=>by
  have one:WgI (Wk2 ops.toList B ops.size [] τ) (λL=>bif WjP ops L []&&eqN (L.filter λi=>Wcz i τ) τ then rdx T Γ A ops B L [] [] st k else none)=some r->∃L,WjP ops L []=true/\L.filter (λi=>Wcz i τ)=τ/\rdx T Γ A ops B L [] [] st k=some r:=λh=>by
   rw[WeI]at h;obtain⟨hc,h⟩:=WaQ h;simp only[Xj]at hc;exact⟨_,hc.1,Wvl _ _ hc.2,h⟩
  cases l with
  |nil=>
   simp only[Wxh]at h;rcases Xq.1 hσ with rfl|hσ
   .exact one h
   .cases hσ
  |cons x l=>
   have h:WfB (WgI (Wk2 ops.toList B ops.size [] τ) (λL=>bif WjP ops L []&&eqN (L.filter λi=>Wcz i τ) τ then rdx T Γ A ops B L [] [] st k else none)) (Wxh T Γ A ops B st k (x::l))=some r:=h;obtain⟨h1,h2⟩:=Wrx h;rcases Xq.1 hσ with rfl|hσ
   .exact one h1
   .exact Wpm (x::l) h2 σ hσ
theorem WuG(hM:P.follows .mixedOrders=true)(hT:War P T)(hΓ:Wfx P Γ){id:Nat}{ops:Array Oper}(hd:∀o∈ops,∀d,o.dst=some d->nt.Ok d){k:St->Option R}{Q:Exit->Act->World->Prop}(hK:Wst w0 F nt G0 k r (Q .normal)):
  Wst w0 F nt G0 (λst=>Wwh T Γ A ops st k) r ((Code.region id ops true).wp P Q):=λst a w G ν hr h=>by
 simp only[Wwh,Wms]at h;obtain⟨vR,h⟩:=WaQ h;have hR:=Wqw vR;refine wp_region_draw λt=>?_;rw[hM];have hl:Order ops (Region.schedule true ops t):=WjK hR.back;generalize Region.schedule true ops t=l at hl;have hσ:l.filter (WaO ops)∈Wv9 (Wey ops.toList []) ops.size (WhR ops.toList 0):=by
  refine Wpj _ _ _ ?_ (hl.nodup.filter _) (λi=>?_) (λp m s e m' iP=>?_)
  .refine Xcr (Xet _ _) ?_;have da:l.length<=(Xca ops.size).length:=by
    have key:∀(a b:List Nat),a.Nodup->(∀x∈a,x∈b)->a.length<=b.length:=by
     intro a
     induction a with
     |nil=>intro b _ _;simp
     |cons x a ih=>
      intro b oK fT;rw[Xaj]at oK;have sy:x∈b:=fT x (Xk ..);have:=ih (b.erase x) oK.2 λy hy=>(Xgl (λe=>oK.1 (by rw[←e];exact hy))).2 (fT y (Xf _ hy));rw[Xfv sy]at this;have hpos:=Xge sy;simp;omega
    exact key _ _ hl.nodup λx hx=>Xen.2 ((hl.all x).2 hx)
   rw[Xfm]at da;exact da
  .rw[WmE,Xar];constructor
   .intro h;refine⟨(hl.all i).1 ?_,h⟩;unfold WaO at h;split at h
    .rename_i o ho;exact(Xdk.1 ho).1
    .cases h
   .exactλh=>h.2
  .cases hb:Wdo (Wey ops.toList []) m' m with
   |false=>rfl
   |true=>
    exfalso;have ja:m∈l:=(Xar.1 (by rw[e];simp:m∈l.filter (WaO ops))).1;obtain⟨u,v,eu⟩:=Xej ja;have hm'u:m'∈u++ [m]:=hl.bef (p:=u++ [m]) (s:=v) (by rw[eu];simp) hb (by simp);have vS:WaO ops m=true:=(Xar.1 (by rw[e];simp:m∈l.filter (WaO ops))).2;have sA:=hl.nodup.filter (WaO ops);have e2:l.filter (WaO ops)=u.filter (WaO ops)++m::v.filter (WaO ops):=by rw[eu,Xcx,Xbj,Wb vS]
    have Bc:p=u.filter (WaO ops):=by
     refine Wf1 (b:=s) (d:=v.filter (WaO ops)) (x:=m) ?_ ?_
     .rw[←e];exact sA
     .rw[←e,e2]
    rcases Xq.1 iP with rfl|hm's
    .
     have:=hl.bef (p:=u++ [m']) (s:=v) (by rw[eu];simp) hb (by simp);have hcl:Wnh ops (λj=>j∈u\/(j=m'/\False)):=λi o ho hi d hd=>by
      rcases hi with hi|⟨_,hf⟩
      .exact .inl (hl.closed (p:=u) (s:=m'::v) eu i o ho hi d hd)
      .exact hf.elim
     have back:∀(j i:Nat),Wdo (Wey ops.toList []) j i=true->j<i:=λj i rc=>by
      have hcl2:Wnh ops (λx=>x<i\/(x=i)):=λx o ho hx d hd=>by
       have:d<x:=hR.back x o ho d hd;omega
      refine Classical.byContradiction λhn=>?_;have hlt:∀(l:List Oper) (acc:List (List Nat)),(∀(k:Nat) (o:Oper),l[k]?=some o->ops[acc.length+k]?=some o)->(∀i,∀j∈acc.getD i [],j<i)->∀i,∀j∈(Wey l acc).getD i [],j<i:=by
       intro l
       induction l with
       |nil=>intro acc _ h;exact h
       |cons o l ih=>
        intro acc hl h;refine ih _ (λk o' hk=>?_) (λi j hj=>?_)
        .have:=hl (k+1) o' (by simpa using hk);rw[Xs];have e:acc.length+(k+1)=acc.length+ [Wl2 acc (WnG o) []].length+k:=by simp;omega
         rw[←e];exact this
        .rw[Xac,Xav]at hj;split at hj
         .exact h i j (by rw[Xac];exact hj)
         .by_cases he:i=acc.length
          .subst he;simp only[Xda,Xdv,Xer]at hj;rcases(Wjt _ _).1 hj with⟨k,hk,ka⟩|hj
           .have nz:k<acc.length:=hR.back acc.length o (hl 0 o (by simp)) k hk;rcases ka with rfl|ka
            .exact nz
            .have:=h k j ka;omega
           .cases hj
          .have:[Wl2 acc (WnG o) []][i-acc.length]?=none:=Xcv (by simp;omega);rw[this]at hj;cases hj
      exact hn (hlt ops.toList [] (λk o hk=>by simpa using hk) (λi j hj=>by simp at hj) i j ((WaZ _ _).1 rc))
     have:=back m' m' hb;omega
    .
     have hm'l:m'∈p:=by
      rw[Bc];rcases Xm.1 hm'u with h|h
      .refine Xar.2 ⟨h,?_⟩;exact(Xar.1 (by rw[e];simp[hm's]:m'∈l.filter (WaO ops))).2
      .simp at h;subst h;rw[e]at sA;have:=(Xaj.1 (Xak.1 sA).2.1).1;exact Wj hm's this
     rw[e]at sA;exact(Xak.1 sA).2.2 m' hm'l m' (Xf _ hm's) rfl
 obtain⟨L,g1,g2,g3⟩:=Wpm _ h _ hσ;have hL:=WoN g1;obtain⟨rs,am,q1,q2,q3,q4,_,_⟩:=WkM _ _ _ _ g3;have hf:l.filter (WaO ops)=L.filter (WaO ops):=by
  rw[←g2];refine List.filter_congr λi hi=>?_;cases hm:WaO ops i with
  |true=>exact(WaZ _ _).2 (Xar.2 ⟨(hl.all i).1 ((hL.all i).2 hi),hm⟩)
  |false=>
   cases he:Wcz i (l.filter (WaO ops))with
   |false=>rfl
   |true=>
    have:=(Xar.1 ((WaZ _ _).1 he)).2;rw[hm]at this;cases this
 have bG:Rel w0 F nt G0 G ν st a {w with drawn:=w.drawn+1}:=⟨hr.defers,hr.ntm,hr.par,hr.env,?_,hr.gx⟩
 .exact WrP hT hΓ hd hl hL hR.one hR.slots hf q1 q2 q4 (λa w G ν hr=>hK am a w G ν hr q3) bG
 .exact hr.h.drew
end
end Go.Sx
namespace Go.Sx
set_option linter.unusedVariables false
set_option linter.unusedSimpArgs false
section
variable{w0:World}{F:CS}{nt:Slots}{G0:GH}{P:Program}{T:Tab}{Γ:Ctx}{A:List (Nat×An)}{R:Type}{r:R}
theorem Wn2(hM:P.follows .mixedOrders=true)(hT:War P T)(hΓ:Wfx P Γ){n:Nat}{kept:List Nat}(hn:nt.n=n)(oL:∀p∈nt.kept,p.1∈kept){ann:Nat->List Ghost}{N:Nat}:∀(c:Code),WdJ n kept c=true->∀{k:Ex->St->Option R} {Q:Exit->Act->World->Prop},
  (∀e,Wst w0 F nt G0 (k e) r (Q e.to))->Wst w0 F nt G0 (λst=>sx T Γ ann N c st k) r (c.wp P Q)
 | .skip,_,k,Q,hK=>λst a w G ν hr h=>wp_skip (hK .normal st a w G ν hr h)
 | .exit id,_,k,Q,hK=>λst a w G ν hr h=>wp_exit (hK (.exit id) st a w G ν hr h)
 | .ret,_,k,Q,hK=>λst a w G ν hr h=>wp_ret (hK .ret st a w G ν hr h)
 | .region id ops draw,aV,k,Q,hK=>λst a w G ν hr h=>by
  have iO:Wst w0 F nt G0 (λam=>match Wep (ann id) am with|some (c,cH)=>bif c then k .normal cH else none|none=>none) r (Q .normal):=λam a' w' G' ν' bG h'=>by
   simp only at h';split at h'
   .rename_i c cH hg;obtain⟨rfl,h'⟩:=WaQ h';obtain⟨G2,ν2,iY⟩:=WdI _ _ _ _ _ bG hg;exact hK .normal _ _ _ _ _ iY h'
   .cases h'
  have sB:∀o∈ops,∀d,o.dst=some d->nt.Ok d:=λo ho=>Woo hn oL (Xah.1 aV o (by simpa using ho));cases draw with
  |true=>exact WuG hM hT hΓ sB iO st a w G ν hr h
  |false=>exact wp_region_list (Wvw hT hΓ ops.toList (λo ho=>sB o (by simpa using ho)) iO st a w G ν hr h)
 | .seq x y,aV,k,Q,hK=>λst a w G ν hr h=>by
  simp only[WdJ,Xj]at aV;refine wp_seq (Wn2 hM hT hΓ hn oL x aV.1 (Q:=Exit.then (y.wp P Q) Q) (λe=>?_) st a w G ν hr h);cases e with
  |normal=>exact Wn2 hM hT hΓ hn oL y aV.2 hK
  |exit id=>exact hK (.exit id)
  |ret=>exact hK .ret
 | .cond c x y,aV,k,Q,hK=>λst a w G ν hr h=>by
  simp only[WdJ,Xj]at aV;simp only[sx]at h;split at h
  .rename_i b hb;cases hv:ev st c with
   |none=>simp[hv]at hb
   |some v=>
    simp only[hv,Xd]at hb;have hc:=Wow v _ b (WV hr c v hv) hb;refine wp_cond hc ?_;cases b with
    |true=>exact Wn2 hM hT hΓ hn oL x aV.1 hK st a w G ν hr h
    |false=>exact Wn2 hM hT hΓ hn oL y aV.2 hK st a w G ν hr h
  .cases h
 | .block id c,aV,k,Q,hK=>λst a w G ν hr h=>by
  simp only[WdJ]at aV;refine wp_block (Wn2 hM hT hΓ hn oL c aV (Q:=Exit.inBlock id Q) (λe=>?_) st a w G ν hr h);cases e with
  |normal=>exact hK .normal
  |exit cb=>
   intro am a' w' G' ν' bG h';simp only[Ex.to,Exit.inBlock];split
   .rename_i he;simp only[he,WaD]at h';exact hK .normal _ _ _ _ _ bG h'
   .rename_i he;simp only[he,WaE]at h';exact hK (.exit cb) _ _ _ _ _ bG h'
  |ret=>exact hK .ret
 | .loop c,aV,k,Q,hK=>λst a w G ν hr h=>by
  simp only[WdJ]at aV;refine wp_loop_rounds N ?_;have key:∀(m:Nat),Wst w0 F nt G0 (λst=>Wo7 (Wkm (ann (WfU c)) λst k=>sx T Γ ann N c st k) m st k) r (Code.rounds P c Q m):=by
   intro m
   induction m with
   |zero=>intro st a w G ν hr h;cases h
   |succ m ih=>
    intro st a w G ν hr h;rw[rounds_succ];have h:sx T Γ ann N c st (λe am=>match e with
     | .normal=>match Wep (ann (WfU c)) am with
      |some (b,cH)=>bif b then Wo7 (Wkm (ann (WfU c)) λst k=>sx T Γ ann N c st k) m cH k else none
      |none=>none
     | .exit id=>k (.exit id) am
     | .ret=>k .ret am)=some r:=by
     rw[←h];simp only[Wo7,Wkm];congr 1
    refine Wn2 hM hT hΓ hn oL c aV (Q:=Exit.then (Code.rounds P c Q m) Q) (λe=>?_) st a w G ν hr h;cases e with
    |normal=>
     intro am a' w' G' ν' bG h';simp only at h';split at h'
     .rename_i b cH hg;obtain⟨rfl,h'⟩:=WaQ h';obtain⟨G2,ν2,iY⟩:=WdI _ _ _ _ _ bG hg;exact ih _ _ _ _ _ iY h'
     .cases h'
    |exit id=>exact hK (.exit id)
    |ret=>exact hK .ret
  have h:(match Wep (ann (WfU c)) st with
   |some (b,am)=>bif b then Wo7 (Wkm (ann (WfU c)) λst k=>sx T Γ ann N c st k) N am k else none
   |none=>none)=some r:=h
  split at h
  .rename_i b am hg;obtain⟨rfl,h⟩:=WaQ h;obtain⟨G2,ν2,iY⟩:=WdI _ _ _ _ _ hr hg;exact key N _ _ _ _ _ iY h
  .cases h
 | .scope ..,_,k,Q,hK=>λst a w G ν hr h=>by cases h
 | .label ..,_,k,Q,hK=>λst a w G ν hr h=>by cases h
 | .goto ..,_,k,Q,hK=>λst a w G ν hr h=>by cases h
 | .rangeFunc ..,_,k,Q,hK=>λst a w G ν hr h=>by cases h
 | .refuse ..,_,k,Q,hK=>λst a w G ν hr h=>by cases h
end
end Go.Sx
namespace Go.Sx
set_option linter.unusedVariables false
set_option linter.unusedSimpArgs false
section
variable{w0:World}{F:CS}{nt:Slots}{G0 G G':GH}{ν:Nat->Nu}{φ:Nat->CS}{objs:Wal}{nx aq:Nat}{st am:St}{a:Act}{w w':World}{P:Program}{T:Tab}{Γ:Ctx}
theorem WhV:∀(xs:List AVal) (j i:Nat),look (Whn j xs) i=if j<=i then xs[i-j]? else none
 | [],j,i=>by simp[Whn,look]
 |x::xs,j,i=>by
  simp only[Whn];rw[WK,WhV xs (j+1) i];by_cases h:j=i
  .subst h;simp
  .by_cases h2:j<=i
   .have h3:j+1<=i:=by omega
    rw[Wa h,Wb h3,Wb h2,show i-j=(i-(j+1))+1 by omega];rfl
   .rw[Wa h,Wa h2,Wa (by omega)]
theorem Wj6:∀(l:List Nat),Wtm (Wkf l)=l
 | []=>rfl
 |i::l=>by
  show i::Wtm (Wkf l)=i::l;rw[Wj6 l]
theorem Wj1:∀(ps:List PTy) (d:WfL ps) (objs:Wal) (nx n:Nat),Wkk ps n=true->∃ids,ids.length=n/\(WY ps d objs nx).1.take n=Wkf ids
 |_,_,_,_,0,_=>⟨[],rfl,rfl⟩
 | [],_,_,_,_+1,h=>by cases h
 | .v _ _::_,_,_,_,_+1,h=>by cases h
 | .mut _::_,_,_,_,_+1,h=>by cases h
 | .clos _ _::_,_,_,_,_+1,h=>by cases h
 | .kv _ _::_,_,_,_,_+1,h=>by cases h
 | .rp _::_,_,_,_,_+1,h=>by cases h
 | .vj _::_,_,_,_,_+1,h=>by cases h
 | .boxal _ _::_,_,_,_,_+1,h=>by cases h
 | .box t::ps,d,objs,nx,n+1,h=>by
  obtain⟨ids,h1,h2⟩:=Wj1 ps d.2 ((nx,.box (unfold t d.1 (nx+1)).1)::((unfold t d.1 (nx+1)).2.1++objs)) (unfold t d.1 (nx+1)).2.2 n h;refine⟨nx::ids,by simp[h1],?_⟩;simp only[WY,List.take_succ_cons,h2];rfl
theorem WcB:∀(ps:List PTy) (d:WfL ps) (vs:List Value) (ns:List Pc) (ks:List Nu) (objs:Wal) (nx aq:Nat),WcH ps=true->Wbx G w ps d vs ns ks->At ν φ nx ns->nx+ns.length<=aq->
  (WY ps d objs nx).2.2=nx+ns.length/\
  (∀id ob,look (WY ps d objs nx).2.1 id=some ob->(nx<=id/\id<nx+ns.length/\WcQ G ν aq w id (φ id) ob)\/look objs id=some ob)/\
  (WY ps d objs nx).1.length=vs.length/\∀(j:Nat) (x:AVal) (v:Value),(WY ps d objs nx).1[j]?=some x->vs[j]?=some v->AValRel G ν aq x v
 | [],d,vs,ns,ks,objs,nx,aq,_,⟨h1,h2,h3⟩,_,_=>by
  subst h1 h2;exact⟨rfl,λid ob h=>.inr h,rfl,λj x v h=>by simp[WY]at h⟩
 | .v t agg::ps,d,vs,ns,ks,objs,nx,aq,fD,⟨v,vs',n1,n2,h1,h2,h3,h4⟩,hν,hx=>by
  subst h2;obtain⟨us,kw⟩:=Woc h3;have bs:=Wac _ _ _ _ kw;have hlen:(n1++n2).length=t.owns+n2.length:=by rw[Xs,bs]
  obtain⟨_,o1⟩:=Way t d.1 nx us n1 kw hν.left;obtain⟨e1,e2,e3,e4⟩:=WcB ps d.2 vs' n2 ks ((unfold t d.1 nx).2.1++objs) (nx+t.owns) aq fD h4 (hν.right bs) (by omega);simp only[WY,WaS];refine⟨by rw[e1,hlen];omega,λid ob hl=>?_,by rw[h1];simp[e3],λj x u hj hu=>?_⟩
  .rcases e2 id ob hl with⟨g1,g2,g3⟩|g
   .exact .inl ⟨by omega,by omega,g3⟩
   .rcases WS g with g|g
    .obtain⟨g1,g2,e,xs,rfl,g3⟩:=o1 id ob g;exact .inl ⟨g1,by omega,g3⟩
    .exact .inr g
  .rw[h1]at hu;cases j with
   |zero=>simp at hj hu;subst hj hu;exact WkT h3 hν.left (by omega)
   |succ j=>exact e4 j x u (by simpa using hj) (by simpa using hu)
 | .kv t agg::ps,d,vs,ns,ks,objs,nx,aq,fD,⟨v,vs',n1,n2,ks',h1,h2,_,h3,h4⟩,hν,hx=>by
  subst h2;obtain⟨us,kw⟩:=Woc h3;have bs:=Wac _ _ _ _ kw;have hlen:(n1++n2).length=t.owns+n2.length:=by rw[Xs,bs]
  obtain⟨_,o1⟩:=Way t d.1 nx us n1 kw hν.left;obtain⟨e1,e2,e3,e4⟩:=WcB ps d.2 vs' n2 ks' ((unfold t d.1 nx).2.1++objs) (nx+t.owns) aq fD h4 (hν.right bs) (by omega);simp only[WY,WaS];refine⟨by rw[e1,hlen];omega,λid ob hl=>?_,by rw[h1];simp[e3],λj x u hj hu=>?_⟩
  .rcases e2 id ob hl with⟨g1,g2,g3⟩|g
   .exact .inl ⟨by omega,by omega,g3⟩
   .rcases WS g with g|g
    .obtain⟨g1,g2,e,xs,rfl,g3⟩:=o1 id ob g;exact .inl ⟨g1,by omega,g3⟩
    .exact .inr g
  .rw[h1]at hu;cases j with
   |zero=>simp at hj hu;subst hj hu;exact WkT h3 hν.left (by omega)
   |succ j=>exact e4 j x u (by simpa using hj) (by simpa using hu)
 | .box t::ps,d,vs,ns,ks,objs,nx,aq,fD,⟨b,o,vs',n1,n2,ks',h1,h2,h3,⟨us,hrow,hmem,iw⟩,h6⟩,hν,hx=>by
  subst h2;have bs:=Wac _ _ _ _ iw;have hlen:((⟨Wcl b o,rng b o t.size⟩:Pc)::(n1++n2)).length=1+t.owns+n2.length:=by rw[Xr,Xs,bs];omega
  obtain⟨hν0,hφ0⟩:ν nx=Wcl b o/\φ nx=rng b o t.size:=by have:=hν 0 _ rfl;simpa using this
  have hν1:At ν φ (nx+1) (n1++n2):=hν.right (n1:=[⟨Wcl b o,rng b o t.size⟩]) rfl;obtain⟨c1,o1⟩:=Way t d.1 (nx+1) us n1 iw hν1.left;have dg:=Wck t d.1 (nx+1);obtain⟨e1,e2,e3,e4⟩:=WcB ps d.2 vs' n2 ks' ((nx,.box (unfold t d.1 (nx+1)).1)::((unfold t d.1 (nx+1)).2.1++objs)) (nx+1+t.owns) aq fD h6 (hν1.right bs) (by omega);simp only[WY,WaS];refine⟨by rw[e1,hlen];omega,λid ob hl=>?_,by rw[h1];simp[e3],λj x u hj hu=>?_⟩
  .rcases e2 id ob hl with⟨g1,g2,g3⟩|g
   .exact .inl ⟨by omega,by omega,g3⟩
   .rw[WK]at g;split at g
    .rename_i e;subst e;injection g with g;subst g;exact .inl ⟨Xn _,by omega,b,us,by rw[hν0];rfl,by rw[hν0,dg];exact hrow,by rw[hν0];exact hmem,c1 aq (by omega),by rw[hν0,dg,hφ0];exactλ_ _ hh=>hh⟩
    .rcases WS g with g|g
     .obtain⟨g1,g2,e,xs,rfl,g3⟩:=o1 id ob g;exact .inl ⟨by omega,by omega,g3⟩
     .exact .inr g
  .rw[h1]at hu;cases j with
   |zero=>
    simp at hj hu;subst hj hu;exact⟨⟨by omega,b,by rw[hν0];rfl,by rw[hν0];rfl⟩,rfl⟩
   |succ j=>exact e4 j x u (by simpa using hj) (by simpa using hu)
 | .vj _::_,_,_,_,_,_,_,_,_,h,_,_=>h.elim
 | .boxal t lf::ps,d,vs,ns,ks,objs,nx,aq,fD,⟨b,o,b',pc,vs',n1,n2,ks',h1,h2,h3,⟨us,hrow,hmem,iw⟩,h4,h5,h7,h6⟩,hν,hx=>by
  subst h2;have bs:=Wac _ _ _ _ iw;have hlen:((⟨Wcl b o,rng b o t.size⟩:Pc)::(n1++n2)).length=1+t.owns+n2.length:=by rw[Xr,Xs,bs];omega
  obtain⟨hν0,hφ0⟩:ν nx=Wcl b o/\φ nx=rng b o t.size:=by have:=hν 0 _ rfl;simpa using this
  have hν1:At ν φ (nx+1) (n1++n2):=hν.right (n1:=[⟨Wcl b o,rng b o t.size⟩]) rfl;obtain⟨c1,o1⟩:=Way t d.1 (nx+1) us n1 iw hν1.left;have dg:=Wck t d.1 (nx+1);have sD:lf<n1.length:=(Xae.1 h4).1;have hνl:ν (nx+1+lf)=pc.nu:=(hν1.left lf pc h4).1;obtain⟨e1,e2,e3,e4⟩:=WcB ps d.2.2 vs' n2 ks' ((nx,.box (unfold t d.1 (nx+1)).1)::((unfold t d.1 (nx+1)).2.1++objs)) (nx+1+t.owns) aq fD h6 (hν1.right bs) (by omega);simp only[WY,WaS];refine⟨by rw[e1,hlen];omega,λid ob hl=>?_,by rw[h1];simp[e3],λj x u hj hu=>?_⟩
  .rcases e2 id ob hl with⟨g1,g2,g3⟩|g
   .exact .inl ⟨by omega,by omega,g3⟩
   .rw[WK]at g;split at g
    .rename_i e;subst e;injection g with g;subst g;exact .inl ⟨Xn _,by omega,b,us,by rw[hν0];rfl,by rw[hν0,dg];exact hrow,by rw[hν0];exact hmem,c1 aq (by omega),by rw[hν0,dg,hφ0];exactλ_ _ hh=>hh⟩
    .rcases WS g with g|g
     .obtain⟨g1,g2,e,xs,rfl,g3⟩:=o1 id ob g;exact .inl ⟨by omega,by omega,g3⟩
     .exact .inr g
  .rw[h1]at hu
   match j with
   |0=>
    simp at hj hu;subst hj hu;exact⟨⟨by omega,b,by rw[hν0];rfl,by rw[hν0];rfl⟩,rfl⟩
   |1=>
    simp at hj hu;subst hj hu;exact⟨⟨by omega,by rw[hνl];exact h7,b',by rw[hνl];exact h5,by rw[hνl];rfl⟩,rfl⟩
   |j+2=>exact e4 j x u (by simpa using hj) (by simpa using hu)
 | .rp t::ps,d,vs,ns,ks,objs,nx,aq,fD,⟨b,o,us,vs',h1,h2,h3,h4⟩,hν,hx=>by
  obtain⟨e1,e2,e3,e4⟩:=WcB ps d.2 vs' ns ks objs nx aq fD h4 hν hx;simp only[WY];refine⟨e1,e2,by rw[h1];simp[e3],λj x u hj hu=>?_⟩;rw[h1]at hu;cases j with
  |zero=>
   simp at hj hu;subst hj hu;exact⟨⟨b,o,us,by rw[Xbb],h2,h3⟩,rfl⟩
  |succ j=>exact e4 j x u (by simpa using hj) (by simpa using hu)
 | .mut e::ps,d,vs,ns,ks,objs,nx,aq,fD,⟨pc,vs',n2,ks',h1,h2,h3,h4,h5⟩,hν,hx=>by
  subst h2;have hlen:(pc::n2).length=1+n2.length:=by rw[Xr];omega
  obtain⟨hν0,hφ0⟩:ν nx=pc.nu/\φ nx=pc.fp:=by have:=hν 0 _ rfl;simpa using this
  obtain⟨e1,e2,e3,e4⟩:=WcB ps d.2 vs' n2 ks' ((nx,.arr e d.1)::objs) (nx+1) aq fD h5 (hν.right (n1:=[pc]) rfl) (by omega);simp only[WY];refine⟨by rw[e1,hlen];omega,λid ob hl=>?_,by rw[h1];simp[e3],λj x u hj hu=>?_⟩
  .rcases e2 id ob hl with⟨g1,g2,g3⟩|g
   .exact .inl ⟨by omega,by omega,g3⟩
   .rw[WK]at g;split at g
    .rename_i e;subst e;injection g with g;subst g;refine .inl ⟨Xn _,by omega,?_⟩;show OwnL w (TyRel G w _) _ (ν nx) d.1 (φ nx);rw[hν0,hφ0];exact h4
    .exact .inr g
  .rw[h1]at hu;cases j with
   |zero=>
    simp at hj hu;subst hj hu;exact⟨⟨by omega,by rw[hν0]⟩,Wjd _⟩
   |succ j=>exact e4 j x u (by simpa using hj) (by simpa using hu)
 | .clos g n::ps,d,vs,ns,ks,objs,nx,aq,fD,⟨cvs,vs',h1,h2,h3,h4⟩,hν,hx=>by
  simp only[WcH,Xj]at fD;obtain⟨e1,e2,e3,e4⟩:=WcB ps d (cvs++vs') ns ks objs nx aq fD.2 h4 hν hx;obtain⟨ids,g1,g2⟩:=Wj1 ps d objs nx n fD.1;simp only[WY];rw[g2,Wj6];have hlen:(WY ps d objs nx).1.length=n+vs'.length:=by rw[e3,Xs,h2]
  have kC:∀(j id:Nat),ids[j]?=some id->(WY ps d objs nx).1[j]?=some (AVal.s (.one (.ptr id 0))):=λj id hj=>by
   have hlt:j<n:=by rw[←g1];exact(Xae.1 hj).1
   have:((WY ps d objs nx).1.take n)[j]?=some (.s (.one (.ptr id 0))):=by rw[g2];simp[Wkf,hj]
   rw[List.getElem?_take,Wb hlt]at this;exact this
  refine⟨e1,e2,by rw[h1];simp[hlen],λj x u hj hu=>?_⟩;rw[h1]at hu;cases j with
  |zero=>
   simp at hj hu;subst hj hu;refine⟨⟨cvs,rfl,by rw[h2,g1],λj id u hj hu=>?_⟩,rfl⟩;have hlt:j<cvs.length:=(Xae.1 hu).1;obtain⟨⟨q1,q2⟩,q3⟩:=e4 j _ u (kC j id hj) (by rw[List.getElem?_append_left hlt];exact hu);exact⟨q1,q3,q2⟩
  |succ j=>
   have hj':(WY ps d objs nx).1[n+j]?=some x:=by
    rw[←List.getElem?_drop];simpa using hj
   exact e4 (n+j) x u hj' (by rw[Xcg (by omega),h2,Xce];simpa using hu)
theorem Wdv:∀(ps:List PTy) (d:WfL ps) (vs:List Value) (ns:List Pc) (ks:List Nu),Wbx G w ps d vs ns ks->vs.length<=Wb3 ps
 | [],d,vs,ns,ks,⟨h1,_,_⟩=>by rw[h1];exact Xn _
 | .v t agg::ps,d,vs,ns,ks,⟨v,vs',n1,n2,h1,h2,h3,h4⟩=>by rw[h1,Xr];have:=Wdv ps _ _ _ _ h4;simp only[Wb3];omega
 | .box t::ps,d,vs,ns,ks,⟨b,o,vs',n1,n2,ks',h1,h2,h3,h4,h6⟩=>by rw[h1,Xr];have:=Wdv ps _ _ _ _ h6;simp only[Wb3];omega
 | .mut e::ps,d,vs,ns,ks,⟨pc,vs',n2,ks',h1,h2,h3,h4,h5⟩=>by rw[h1,Xr];have:=Wdv ps _ _ _ _ h5;simp only[Wb3];omega
 | .clos g n::ps,d,vs,ns,ks,⟨cvs,vs',h1,h2,h3,h4⟩=>by rw[h1,Xr];have:=Wdv ps _ _ _ _ h4;simp at this;simp only[Wb3];omega
 | .kv t agg::ps,d,vs,ns,ks,⟨v,vs',n1,n2,ks',h1,h2,kx,h3,h4⟩=>by rw[h1,Xr];have:=Wdv ps _ _ _ _ h4;simp only[Wb3];omega
 | .rp t::ps,d,vs,ns,ks,⟨b,o,us,vs',h1,h2,h3,h4⟩=>by rw[h1,Xr];have:=Wdv ps _ _ _ _ h4;simp only[Wb3];omega
 | .vj _::_,_,_,_,_,h=>h.elim
 | .boxal t lf::ps,d,vs,ns,ks,⟨b,o,b',pc,vs',n1,n2,ks',h1,h2,h3,h4,h5,h6,h7,h8⟩=>by rw[h1,Xr,Xr];have:=Wdv ps _ _ _ _ h8;simp only[Wb3];omega
def WoH(i:Nat)(vs:List Value):List (Nat×Value):=match vs with
 |v::_=>[(i,v)]
 | []=>[]
def WL:List PTy->Nat->Nat->List Value->List (Nat×Value)
 | [],_,_,_=>[]
 |_::ps,i,k+1,vs=>WL ps i k vs
 | .v _ _::ps,i,0,vs=>WL ps (i+1) 0 vs.tail
 | .box _::ps,i,0,vs=>WoH i vs++WL ps (i+1) 0 vs.tail
 | .mut _::ps,i,0,vs=>WoH i vs++WL ps (i+1) 0 vs.tail
 | .clos _ n::ps,i,0,vs=>WoH i vs++WL ps (i+1) n vs.tail
 | .kv _ _::ps,i,0,vs=>WoH i vs++WL ps (i+1) 0 vs.tail
 | .rp _::ps,i,0,vs=>WL ps (i+1) 0 vs.tail
 | .vj _::ps,i,0,vs=>WL ps (i+1) 0 vs.tail
 | .boxal _ _::ps,i,0,vs=>WoH i vs++WL ps (i+2) 0 vs.tail.tail
theorem WbI{i:Nat}{vs:List Value}{p:Nat×Value}(h:p∈WoH i vs):p.1=i/\vs[0]?=some p.2:=by
 unfold WoH at h;split at h
 .simp at h;subst h;exact⟨rfl,rfl⟩
 .cases h
theorem W1:∀(ps:List PTy) (i k:Nat) (vs:List Value),∀p∈WL ps i k vs,p.1∈Wem ps i k
 | [],_,_,_,p,h=>by simp[WL]at h
 | .v _ _::ps,i,k+1,vs,p,h=>W1 ps i k vs p h
 | .box _::ps,i,k+1,vs,p,h=>W1 ps i k vs p h
 | .mut _::ps,i,k+1,vs,p,h=>W1 ps i k vs p h
 | .clos _ _::ps,i,k+1,vs,p,h=>W1 ps i k vs p h
 | .v _ _::ps,i,0,vs,p,h=>W1 ps (i+1) 0 vs.tail p h
 | .box _::ps,i,0,vs,p,h=>by
  simp only[WL]at h;rcases Xm.1 h with h|h
  .rw[(WbI h).1];exact Xk ..
  .exact Xf _ (W1 ps (i+1) 0 vs.tail p h)
 | .mut _::ps,i,0,vs,p,h=>by
  simp only[WL]at h;rcases Xm.1 h with h|h
  .rw[(WbI h).1];exact Xk ..
  .exact Xf _ (W1 ps (i+1) 0 vs.tail p h)
 | .clos _ n::ps,i,0,vs,p,h=>by
  simp only[WL]at h;rcases Xm.1 h with h|h
  .rw[(WbI h).1];exact Xk ..
  .exact Xf _ (W1 ps (i+1) n vs.tail p h)
 | .kv _ _::ps,i,k+1,vs,p,h=>W1 ps i k vs p h
 | .kv _ _::ps,i,0,vs,p,h=>by
  simp only[WL]at h;rcases Xm.1 h with h|h
  .rw[(WbI h).1];exact Xk ..
  .exact Xf _ (W1 ps (i+1) 0 vs.tail p h)
 | .rp _::ps,i,k+1,vs,p,h=>W1 ps i k vs p h
 | .rp _::ps,i,0,vs,p,h=>W1 ps (i+1) 0 vs.tail p h
 | .vj _::ps,i,k+1,vs,p,h=>W1 ps i k vs p h
 | .vj _::ps,i,0,vs,p,h=>W1 ps (i+1) 0 vs.tail p h
 | .boxal _ _::ps,i,k+1,vs,p,h=>W1 ps i k vs p h
 | .boxal _ _::ps,i,0,vs,p,h=>by
  simp only[WL]at h;rcases Xm.1 h with h|h
  .rw[(WbI h).1];exact Xk ..
  .exact Xf _ (W1 ps (i+2) 0 vs.tail.tail p h)
theorem WW:∀(ps:List PTy) (i k:Nat) (vs:List Value),∀p∈WL ps i k vs,i<=p.1/\vs[p.1-i]?=some p.2
 | [],_,_,_,p,h=>by simp[WL]at h
 | .v _ _::ps,i,k+1,vs,p,h=>WW ps i k vs p h
 | .box _::ps,i,k+1,vs,p,h=>WW ps i k vs p h
 | .mut _::ps,i,k+1,vs,p,h=>WW ps i k vs p h
 | .clos _ _::ps,i,k+1,vs,p,h=>WW ps i k vs p h
 | .v _ _::ps,i,0,vs,p,h=>by
  obtain⟨h1,h2⟩:=WW ps (i+1) 0 vs.tail p h;refine⟨by omega,?_⟩;rw[show p.1-i=(p.1-(i+1))+1 by omega,←Xcd];exact h2
 | .box _::ps,i,0,vs,p,h=>by
  simp only[WL]at h;rcases Xm.1 h with h|h
  .obtain⟨h1,h2⟩:=WbI h;rw[h1];exact⟨Xn _,by rw[Xda];exact h2⟩
  .obtain⟨h1,h2⟩:=WW ps (i+1) 0 vs.tail p h;refine⟨by omega,?_⟩;rw[show p.1-i=(p.1-(i+1))+1 by omega,←Xcd];exact h2
 | .mut _::ps,i,0,vs,p,h=>by
  simp only[WL]at h;rcases Xm.1 h with h|h
  .obtain⟨h1,h2⟩:=WbI h;rw[h1];exact⟨Xn _,by rw[Xda];exact h2⟩
  .obtain⟨h1,h2⟩:=WW ps (i+1) 0 vs.tail p h;refine⟨by omega,?_⟩;rw[show p.1-i=(p.1-(i+1))+1 by omega,←Xcd];exact h2
 | .clos _ n::ps,i,0,vs,p,h=>by
  simp only[WL]at h;rcases Xm.1 h with h|h
  .obtain⟨h1,h2⟩:=WbI h;rw[h1];exact⟨Xn _,by rw[Xda];exact h2⟩
  .obtain⟨h1,h2⟩:=WW ps (i+1) n vs.tail p h;refine⟨by omega,?_⟩;rw[show p.1-i=(p.1-(i+1))+1 by omega,←Xcd];exact h2
 | .kv _ _::ps,i,k+1,vs,p,h=>WW ps i k vs p h
 | .kv _ _::ps,i,0,vs,p,h=>by
  simp only[WL]at h;rcases Xm.1 h with h|h
  .obtain⟨h1,h2⟩:=WbI h;rw[h1];exact⟨Xn _,by rw[Xda];exact h2⟩
  .obtain⟨h1,h2⟩:=WW ps (i+1) 0 vs.tail p h;refine⟨by omega,?_⟩;rw[show p.1-i=(p.1-(i+1))+1 by omega,←Xcd];exact h2
 | .rp _::ps,i,k+1,vs,p,h=>WW ps i k vs p h
 | .rp _::ps,i,0,vs,p,h=>by
  obtain⟨h1,h2⟩:=WW ps (i+1) 0 vs.tail p h;refine⟨by omega,?_⟩;rw[show p.1-i=(p.1-(i+1))+1 by omega,←Xcd];exact h2
 | .vj _::ps,i,k+1,vs,p,h=>WW ps i k vs p h
 | .vj _::ps,i,0,vs,p,h=>by
  obtain⟨h1,h2⟩:=WW ps (i+1) 0 vs.tail p h;refine⟨by omega,?_⟩;rw[show p.1-i=(p.1-(i+1))+1 by omega,←Xcd];exact h2
 | .boxal _ _::ps,i,k+1,vs,p,h=>WW ps i k vs p h
 | .boxal _ _::ps,i,0,vs,p,h=>by
  simp only[WL]at h;rcases Xm.1 h with h|h
  .obtain⟨h1,h2⟩:=WbI h;rw[h1];exact⟨Xn _,by rw[Xda];exact h2⟩
  .obtain⟨h1,h2⟩:=WW ps (i+2) 0 vs.tail.tail p h;refine⟨by omega,?_⟩;rw[show p.1-i=(p.1-(i+2))+1+1 by omega,←Xcd,←Xcd];exact h2
def WnF(tmps:Array Value):ResultVar->Sem Value
 | .tmp t=>pure (tmps.getD t undef)
 | .cell b t=>do loadVar t (←asAddr (tmps.getD b undef))
theorem Wli(hT:War P T)(hr:Rel w0 F nt G0 G ν st a w):∀(l:List ResultVar) (xs:List AVal),Wew T st l=some xs->
  ∃vs:List Value,(l.mapM (WnF a.tmps)).run P w= .ok vs w/\vs.length=xs.length/\
   ∀(j:Nat) (x:AVal) (v:Value),xs[j]?=some x->vs[j]?=some v->AValRel G ν st.nx x v
 | [],xs,h=>by
  simp only[Wew]at h;injection h with h;subst h;exact⟨[],by simp,rfl,λj x v hj=>by simp at hj⟩
 | .tmp t::l,xs,h=>by
  simp only[Wew]at h;split at h
  .rename_i x uG h1 h2;injection h with h;subst h;obtain⟨vs,h3,h4,h5⟩:=Wli hT hr l uG h2;obtain⟨v,hv,hx⟩:=hr.env t x h1;refine⟨v::vs,?_,by simp[h4],λj y u hj hu=>?_⟩
   .have br:a.tmps.getD t undef=v:=by simp[Xcp,hv]
    simp only[Xfe,Sem.run_bind,WnF,Sem.run_pure,Result.andThen_ok,h3,br]
   .cases j with
    |zero=>simp at hj hu;subst hj hu;exact hx
    |succ j=>exact h5 j y u (by simpa using hj) (by simpa using hu)
  .cases h
 | .cell b t::l,xs,h=>by
  simp only[Wew]at h;split at h
  .rename_i x uG h1 h2;injection h with h;subst h;obtain⟨vs,h3,h4,h5⟩:=Wli hT hr l uG h2;cases hb:look st.env b with
   |none=>simp[hb]at h1
   |some y=>
    simp only[hb,Xd]at h1;obtain⟨v,hv,hx⟩:=hr.env b y hb;obtain⟨u,hu,vT⟩:=Wh4 hT hr.h hx h1;refine⟨u::vs,?_,by simp[h4],λj z q hj hq=>?_⟩
    .have br:a.tmps.getD b undef=v:=by simp[Xcp,hv]
     unfold Instr.loadAt at hu;rw[Sem.run_bind]at hu;obtain⟨p,rfl⟩:∃p,v= .pointer (some p):=by
      unfold Instr.sureAddr at hu;split at hu
      .exact⟨_,rfl⟩
      .simp[stuck]at hu
     simp only[Instr.sureAddr,Sem.run_pure,Result.andThen_ok]at hu;have ha:(asAddr (.pointer (some p))).run P w= .ok p w:=rfl;simp only[Xfe,Sem.run_bind,WnF,Sem.run_pure,Result.andThen_ok,br,ha,hu,h3]
    .cases j with
     |zero=>simp at hj hq;subst hj hq;exact vT
     |succ j=>exact h5 j z q (by simpa using hj) (by simpa using hq)
  .cases h
theorem Wd8(h:HR w0 F G ν φ objs nx w)(hg:GLe G G'):∀(rs:List PTy) (xs:List AVal) (vs:List Value) (A:Outs (Whg rs)),vs.length=xs.length->
  (∀(j:Nat) (x:AVal) (v:Value),xs[j]?=some x->vs[j]?=some v->AValRel G ν nx x v)->Lent G' w φ objs A.lent->A.moved.Nodup->Wbk rs xs objs=some A->
  ∃ns,WgC G' w rs A.d vs ns/\Sep (fps ns)/\(∀q∈ns,CS.le q.fp (FromL φ objs A.moved))/\(∀i∈A.moved,Live objs i)
 | [],xs,vs,A,hlen,hx,hl,bf,hf=>by
  simp only[Wbk]at hf;split at hf
  .injection hf with hf;subst hf;have dK:vs= []:=Xt (by simpa using hlen);exact⟨[],⟨dK,rfl⟩,List.Pairwise.nil,by simp,by simp⟩
  .cases hf
 | .v t agg::rs,xs,vs,A,hlen,hx,hl,bf,hf=>by
  simp only[Wbk]at hf;split at hf
  .rename_i x xs;split at hf
   .rename_i d m l A' h1 h2;injection hf with hf;subst hf
    match vs,hlen with
    |v::vs,hlen=>
     cases hc:cellsOf agg x with
     |none=>simp[hc]at h1
     |some cs=>
      simp[hc]at h1;obtain⟨k1,k2,k3⟩:=Xak.1 bf;obtain⟨n1,g1,g2,g3,g4,_⟩:=WlR h hg (hx 0 x v rfl rfl) (hl.mono (λi hi=>Xl _ hi)) k1 hc h1;obtain⟨n2,g5,g6,g7,g8⟩:=Wd8 h hg rs xs vs A' (by simpa using hlen) (λj y u hj hu=>hx (j+1) y u (by simpa using hj) (by simpa using hu)) (hl.mono (λi hi=>Xh _ hi)) k2 h2;refine⟨n1++n2,⟨v,vs,n1,n2,rfl,rfl,g1,g5⟩,Wcx h g2 g6 g3 g7 (λi hi hj=>k3 i hi i hj rfl),λq hq=>?_,λi hi=>?_⟩
      .rcases Xm.1 hq with hq|hq
       .exactλb o hh=>FromL.mono (λi hi=>Xl _ hi) b o (g3 q hq b o hh)
       .exactλb o hh=>FromL.mono (λi hi=>Xh _ hi) b o (g7 q hq b o hh)
      .rcases Xm.1 hi with hi|hi
       .exact g4 i hi
       .exact g8 i hi
   .cases hf
  .cases hf
 | .box t::rs,xs,vs,A,hlen,hx,hl,bf,hf=>by
  simp only[Wbk]at hf;split at hf
  .rename_i id xs;split at hf
   .rename_i cs bm;split at hf
    .rename_i d m l A' h1 h2;injection hf with hf;subst hf
     match vs,hlen with
     |v::vs,hlen=>
      obtain⟨k0,k1⟩:=Xaj.1 bf;obtain⟨k2,k3,k4⟩:=Xak.1 k1;obtain⟨⟨_,b,hνb,rfl⟩,_⟩:=hx 0 _ v rfl rfl;have aW:Live objs id:=⟨_,bm,by simp⟩;obtain⟨b'',us,mH,hrow,hmem,bP,fC⟩:WcQ G ν nx w id (φ id) (.box cs):=h.ob _ _ bm;rw[hνb]at mH;injection mH with mH;subst mH;obtain⟨n1,g1,g2,g3,g4,_⟩:=Wam h hg t cs us d m l bP (hl.mono (λi hi=>Xl _ hi)) k2 h1;have dg:cs.length=t.size:=by rw[←bP.1];exact WE _ _ _ _ g1
      obtain⟨n2,g5,g6,g7,g8⟩:=Wd8 h hg rs xs vs A' (by simpa using hlen) (λj y u hj hu=>hx (j+1) y u (by simpa using hj) (by simpa using hu)) (hl.mono (λi hi=>Xh _ hi)) k3 h2;rw[dg]at hrow fC;refine⟨⟨Wcl b ((ν id).off+0),rng b ((ν id).off+0) t.size⟩::(n1++n2),⟨b,(ν id).off+0,vs,n1,n2,rfl,rfl,⟨us,hrow,hmem,g1⟩,g5⟩,?_,λq hq=>?_,λi hi=>?_⟩
      .refine Wcx h (n1:=[⟨Wcl b ((ν id).off+0),rng b ((ν id).off+0) t.size⟩]) (m:=[id]) (l:=m++A'.moved) (Xbi _ _) (Wcx h g2 g6 g3 g7 (λi hi hj=>k4 i hi i hj rfl)) (λq hq=>?_) (λq hq=>?_) (λi hi hj=>k0 (by rw[←Xaf.1 hi];exact hj))
       .rw[Xaf.1 hq];exactλb o hh=>⟨id,by simp,aW,fC b o hh⟩
       .rcases Xm.1 hq with hq|hq
        .exactλb o hh=>FromL.mono (λi hi=>Xl _ hi) b o (g3 q hq b o hh)
        .exactλb o hh=>FromL.mono (λi hi=>Xh _ hi) b o (g7 q hq b o hh)
      .rcases Xq.1 hq with rfl|hq
       .exactλb o hh=>⟨id,by simp,aW,fC b o hh⟩
       .rcases Xm.1 hq with hq|hq
        .exactλb o hh=>FromL.mono (λi hi=>Xf _ (Xl _ hi)) b o (g3 q hq b o hh)
        .exactλb o hh=>FromL.mono (λi hi=>Xf _ (Xh _ hi)) b o (g7 q hq b o hh)
      .rcases Xq.1 hi with rfl|hi
       .exact aW
       .rcases Xm.1 hi with hi|hi
        .exact g4 i hi
        .exact g8 i hi
    .cases hf
   .cases hf
  .cases hf
 | .mut _::_,_,_,_,_,_,_,_,h=>by simp only[Wbk]at h;cases h
 | .clos _ _::_,_,_,_,_,_,_,_,h=>by simp only[Wbk]at h;cases h
 | .kv _ _::_,_,_,_,_,_,_,_,h=>by simp only[Wbk]at h;cases h
 | .rp _::_,_,_,_,_,_,_,_,h=>by simp only[Wbk]at h;cases h
 | .vj t::rs,xs,vs,A,hlen,hx,hl,bf,hf=>by
  simp only[Wbk]at hf;split at hf
  .rename_i cs xs;split at hf
   .rename_i hcl;split at hf
    .rename_i d m l A' h1 h2;injection hf with hf;subst hf
     match vs,hlen with
     |v::vs,hlen=>
      obtain⟨k1,k2,k3⟩:=Xak.1 bf;obtain⟨us,rfl,bP⟩:=hx 0 _ v rfl rfl;obtain⟨n1,g1,g2,g3,g4,_⟩:=Wam h hg t (cs.take t.size) (us.take t.size) d m l (bP.take t.size) (hl.mono (λi hi=>Xl _ hi)) k1 h1;obtain⟨n2,g5,g6,g7,g8⟩:=Wd8 h hg rs xs vs A' (by simpa using hlen) (λj y u hj hu=>hx (j+1) y u (by simpa using hj) (by simpa using hu)) (hl.mono (λi hi=>Xh _ hi)) k2 h2;have dg:us.length=t.size+1:=by rw[bP.1,hcl]
      have hlt:t.size<us.length:=by omega
      have e0:us=us.take t.size++ [us[t.size]]:=by
       rw[←List.take_succ_eq_append_getElem hlt,Xcs (by omega)]
      have ho:=(bP.2 t.size (cs[t.size]'(by omega)) us[t.size] (Xp (by omega)) (Xp hlt)).2;refine⟨n1++n2,⟨us.take t.size,us[t.size],vs,n1,n2,by rw[←e0],ho,rfl,g1,g5⟩,Wcx h g2 g6 g3 g7 (λi hi hj=>k3 i hi i hj rfl),λq hq=>?_,λi hi=>?_⟩
      .rcases Xm.1 hq with hq|hq
       .exactλb o hh=>FromL.mono (λi hi=>Xl _ hi) b o (g3 q hq b o hh)
       .exactλb o hh=>FromL.mono (λi hi=>Xh _ hi) b o (g7 q hq b o hh)
      .rcases Xm.1 hi with hi|hi
       .exact g4 i hi
       .exact g8 i hi
    .cases hf
   .cases hf
  .cases hf
 | .boxal _ _::_,_,_,_,_,_,_,_,h=>by simp only[Wbk]at h;cases h
theorem WoV{p:PTy}{ps:List PTy}{k:Nat}(h:Wkk (p::ps) (k+1)=true):(∃t,p= .box t)/\Wkk ps k=true:=by
 cases p with
 |box t=>exact⟨⟨t,rfl⟩,h⟩
 |_=>cases h
theorem WgV(hr:Rel w0 F nt G0 G ν st a w){i:Nat}{u:Value}(hp:a.tmps[i]?=some u):(look st.env i).getD (.tup [])= .tup []\/AValRel G ν st.nx ((look st.env i).getD (.tup [])) u:=by
 cases he:look st.env i with
 |none=>exact .inl rfl
 |some y=>
  obtain⟨v,hv,hx⟩:=hr.env i y he;rw[hp]at hv;injection hv with hv;subst hv;exact .inr hx
theorem WaI{wb:World}{Gb:GH}(hr:Rel w0 F nt G0 G ν st a w):∀(ps:List PTy) (d:WfL ps) (vs:List Value) (ns:List Pc) (ks:List Nu) (i k:Nat),Wbx Gb wb ps d vs ns ks->WcH ps=true->Wkk ps k=true->k<=vs.length->
  (∀p∈WL ps i k (vs.drop k),a.tmps[p.1]?=some p.2)->(Wy ps i k st).length+k=vs.length/\
  ∀(j:Nat) (x:AVal) (v:Value),(Wy ps i k st)[j]?=some x->vs[k+j]?=some v->x= .tup []\/AValRel G ν st.nx x v
 | [],d,vs,ns,ks,i,k,⟨h1,_,_⟩,_,_,hk,_=>by
  subst h1;have:k=0:=by simpa using hk
  subst this;exact⟨rfl,λj x v hj=>by simp[Wy]at hj⟩
 |p::ps,d,vs,ns,ks,i,k+1,h,hc,hb,hk,hp=>by
  obtain⟨⟨t,rfl⟩,hb'⟩:=WoV hb;obtain⟨b,o,vs',n1,n2,ks',h1,h2,h3,h4,h6⟩:=h;subst h1;have gS:WcH ps=true:=hc;obtain⟨e1,e2⟩:=WaI hr ps d.2 vs' n2 ks' i k h6 gS hb' (by simpa using hk) (by simpa [WL]using hp);refine⟨by simp only[Wy,Xr];omega,λj x v hj hv=>e2 j x v (by simpa [Wy]using hj) ?_⟩;rw[show k+1+j=(k+j)+1 by omega]at hv;simpa using hv
 | .v t agg::ps,d,vs,ns,ks,i,0,⟨v,vs',n1,n2,h1,h2,h3,h4⟩,hc,_,_,hp=>by
  subst h1;obtain⟨e1,e2⟩:=WaI hr ps d.2 vs' n2 ks (i+1) 0 h4 hc (by cases ps<;>rfl) (Xbp _) (by simpa [WL]using hp);refine⟨by simp only[Wy,Xr];omega,λj x u hj hu=>?_⟩;cases j with
  |zero=>simp[Wy]at hj;exact .inl hj.symm
  |succ j=>exact e2 j x u (by simpa [Wy]using hj) (by simpa using hu)
 | .rp t::ps,d,vs,ns,ks,i,0,⟨b,o,us,vs',h1,h2,h3,h4⟩,hc,_,_,hp=>by
  subst h1;obtain⟨e1,e2⟩:=WaI hr ps d.2 vs' ns ks (i+1) 0 h4 hc (by cases ps<;>rfl) (Xbp _) (by simpa [WL]using hp);refine⟨by simp only[Wy,Xr];omega,λj x u hj hu=>?_⟩;cases j with
  |zero=>simp[Wy]at hj;exact .inl hj.symm
  |succ j=>exact e2 j x u (by simpa [Wy]using hj) (by simpa using hu)
 | .box t::ps,d,vs,ns,ks,i,0,⟨b,o,vs',n1,n2,ks',h1,h2,h3,h4,h6⟩,hc,_,_,hp=>by
  subst h1;simp only[WL,Xbm,Xem]at hp;obtain⟨e1,e2⟩:=WaI hr ps d.2 vs' n2 ks' (i+1) 0 h6 hc (by cases ps<;>rfl) (Xbp _) (λp iJ=>hp p (Xh _ (by simpa using iJ)));refine⟨by simp only[Wy,Xr];omega,λj x u hj hu=>?_⟩;cases j with
  |zero=>
   simp[Wy]at hj hu;subst hj hu;exact WgV hr (hp (i,_) (Xl _ (Xk ..)))
  |succ j=>exact e2 j x u (by simpa [Wy]using hj) (by simpa using hu)
 | .vj _::_,_,_,_,_,_,_,h,_,_,_,_=>h.elim
 | .boxal t lf::ps,d,vs,ns,ks,i,0,⟨b,o,b',pc,vs',n1,n2,ks',h1,h2,h3,h4,h5,h6,h7,h8⟩,hc,_,_,hp=>by
  subst h1;simp only[WL,Xbm,Xem]at hp;obtain⟨e1,e2⟩:=WaI hr ps d.2.2 vs' n2 ks' (i+2) 0 h8 hc (by cases ps<;>rfl) (Xbp _) (λp iJ=>hp p (Xh _ (by simpa using iJ)));refine⟨by simp only[Wy,Xr];omega,λj x u hj hu=>?_⟩
  match j with
  |0=>
   simp[Wy]at hj hu;subst hj hu;exact WgV hr (hp (i,_) (Xl _ (Xk ..)))
  |1=>simp[Wy]at hj;exact .inl hj.symm
  |j+2=>exact e2 j x u (by simpa [Wy]using hj) (by simpa using hu)
 | .mut e::ps,d,vs,ns,ks,i,0,⟨pc,vs',n2,ks',h1,h2,h3,h4,h5⟩,hc,_,_,hp=>by
  subst h1;simp only[WL,Xbm,Xem]at hp;obtain⟨e1,e2⟩:=WaI hr ps d.2 vs' n2 ks' (i+1) 0 h5 hc (by cases ps<;>rfl) (Xbp _) (λp iJ=>hp p (Xh _ (by simpa using iJ)));refine⟨by simp only[Wy,Xr];omega,λj x u hj hu=>?_⟩;cases j with
  |zero=>
   simp[Wy]at hj hu;subst hj hu;exact WgV hr (hp (i,_) (Xl _ (Xk ..)))
  |succ j=>exact e2 j x u (by simpa [Wy]using hj) (by simpa using hu)
 | .clos g n::ps,d,vs,ns,ks,i,0,⟨cvs,vs',h1,h2,h3,h4⟩,hc,_,_,hp=>by
  subst h1;simp only[WcH,Xj]at hc;simp only[WL,Xbm,Xem]at hp;obtain⟨e1,e2⟩:=WaI hr ps d (cvs++vs') ns ks (i+1) n h4 hc.2 hc.1 (by simp[h2]) (λp iJ=>hp p (Xh _ (by rw[List.drop_left' h2]at iJ;exact iJ)));refine⟨by simp only[Wy,Xr];simp at e1;omega,λj x u hj hu=>?_⟩;cases j with
  |zero=>
   simp[Wy]at hj hu;subst hj hu;exact WgV hr (hp (i,_) (Xl _ (Xk ..)))
  |succ j=>exact e2 j x u (by simpa [Wy]using hj) (by rw[Xcg (by omega),h2,Xce];simpa using hu)
 | .kv t agg::ps,d,vs,ns,ks,i,0,⟨v,vs',n1,n2,ks',h1,h2,kx,h3,h4⟩,hc,_,_,hp=>by
  subst h1;simp only[WL,Xbm,Xem]at hp;obtain⟨e1,e2⟩:=WaI hr ps d.2 vs' n2 ks' (i+1) 0 h4 hc (by cases ps<;>rfl) (Xbp _) (λp iJ=>hp p (Xh _ (by simpa using iJ)));refine⟨by simp only[Wy,Xr];omega,λj x u hj hu=>?_⟩;cases j with
  |zero=>
   simp[Wy]at hj hu;subst hj hu;exact WgV hr (hp (i,_) (Xl _ (Xk ..)))
  |succ j=>exact e2 j x u (by simpa [Wy]using hj) (by simpa using hu)
theorem Wp6{G G':GH}{wb w:World}{nu sE:Nu}{e:Ty}{xs ys:List e.den}{S S':CS}(h4:OwnL wb (TyRel G wb e) e.size nu xs S)(hown:OwnL w (TyRel G' w e) e.size sE ys S')(hx:nu.hdr=sE.hdr):OwnL w (TyRel G' w e) e.size nu ys S':=by
 unfold Nu.hdr at hx;cases hb:sE.blk with
 |none=>
  cases hb':nu.blk with
  |some b=>simp[hb,hb']at hx
  |none=>
   have k1:=WcA h4 hb';have k2:=WcA hown hb;refine⟨by rw[k2,←h4.1,k1],h4.2.1,?_⟩;simp only[hb'];exact k2
 |some b=>
  cases hb':nu.blk with
  |none=>simp[hb,hb']at hx
  |some b'=>
   simp only[hb,hb']at hx;injection hx with x1 x2 x3;injection x1 with x1;injection x1 with x1 x4 _;have e1:=h4.2.1;have e2:=hown.2.1;have:nu=sE:=by
    obtain⟨a1,a2,a3,a4,a5⟩:=nu;obtain⟨b1,b2,b3,b4,b5⟩:=sE;simp only at hb hb' x1 x2 x3 x4 e1 e2;subst hb hb' x1 x2 x3 x4;rw[e1,e2]
   rw[this];exact hown
theorem Wfr{G G':GH}{wb w:World}:∀(t:Ty) (d0 d:t.den) (us:List Value) (n1 n2:List Pc),TyRel G wb t d0 us n1->TyRel G' w t d us n2->∃n3,TyRel G' w t d us n3/\nus n3=nus n1/\fps n3=fps n2
 | .own e,d0,d,us,n1,n2,⟨pc,h1,h2,h3⟩,⟨cR,g1,g2,g3⟩=>by
  subst h1 g1;have hx:pc.nu.hdr=cR.nu.hdr:=by rw[h2]at g2;simpa using g2
  exact⟨[⟨pc.nu,cR.fp⟩],⟨_,rfl,h2,Wp6 h3 g3 hx⟩,rfl,rfl⟩
 | .prod a b,d0,d,us,n1,n2,⟨v1,v2,m1,m2,h1,h2,h3,h4⟩,⟨u1,u2,k1,k2,g1,g2,g3,g4⟩=>by
  have l1:=WE a _ _ _ h3;have l2:=WE a _ _ _ g3;obtain⟨q1,q2⟩:=List.append_inj (h1.symm.trans g1) (by rw[l1,l2]);subst q1 q2 h2 g2;obtain⟨a1,a2,a3,a4⟩:=Wfr a _ _ _ _ _ h3 g3;obtain⟨b1,b2,b3,b4⟩:=Wfr b _ _ _ _ _ h4 g4;exact⟨a1++b1,⟨_,_,a1,b1,h1,rfl,a2,b2⟩,by unfold nus at a3 b3⊢;rw[Xu,Xu,a3,b3],by unfold fps at a4 b4⊢;rw[Xu,Xu,a4,b4]⟩
 | .int _,d0,d,us,n1,n2,h,g=>by obtain⟨h1,_⟩:=h;obtain⟨g1,g2⟩:=g;subst h1 g1;exact⟨[],⟨rfl,g2⟩,rfl,rfl⟩
 | .bool,d0,d,us,n1,n2,h,g=>by obtain⟨h1,_⟩:=h;obtain⟨g1,g2⟩:=g;subst h1 g1;exact⟨[],⟨rfl,g2⟩,rfl,rfl⟩
 | .str,d0,d,us,n1,n2,h,g=>by obtain⟨h1,_⟩:=h;obtain⟨g1,g2⟩:=g;subst h1 g1;exact⟨[],⟨rfl,g2⟩,rfl,rfl⟩
 | .slice _,d0,d,us,n1,n2,h,g=>by obtain⟨h1,_⟩:=h;obtain⟨g1,g2⟩:=g;subst h1 g1;exact⟨[],⟨rfl,g2⟩,rfl,rfl⟩
theorem WrL{G G':GH}{wb w:World}{t:Ty}{agg:Bool}{d0 d:t.den}{v:Value}{n1 n2:List Pc}(h:WjS G wb t agg d0 v n1)(g:WjS G' w t agg d v n2):∃us n3,TyRel G' w t d us n3/\nus n3=nus n1/\fps n3=fps n2:=by
 unfold WjS at h g;split at h
 .rename_i ha;rw[Wb ha]at g;obtain⟨us,h1,h2⟩:=h;obtain⟨uM,g1,g2⟩:=g;have:us=uM:=by
   rw[h1]at g1;injection g1 with g1;have:=Wm Array.toList g1;simpa using this
  subst this;exact⟨us,Wfr _ _ _ _ _ _ h2 g2⟩
 .rename_i ha;rw[Wa ha]at g;exact⟨_,Wfr _ _ _ _ _ _ h g⟩
structure OOk(G':GH)(φ:Nat->CS)(objs:Wal)(w:World)(ps:List PTy)(B:OutK (Wgh ps))(ks:List Nu)(kf:List CS)(ms:List Pc):Prop where
 outs:WbN G' w ps B.d ks kf ms
 sepk:Sep kf
 sepm:Sep (fps ms)
 kf:∀S∈kf,CS.le S (FromL φ objs B.kept)
 ms:∀q∈ms,CS.le q.fp (FromL φ objs B.moved)
theorem Wxp(h:HR w0 F G ν φ objs nx w){k1 k2:List CS}{m l:List Nat}(h1:Sep k1)(h2:Sep k2)(g1:∀S∈k1,CS.le S (FromL φ objs m))(g2:∀S∈k2,CS.le S (FromL φ objs l))(hd:∀i∈m,i∉l):Sep (k1++k2):=
 Wog h1 h2 (A:=FromL φ objs m) (B:=FromL φ objs l) g1 g2 (FromL.disj h hd)
theorem Wh0{wb:World}{Gb:GH}(hg:GLe G G')(h:HR w0 F G ν φ objs nx w){t:Ty}{ps:List PTy}{id b o:Nat}{cs:List Cell}{dd:t.den}{m l:List Nat}{A:OutK (Wgh ps)}{ks:List Nu}{kf:List CS}{ms:List Pc}
  (hx:CellRel G ν nx (.ptr id 0) (.pointer (some ⟨b,o,none⟩))) (ho:look objs id=some (.box cs)) (g1:WaA t cs objs=some (dd,m,l)) (hl:Lent G' w φ objs l) (hk:(id::A.kept).Nodup) (hm:(m++A.moved).Nodup) (hA:OOk G' φ objs w ps A ks kf ms):
  ∃nn,WfK G' w t dd b o nn/\Sep (rng b o t.size::kf)/\Sep (fps (nn++ms))/\(∀S∈rng b o t.size::kf,CS.le S (FromL φ objs (id::A.kept)))/\(∀q∈nn++ms,CS.le q.fp (FromL φ objs (m++A.moved))):=by
 obtain⟨_,b',Bd,kD⟩:=hx;injection kD with kD;injection kD with kD;injection kD with kD mz _;subst kD mz;have aW:Live objs id:=⟨_,ho,by simp⟩;obtain⟨b'',us,uN,hrow,hmem,bP,fC⟩:WcQ G ν nx w id (φ id) (.box cs):=h.ob _ _ ho;rw[Bd]at uN;injection uN with uN;subst uN;obtain⟨k1,k2⟩:=Xaj.1 hk;obtain⟨k3,k4,k5⟩:=Xak.1 hm;obtain⟨nn,e1,e2,e3,_⟩:=Wam h hg t cs us dd m l bP hl k3 g1;have dg:cs.length=t.size:=by rw[←bP.1];exact WE _ _ _ _ e1
 rw[dg]at hrow fC;have ib:CS.le (rng b ((ν id).off+0) t.size) (FromL φ objs [id]):=λb o hh=>⟨id,by simp,aW,fC b o hh⟩;refine⟨nn,⟨us,hrow,hmem,e1⟩,?_,Wcx h e2 hA.sepm e3 hA.ms (λi hi hj=>k5 i hi i hj rfl),λS hS=>?_,λq hq=>?_⟩
 .exact Wxp h (k1:=[rng b ((ν id).off+0) t.size]) (m:=[id]) (Xbi _ _) hA.sepk (λS hS=>by rw[Xaf.1 hS];exact ib) hA.kf (λi hi hj=>k1 (by rw[←Xaf.1 hi];exact hj))
 .rcases Xq.1 hS with rfl|hS
  .exactλb o hh=>FromL.mono (λi hi=>by rw[Xaf.1 hi];exact Xk ..) b o (ib b o hh)
  .exactλb o hh=>FromL.mono (λi hi=>Xf _ hi) b o (hA.kf S hS b o hh)
 .rcases Xm.1 hq with hq|hq
  .exactλb o hh=>FromL.mono (λi hi=>Xl _ hi) b o (e3 q hq b o hh)
  .exactλb o hh=>FromL.mono (λi hi=>Xh _ hi) b o (hA.ms q hq b o hh)
theorem Wa7{wb:World}{Gb:GH}(hg:GLe G G')(h:HR w0 F G ν φ objs nx w):∀(ps:List PTy) (d:WfL ps) (vs:List Value) (ns:List Pc) (ks:List Nu) (xs:List AVal) (B:OutK (Wgh ps)),Wbx Gb wb ps d vs ns ks->xs.length=vs.length->
  (∀(j:Nat) (x:AVal) (v:Value),xs[j]?=some x->vs[j]?=some v->x= .tup []\/AValRel G ν nx x v)->Lent G' w φ objs B.lent->B.kept.Nodup->B.moved.Nodup->W6 ps xs objs=some B->
  ∃kf ms,OOk G' φ objs w ps B ks kf ms
 | [],d,vs,ns,ks,xs,B,⟨_,_,hk⟩,_,_,_,_,_,hf=>by
  simp only[W6]at hf;injection hf with hf;subst hf;exact⟨[],[],⟨hk,rfl,rfl⟩,List.Pairwise.nil,List.Pairwise.nil,by simp,by simp⟩
 | .v t agg::ps,d,vs,ns,ks,xs,B,⟨v,vs',n1,n2,h1,h2,h3,h4⟩,hlen,hp,hl,hk,hm,hf=>by
  subst h1;simp only[W6]at hf;cases hA:W6 ps xs.tail objs with
  |none=>simp[hA]at hf
  |some A=>
   simp[hA]at hf;subst hf
   match xs,hlen with
   |x::xs,hlen=>
    obtain⟨kf,ms,hO⟩:=Wa7 hg h ps d.2 vs' n2 ks xs A h4 (by simpa using hlen) (λj y u hj hu=>hp (j+1) y u (by simpa using hj) (by simpa using hu)) hl hk hm hA;exact⟨kf,ms,hO.outs,hO.sepk,hO.sepm,hO.kf,hO.ms⟩
 | .rp t::ps,d,vs,ns,ks,xs,B,⟨b,o,us,vs',h1,h2,h3,h4⟩,hlen,hp,hl,hk,hm,hf=>by
  subst h1;simp only[W6]at hf;cases hA:W6 ps xs.tail objs with
  |none=>simp[hA]at hf
  |some A=>
   simp[hA]at hf;subst hf
   match xs,hlen with
   |x::xs,hlen=>
    obtain⟨kf,ms,hO⟩:=Wa7 hg h ps d.2 vs' ns ks xs A h4 (by simpa using hlen) (λj y u hj hu=>hp (j+1) y u (by simpa using hj) (by simpa using hu)) hl hk hm hA;exact⟨kf,ms,hO.outs,hO.sepk,hO.sepm,hO.kf,hO.ms⟩
 | .box t::ps,d,vs,ns,ks,xs,B,⟨b,o,vs',n1,n2,ks',h1,h2,h3,h4,h6⟩,hlen,hp,hl,hk,hm,hf=>by
  subst h1;simp only[W6]at hf;split at hf
  .rename_i id xs;split at hf
   .rename_i cs ho;split at hf
    .rename_i dd m l A g1 g2;injection hf with hf;subst hf;have hx:=((hp 0 _ _ rfl rfl).resolve_left (λe=>by cases e)).1;obtain⟨kf,ms,hO⟩:=Wa7 hg h ps d.2 vs' n2 ks' xs A h6 (by simpa using hlen) (λj y u hj hu=>hp (j+1) y u (by simpa using hj) (by simpa using hu)) (hl.mono λj hj=>Xh _ hj) (Xaj.1 hk).2 (Xak.1 hm).2.1 g2;obtain⟨nn,e1,e2,e3,e4,e5⟩:=Wh0 (wb:=wb) (Gb:=Gb) hg h hx ho g1 (hl.mono λj hj=>Xl _ hj) hk hm hO;exact⟨_,nn++ms,⟨b,o,ks',kf,nn,ms,h3,rfl,rfl,e1,hO.outs⟩,e2,e3,e4,e5⟩
    .cases hf
   .cases hf
  .cases hf
 | .vj _::_,_,_,_,_,_,_,h,_,_,_,_,_,_=>h.elim
 | .boxal t lf::ps,d,vs,ns,ks,xs,B,⟨b,o,b',pc,vs',n1,n2,ks',h1,h2,h3,h4,h5,h6,h7,h8⟩,hlen,hp,hl,hk,hm,hf=>by
  subst h1;simp only[W6]at hf;split at hf
  .rename_i id y xs;split at hf
   .rename_i cs ho;split at hf
    .rename_i dd m l A g1 g2;injection hf with hf;subst hf;have hx:=((hp 0 _ _ rfl rfl).resolve_left (λe=>by cases e)).1;obtain⟨kf,ms,hO⟩:=Wa7 hg h ps d.2.2 vs' n2 ks' xs A h8 (by simpa using hlen) (λj y u hj hu=>hp (j+2) y u (by simpa using hj) (by simpa using hu)) (hl.mono λj hj=>Xh _ hj) (Xaj.1 hk).2 (Xak.1 hm).2.1 g2;obtain⟨nn,e1,e2,e3,e4,e5⟩:=Wh0 (wb:=wb) (Gb:=Gb) hg h hx ho g1 (hl.mono λj hj=>Xl _ hj) hk hm hO;exact⟨_,nn++ms,⟨b,o,ks',kf,nn,ms,h3,rfl,rfl,e1,hO.outs⟩,e2,e3,e4,e5⟩
    .cases hf
   .cases hf
  .cases hf
 | .mut e::ps,d,vs,ns,ks,xs,B,⟨pc,vs',n2,ks',h1,h2,h3,h4,h5⟩,hlen,hp,hl,hk,hm,hf=>by
  subst h1;simp only[W6]at hf;split at hf
  .rename_i id xs;split at hf
   .rename_i e' ys ho;split at hf
    .rename_i dd A g1 g2;injection hf with hf;subst hf;obtain⟨eQ,hd⟩:=Waz g1;subst eQ;simp only at hd;subst hd;obtain⟨⟨_,hx⟩,_⟩:=(hp 0 _ _ rfl rfl).resolve_left (λe=>by cases e);have aW:Live objs id:=⟨_,ho,by simp⟩;have hown:OwnL w (TyRel G w e') e'.size (ν id) ys (φ id):=h.ob _ _ ho;have hown':=Wdl hg (Same.refl _ w) (λ_ _ hh=>hh) hown;obtain⟨k1,k2⟩:=Xaj.1 hk;obtain⟨kf,ms,hO⟩:=Wa7 hg h ps d.2 vs' n2 ks' xs A h5 (by simpa using hlen) (λj y u hj hu=>hp (j+1) y u (by simpa using hj) (by simpa using hu)) hl k2 hm g2;refine⟨φ id::kf,ms,⟨⟨pc.nu,φ id⟩,ks',kf,h3,rfl,Wp6 h4 hown' hx,hO.outs⟩,?_,hO.sepm,λS hS=>?_,hO.ms⟩
     .exact Wxp h (k1:=[φ id]) (m:=[id]) (Xbi _ _) hO.sepk (λS hS=>by rw[Xaf.1 hS];exact FromL.one (by simp) aW) hO.kf (λi hi hj=>k1 (by rw[←Xaf.1 hi];exact hj))
     .rcases Xq.1 hS with rfl|hS
      .exact FromL.one (Xk ..) aW
      .exactλb o hh=>FromL.mono (λi hi=>Xf _ hi) b o (hO.kf S hS b o hh)
    .cases hf
   .cases hf
  .cases hf
 | .clos g n::ps,d,vs,ns,ks,xs,B,⟨cvs,vs',h1,h2,h3,h4⟩,hlen,hp,hl,hk,hm,hf=>by
  subst h1;simp only[W6]at hf;split at hf
  .rename_i g' caps xs;split at hf
   .rename_i hc;obtain⟨rfl,hcl⟩:=hc;cases hA:W6 ps (Wkf caps++xs) objs with
    |none=>simp[hA]at hf
    |some A=>
     simp[hA]at hf;subst hf;obtain⟨⟨us,uO,vU,Be⟩,_⟩:=(hp 0 _ _ rfl rfl).resolve_left (λe=>by cases e);have kw:us=cvs:=by
      injection uO with _ _ uO;have:=Wm Array.toList uO;simpa using this.symm
     subst kw;obtain⟨kf,ms,hO⟩:=Wa7 hg h ps d (us++vs') ns ks (Wkf caps++xs) A h4 (by simp[Wkf,vU];simpa using hlen) (λj y u hj hu=>by
      rw[Xav]at hj hu;simp only[Wkf,List.length_map]at hj;rw[vU]at hu;split at hj
      .rename_i hlt;rw[Wb hlt]at hu;rw[Xaq]at hj;obtain⟨id,bO,rfl⟩:=Xz.1 hj;obtain⟨q1,q3,q2⟩:=Be _ id u bO hu;exact .inr ⟨⟨q1,q2⟩,q3⟩
      .rename_i hlt;rw[Wa hlt]at hu;exact hp (j-caps.length+1) y u (by simpa using hj) (by simpa using hu)) hl hk hm hA
     exact⟨kf,ms,hO.outs,hO.sepk,hO.sepm,hO.kf,hO.ms⟩
   .cases hf
  .cases hf
 | .kv t agg::ps,d,vs,ns,ks,xs,B,⟨v,vs',n1,n2,ks',h1,h2,kx,h3,h4⟩,hlen,hp,hl,hk,hm,hf=>by
  subst h1;simp only[W6]at hf;split at hf
  .rename_i x xs;split at hf
   .rename_i dd m l A g1 g2;split at hf
    .rename_i ic;injection hf with hf;subst hf;cases hc:cellsOf agg x with
     |none=>simp[hc]at g1
     |some cs=>
      simp[hc]at g1;obtain⟨k1,k2,k3⟩:=Xak.1 hk;have hx:=(hp 0 _ _ rfl rfl).resolve_left (λe=>by subst e;cases hc);have bs:Lent G' w φ objs l:=hl.mono λj hj=>Xl _ hj;obtain⟨_,_,_,_,q4,_⟩:=WlR h hg hx bs k1 hc g1;obtain⟨v1,_⟩:=Wmd h hg hx bs hc g1 ic;obtain⟨us,n3,r1,r2,r3⟩:=WrL h3 v1;obtain⟨kf,ms,hO⟩:=Wa7 hg h ps d.2 vs' n2 ks' xs A h4 (by simpa using hlen) (λj y u hj hu=>hp (j+1) y u (by simpa using hj) (by simpa using hu)) (hl.mono λj hj=>Xh _ hj) k2 hm g2;have gp:∀S∈fps n3,CS.le S (FromL φ objs m):=λS hS=>by
       rw[r3,Wo5]at hS;obtain⟨i,hi,rfl⟩:=Xx.1 hS;exact FromL.one hi (q4 i hi)
      have gs:Sep (fps n3):=by
       rw[r3,Wo5];refine List.pairwise_map.2 (k1.imp_of_mem λ{i j} hi hj hne=>?_)
       exactλb o h1 h2=>hne (h.inj i j b o (q4 i hi) (q4 j hj) h1 h2)
      refine⟨fps n3++kf,ms,⟨n3,ks',kf,us,by rw[kx,r2],rfl,r1,hO.outs⟩,Wxp h gs hO.sepk gp hO.kf (λi hi hj=>k3 i hi i hj rfl),hO.sepm,λS hS=>?_,hO.ms⟩;rcases Xm.1 hS with hS|hS
      .exactλb o hh=>FromL.mono (λi hi=>Xl _ hi) b o (gp S hS b o hh)
      .exactλb o hh=>FromL.mono (λi hi=>Xh _ hi) b o (hO.kf S hS b o hh)
    .cases hf
   .cases hf
  .cases hf
end
end Go.Sx
namespace Go.Sx
set_option linter.unusedVariables false
set_option linter.unusedSimpArgs false
section
variable{P:Program}{T:Tab}{Γ:Ctx}
theorem WuW{sg:Sig}{d:WfL sg.ps}{G:GH}{w:World}{vs:List Value}{ns:List Pc}{ks:List Nu}{n:Nat}(hn:Wb3 sg.ps<=n)(fD:WcH sg.ps=true)(hargs:Wbx G w sg.ps d vs ns ks)(hsep:Sep (fps ns))
  (hfree:∀q∈ns,∀b off,q.fp b off->G b off=none/\b<w.heap.size) (hg:∀b o v,G b o=some v->w.cell? ⟨b,o,none⟩=some v):
  ∃ν,Rel w (Of ns) ⟨n,WL sg.ps 0 0 vs⟩ G G ν {env:=Whn 0 (WY sg.ps d [] 0).1,objs:=(WY sg.ps d [] 0).2.1,nx:=(WY sg.ps d [] 0).2.2}
   {tmps:=vs.toArray++Xeh (n-vs.toArray.size) undef,defers:=[]} w:=by
 obtain⟨ν,hν⟩:∃ν:Nat->Nu,ν= λi=>((nus ns)[i]?).getD ⟨none,0,0,0,0⟩:=⟨_,rfl⟩;obtain⟨φ,hφ⟩:∃φ:Nat->CS,φ= λi=>((fps ns)[i]?).getD (λ_ _=>False):=⟨_,rfl⟩;have hAt:At ν φ 0 ns:=λj pc hj=>by
  have e1:(nus ns)[j]?=some pc.nu:=by unfold nus;rw[Xaq,hj];rfl
  have e2:(fps ns)[j]?=some pc.fp:=by unfold fps;rw[Xaq,hj];rfl
  rw[hν,hφ];simp only[Xaz,e1,e2];exact⟨rfl,rfl⟩
 obtain⟨h1,h2,h3,h4⟩:=WcB (ν:=ν) (φ:=φ) sg.ps d vs ns ks [] 0 (0+ns.length) fD hargs hAt (Xn _);have og:=Wdv _ _ _ _ _ hargs;have eE:∀id,Live (WY sg.ps d [] 0).2.1 id->id<ns.length:=λid ⟨ob,ho,_⟩=>by
  rcases h2 id ob ho with⟨_,h,_⟩|h
  .simpa using h
  .cases h
 have ax:∀id b o,φ id b o->∃q,ns[id]?=some q/\(fps ns)[id]?=some q.fp/\q.fp b o:=λid b o hp=>by
  rw[hφ]at hp
  try simp only at hp
  cases hq:ns[id]? with
  |none=>
   have:(fps ns)[id]?=none:=by unfold fps;rw[Xaq,hq];rfl
   rw[this]at hp;exact hp.elim
  |some q=>
   have:(fps ns)[id]?=some q.fp:=by unfold fps;rw[Xaq,hq];rfl
   rw[this]at hp;exact⟨q,rfl,this,hp⟩
 have yL:∀(i:Nat) (v:Value),vs[i]?=some v->(vs.toArray++Xeh (n-vs.toArray.size) undef)[i]?=some v:=λi v hi=>by
  have hlt:=(Xae.1 hi).1;rw[Array.getElem?_append_left (by simpa using hlt)];simpa using hi
 refine⟨ν,rfl,by simp;omega,λp hp=>?_,λi x hx=>?_,⟨φ,?_⟩,λ_ _ _ hh=>hh,λ_ _ _ hh=>.inl hh⟩
 .obtain⟨_,g2⟩:=WW _ _ _ _ p hp;exact yL _ _ (by simpa using g2)
 .simp only at hx;rw[WhV]at hx;simp only[Xbp,WaD,Xdt]at hx;have hlt:=(Xae.1 hx).1;rw[h3]at hlt;have hv:=Xp hlt;refine⟨_,yL i _ hv,?_⟩;have:=h4 i x _ hx hv;simp only[h1];exact this
 .exact{
   g:=hg
   ob:=λid ob ho=>by
    rcases h2 id ob ho with⟨_,_,h⟩|h
    .simp only[h1];exact h
    .cases h
   gf:=λid b o hl hp=>by
    obtain⟨q,g1,_,g2⟩:=ax id b o hp;exact(hfree q (Xat g1) b o g2).1
   inj:=λid cb b o hl cM hp eZ=>by
    obtain⟨q,_,g1,g2⟩:=ax id b o hp;obtain⟨q',_,Bf,Bg⟩:=ax cb b o eZ;exact WkP hsep g1 Bf g2 Bg
   own:=λid b o hl hp=>by
    obtain⟨q,g1,_,g2⟩:=ax id b o hp;exact .inr ⟨q,Xat g1,g2⟩
   lt:=λid hl=>by simp only[h1];have:=eE id hl;omega
   bl:=λid b o hl hp=>by
    obtain⟨q,g1,_,g2⟩:=ax id b o hp;exact(hfree q (Xat g1) b o g2).2
   le:=WLe.refl _ w}
theorem Wtt(hT:War P T){f:Func}{sg:Sig}{d:WfL sg.ps}{G:GH}{w:World}{vs:List Value}{ns:List Pc}{ks:List Nu}{n:Nat}(fD:WcH sg.ps=true)(hargs:Wbx G w sg.ps d vs ns ks)
  {st:St} {a:Act} {w':World} {G1:GH} {ν:Nat->Nu} (hr:Rel w (Of ns) ⟨n,WL sg.ps 0 0 vs⟩ G G1 ν st a w') {xs:List AVal} (hx:Wew T st f.results.toList=some xs)
  {A:Outs (Whg sg.rs)} (hA:Wbk sg.rs xs st.objs=some A) {B:OutK (Wgh sg.ps)} (hB:W6 sg.ps (Wy sg.ps 0 0 st) st.objs=some B)
  (bf:WbJ (B.kept++(B.moved++A.moved))=true) (mA:Whx (A.lent++B.lent) (B.kept++(B.moved++A.moved))=true):
  ∃rv kf ms db G',(results f a.tmps).run P w'= .ok (Wi1 rv) w'/\After sg (B.d,A.d) G w ns ks rv kf ms db G' w':=by
 have bf:=(We7 _).1 bf;have mA:=Wni mA;obtain⟨φ,hφ⟩:=hr.h;have vW:=hφ.addG_le (A.lent++B.lent);have vX:=hφ.addG_w (A.lent++B.lent);have nH:Lent (Wrr G1 w' (FromL φ st.objs (A.lent++B.lent))) w' φ st.objs (A.lent++B.lent):=λid bO hl=>(Wjk _).mono (FromL.one bO hl);obtain⟨k1,k2,k3⟩:=Xak.1 bf;obtain⟨k4,k5,k6⟩:=Xak.1 k2;obtain⟨rv,vY,vZ,v6⟩:=Wli hT hr _ xs hx;obtain⟨db,q1,q2,q3,q4⟩:=Wd8 hφ vW sg.rs xs rv A vZ v6 (nH.mono λi hi=>Xl _ hi) k5 hA;obtain⟨hsl,dM⟩:=WaI hr sg.ps d vs ns ks 0 0 hargs fD (by cases sg.ps<;>rfl) (Xbp _) (by simpa using hr.par);obtain⟨kf,ms,hO⟩:=Wa7 vW hφ sg.ps d vs ns ks _ B hargs hsl (λj x v hj hv=>dM j x v hj (by simpa using hv)) (nH.mono λi hi=>Xh _ hi) k1 k4 hB;have gl:∀S∈kf++fps (ms++db),CS.le S (FromL φ st.objs (B.kept++(B.moved++A.moved))):=λS hS=>by
  rcases Xm.1 hS with hS|hS
  .exactλb o hh=>FromL.mono (λi hi=>Xl _ hi) b o (hO.kf S hS b o hh)
  .obtain⟨q,hq,rfl⟩:=Xx.1 hS;rcases Xm.1 hq with hq|hq
   .exactλb o hh=>FromL.mono (λi hi=>Xh _ (Xl _ hi)) b o (hO.ms q hq b o hh)
   .exactλb o hh=>FromL.mono (λi hi=>Xh _ (Xh _ hi)) b o (q3 q hq b o hh)
 refine⟨rv,kf,ms,db,Wrr G1 w' (FromL φ st.objs (A.lent++B.lent)),?_,?_⟩
 .show(do let vs←f.results.mapM (WnF a.tmps);pure (if h:vs.size=1 then vs[0]else .tuple vs):Sem Value).run P w'=_;have kb:(f.results.mapM (WnF a.tmps)).run P w'= .ok rv.toArray w':=by
   rw[Array.mapM_eq_mapM_toList,Sem.run_map,vY];rfl
  rw[Sem.run_bind,kb];simp only[Result.andThen_ok,Sem.run_pure];congr 1;unfold Wi1
  match rv with
  | []=>rfl
  | [v]=>rfl
  |u::v::l=>simp
 .exact{
   res:=q1
   outs:=hO.outs
   sep:=by
    refine Wxp hφ hO.sepk (Wcx hφ hO.sepm q2 hO.ms q3 (λi hi hj=>k6 i hi i hj rfl)) hO.kf (l:=B.moved++A.moved) (λS hS=>?_) (λi hi hj=>k3 i hi i hj rfl);obtain⟨q,hq,rfl⟩:=Xx.1 hS;rcases Xm.1 hq with hq|hq
    .exactλb o hh=>FromL.mono (λi hi=>Xl _ hi) b o (hO.ms q hq b o hh)
    .exactλb o hh=>FromL.mono (λi hi=>Xh _ hi) b o (q3 q hq b o hh)
   own:=λS hS b off hh=>by
    obtain⟨i,hi,h1,h2⟩:=gl S hS b off hh;refine⟨?_,(hφ.own i b off h1 h2).symm,hφ.bl i b off h1 h2⟩;rw[Wdx (λ⟨j,hj,h3,h4⟩=>by
     have:=hφ.inj i j b off h1 h3 h2 h4;subst this;exact mA _ hj hi)]
    exact hφ.gf i b off h1 h2
   gx:=by
    refine⟨λb o v hv=>vW b o v (hr.gx.le b o v hv),λb off v hv=>?_⟩;by_cases hb:FromL φ st.objs (A.lent++B.lent) b off
    .obtain⟨j,hj,h1,h2⟩:=hb;exact .inr (hφ.own j b off h1 h2)
    .rw[Wdx hb]at hv;exact hr.gx.new b off v hv
   g:=vX
   le:=hφ.le}
theorem Wv0(hM:P.follows .mixedOrders=true)(hT:War P T)(hΓ:Wfx P Γ){f:Func}{k:FuncId}{c:Code}(hf:P.funcs[k]?=some f)(hb:f.body=some c){sg:Sig}(aV:WdJ f.ntmps (Wem sg.ps 0 0) c=true)(fD:WcH sg.ps=true)
  (hn:Wb3 sg.ps<=f.ntmps) {ann:Nat->List Ghost} (h:∀d o,sg.run d=some o->∃N,den T Γ ann N sg f d some=some o):Good P k sg:=by
 intro d o hrun G w vs ns ks hargs hsep hfree hg;obtain⟨N,jb⟩:=h d o hrun;unfold den at jb;simp only[hb]at jb;obtain⟨ν,md⟩:=WuW hn fD hargs hsep hfree hg;split at jb
 case h_2=>cases jb
 rename_i c' b st0 gS Bh;injection gS with gS;subst gS;obtain⟨rfl,jb⟩:=WaQ jb;obtain⟨G0',ν0',hr⟩:=WdI _ _ _ _ _ md Bh;refine calls_of_wp hf hb ?_
 suffices hk:∀e,Wst w (Of ns) ⟨f.ntmps,WL sg.ps 0 0 vs⟩ G (WxP T sg f.results.toList some e) o (bodyPost P f (λe w'=>∃rv kf ms db G',e= .returned (Wi1 rv)/\After sg o G w ns ks rv kf ms db G' w') e.to)from
  Wn2 (nt:=⟨f.ntmps,WL sg.ps 0 0 vs⟩) hM hT hΓ (n:=f.ntmps) rfl (W1 sg.ps 0 0 vs) c aV hk _ _ _ _ _ hr jb
 intro e st a w' G1 ν1 iX hk;have jc:(∃xs,Wew T st f.results.toList=some xs/\∃A B,Wbk sg.rs xs st.objs=some A/\W6 sg.ps (Wy sg.ps 0 0 st) st.objs=some B/\WbJ (B.kept++(B.moved++A.moved))=true/\Whx (A.lent++B.lent) (B.kept++(B.moved++A.moved))=true/\(B.d,A.d)=o)->
   a.defers= []/\∃v,(results f a.tmps).run P w'= .ok v w'/\∃rv kf ms db G',Ending.returned v= .returned (Wi1 rv)/\After sg o G w ns ks rv kf ms db G' w':=by
  rintro⟨xs,hx,A,B,hA,hB,h1,h2,rfl⟩;obtain⟨rv,kf,ms,db,G',h3,h4⟩:=Wtt hT (f:=f) fD hargs iX hx hA hB h1 h2;exact⟨iX.defers,_,h3,rv,kf,ms,db,G',rfl,h4⟩
 have kB:(match Wew T st f.results.toList with
   |some xs=>match Wbk sg.rs xs st.objs,W6 sg.ps (Wy sg.ps 0 0 st) st.objs with
    |some A,some B=>if WbJ (B.kept++(B.moved++A.moved))&&Whx (A.lent++B.lent) (B.kept++(B.moved++A.moved))then some (B.d,A.d)else none
    |_,_=>none
   |none=>none)=some o->(∃xs,Wew T st f.results.toList=some xs/\∃A B,Wbk sg.rs xs st.objs=some A/\W6 sg.ps (Wy sg.ps 0 0 st) st.objs=some B/\WbJ (B.kept++(B.moved++A.moved))=true/\Whx (A.lent++B.lent) (B.kept++(B.moved++A.moved))=true/\(B.d,A.d)=o):=λhk=>by
  split at hk
  .rename_i xs hx;split at hk
   .rename_i A B hA hB;obtain⟨hc,hk⟩:=WbY hk;simp only[Xj]at hc;injection hk with hk;exact⟨xs,hx,A,B,hA,hB,hc.1,hc.2,hk⟩
   .cases hk
  .cases hk
 cases e with
 |normal=>exact jc (kB hk)
 |ret=>exact jc (kB hk)
 |exit id=>cases hk
end
end Go.Sx
namespace Go.Sx
set_option linter.unusedVariables false
set_option linter.unusedSimpArgs false
def zv1:Value->Value->Bool
 | .int k n,.int k' n'=>decide (k=k')&&decide (n=n')
 | .bool b,.bool b'=>b==b'
 | .string s,.string s'=>match s.data.toList,s'.data.toList with
  | [],[]=>true
  |_,_=>false
 | .slice none 0 0,.slice none 0 0=>true
 | .pointer none,.pointer none=>true
 |_,_=>false
theorem Wuu(x y:Value)(h:zv1 x y=true):x=y:=by
 unfold zv1 at h;split at h
 .simp only[Xj,Wh]at h;obtain⟨rfl,rfl⟩:=h;rfl
 .have:=eq_of_beq h;subst this;rfl
 .rename_i s s';split at h
  .rename_i e1 e2;have:s=s':=by
    cases s with|mk a=>cases s' with|mk b=>
    congr 1;apply Array.ext';simp only at e1 e2;rw[e1,e2]
   rw[this]
  .cases h
 .rfl
 .rfl
 .cases h
def Wxr:List Value->List Value->Bool
 | [],[]=>true
 |x::l,y::m=>zv1 x y&&Wxr l m
 |_,_=>false
theorem Wma:∀(l m:List Value),Wxr l m=true->l=m
 | [],[],_=>rfl
 | [],_::_,h=>by cases h
 |_::_,[],h=>by cases h
 |x::l,y::m,h=>by
  simp only[Wxr,Xj]at h;rw[Wuu x y h.1,Wma l m h.2]
def WgD:List Field->List (Nat×TypeId)->Bool
 | [],[]=>true
 |f::l,p::m=>Xbt f.offset p.1&&Xbt f.type p.2&&(f.name != "_")&&WgD l m
 |_,_=>false
def Wsh(P:Program)(T:Tab)(t:TypeId)(te:TE):Bool:=match te.shape with
 | .basic=>!te.agg&&(match te.ty with
  | .int k=>match P.underlying t with|some (.int k')=>decide (k'=k)|_=>false
  | .bool=>match P.underlying t with|some .bool=>true|_=>false
  | .str=>match P.underlying t with|some .string=>true|_=>false
  |_=>false)
 | .slice e=>!te.agg&&(match P.underlying t with|some (.slice e')=>Xbt e' e|_=>false)&&(match look T e with|some dX=>decide (te.ty= .slice dX.ty)|none=>false)
 | .struct fs=>te.agg&&(match P.underlying t with|some (.struct fields)=>WgD fields.toList fs|_=>false)&& !P.stoodInHeld t&& !P.eqGuardType P.depth t
 | .ptr e=>!te.agg&&(match P.underlying t with|some (.pointer e')=>Xbt e' e|_=>false)
 | .arr n e=>te.agg&&(match P.underlying t with|some (.array n' e')=>Xbt n' n&&Xbt e' e|_=>false)&&(match look T e with|some dX=>decide (dX.ty=te.ty)&&dX.plain|none=>false)
def Woi(P:Program)(t:TypeId)(te:TE):Bool:=match P.info? t with
 |some i=>match i.zero with
  |some z=>Xbt i.size te.size&&Wxr z.cells.toList te.cells&&Nat.ble i.bytes 4096
  |none=>false
 |none=>false
def Wmj(P:Program)(T:Tab):Tab->Bool
 | []=>true
 |(t,te)::l=>Wsh P T t te&&Woi P t te&&Wmj P T l
theorem WfH:∀(l:List Field) (m:List (Nat×TypeId)),WgD l m=true→l.map (λf=>(f.offset,f.type))=m∧∀f∈l,f.name≠ "_"
 | [],[],_=>⟨rfl,by simp⟩
 | [],_::_,h=>by cases h
 |_::_,[],h=>by cases h
 |f::l,p::m,h=>by
  simp only[WgD,Xj,bne_iff_ne,ne_eq]at h;obtain⟨⟨⟨h1,h2⟩,h3⟩,h4⟩:=h;obtain⟨h5,h6⟩:=WfH l m h4;have h1:f.offset=p.1:=by simpa using h1
  have h2:f.type=p.2:=by simpa using h2
  refine⟨by rw[Xag,h5,h1,h2],λg hg=>?_⟩;rcases Xq.1 hg with hg|hg
  .subst hg;exact h3
  .exact h6 g hg
theorem Wo6{P:Program}{T:Tab}{t:TypeId}{te:TE}(h:Wsh P T t te=true)(hi:Woi P t te=true):TEok P T t te:=by
 obtain⟨ty,agg,shape⟩:=te;refine⟨?_,?_⟩
 .unfold Wsh at h;cases shape with
  |basic=>
   simp only[Xj,Xan]at h⊢;refine⟨h.1,?_⟩;have h:=h.2;cases ty with
   |int k=>
    simp only at h⊢;split at h
    .rename_i k' hu;simp only[Wh]at h;rw[hu,h]
    .cases h
   |bool=>
    simp only at h⊢;split at h
    .assumption
    .cases h
   |str=>
    simp only at h⊢;split at h
    .assumption
    .cases h
   |slice e=>cases h
   |own e=>cases h
   |prod a b=>cases h
  |slice e=>
   simp only[Xj,Xan]at h⊢;obtain⟨⟨h1,h2⟩,h3⟩:=h;refine⟨h1,?_,?_⟩
   .split at h2
    .rename_i e' hu;rw[hu];have:e'=e:=by simpa using h2
     rw[this]
    .cases h2
   .split at h3
    .rename_i dX hl;exact⟨dX,hl,by simpa using h3⟩
    .cases h3
  |struct fs=>
   simp only[Xj,Xan]at h⊢;obtain⟨⟨⟨h1,h2⟩,h3⟩,h4⟩:=h;refine⟨h1,?_⟩;split at h2
   .rename_i fields hu;obtain⟨h5,h6⟩:=WfH _ _ h2;exact⟨fields,hu,h5,λf hf=>h6 f (by simpa using hf),h3,h4⟩
   .cases h2
  |ptr e=>
   simp only[Xj,Xan]at h⊢;refine⟨h.1,?_⟩;have h:=h.2;split at h
   .rename_i e' hu;rw[hu];have:e'=e:=by simpa using h
    rw[this]
   .cases h
  |arr n e=>
   simp only[Xj]at h⊢;obtain⟨⟨h1,h2⟩,h3⟩:=h;refine⟨h1,?_,?_⟩
   .split at h2
    .rename_i n' e' hu;simp only[Xj]at h2;have e1:n'=n:=by simpa using h2.1
     have e2:e'=e:=by simpa using h2.2
     rw[hu,e1,e2]
    .cases h2
   .split at h3
    .rename_i dX hl;simp only[Xj,Wh]at h3;refine⟨dX,hl,h3.1,λm f hs=>?_⟩;have:=h3.2;unfold TE.plain at this;rw[hs]at this;cases this
    .cases h3
 .unfold Woi at hi;split at hi
  .rename_i i ik;split at hi
   .rename_i z hz;simp only[Xj]at hi;obtain⟨⟨h1,h2⟩,h3⟩:=hi;exact⟨i,z,ik,by simpa using h1,hz,Wma _ _ h2,Xgj h3⟩
   .cases hi
  .cases hi
theorem WwP{P:Program}{T:Tab}(h:Wmj P T T=true):War P T:=by
 have key:∀l,Wmj P T l=true->∀t te,look l t=some te->TEok P T t te:=by
  intro l
  induction l with
  |nil=>intro _ t te hl;cases hl
  |cons p l ih=>
   intro hc t te hl;obtain⟨t',dX⟩:=p;simp only[Wmj,Xj]at hc;rw[WK]at hl;split at hl
   .rename_i e;subst e;injection hl with hl;subst hl;exact Wo6 hc.1.1 hc.1.2
   .exact ih hc.2 t te hl
 exact key T h
theorem Wg{P:Program}:Wfx P []:=λk sg h=>by cases h
theorem Wux{P:Program}{Γ:Ctx}{k:FuncId}{sg:Sig}(hg:Good P k sg)(hc:Wg1 P k)(h:Wfx P Γ):Wfx P ((k,sg)::Γ):=λk' Bi hl=>by
 simp only[look]at hl;split at hl
 .rename_i e;have:k=k':=by simpa using e
  subst this;injection hl with hl;subst hl;exact⟨hg,hc⟩
 .exact h k' Bi hl
def Wmk(f:Func):Bool:=f.body.isSome&& !(f.name== "runtime.NumGoroutine")
theorem Wcu{P:Program}{k:FuncId}{f:Func}(hf:P.funcs[k]?=some f)(h:Wmk f=true):Wg1 P k:=by
 simp only[Wmk,Xj,Xan]at h;refine⟨f,hf,?_,h.2⟩;cases hb:f.body with
 |none=>rw[hb]at h;cases h.1
 |some c=>rfl
def Woy(f:Func)(ps:List PTy):Bool:=match f.body with
 |some c=>WdJ f.ntmps (Wem ps 0 0) c&&Nat.ble (Wb3 ps) f.ntmps&&WcH ps
 |none=>false
theorem Wsf{P:Program}{T:Tab}{Γ:Ctx}(hM:P.follows .mixedOrders=true)(hT:War P T)(hΓ:Wfx P Γ){f:Func}{k:FuncId}(hf:P.funcs[k]?=some f){sg:Sig}(aV:Woy f sg.ps=true){ann:Nat->List Ghost}
  (h:∀d o,sg.run d=some o->∃N,den T Γ ann N sg f d some=some o):Good P k sg:=by
 unfold Woy at aV;split at aV
 .rename_i c hb;simp only[Xj]at aV;exact Wv0 hM hT hΓ hf hb aV.1.1 aV.2 (Xgj aV.1.2) h
 .cases aV
end Go.Sx
namespace Go.Sx
def Wgg:Code->List Code
 | .seq a b=>Wgg a++Wgg b
 | .cond _ a b=>Wgg a++Wgg b
 | .block _ c=>Wgg c
 | .loop c=>c::Wgg c
 |_=>[]
def WtK(f:Func):Code:=match f.body with
 |some c=>c
 |none=>.skip
def Wth(f:Func)(i:Nat):Code:=(Wgg (WtK f)).getD i .skip
noncomputable def WwD{R:Type}(T:Tab)(Γ:Ctx)(ann:Nat->List Ghost)(N:Nat):Code->List Nat->(Ex->St->Option R)->Ex->St->Option R
 | .seq a b,p,k=>match p with
  |0::p=>WwD T Γ ann N a p λe am=>match e with
   | .normal=>sx T Γ ann N b am k
   | .exit id=>k (.exit id) am
   | .ret=>k .ret am
  |_::p=>WwD T Γ ann N b p k
  | []=>k
 | .cond _ x y,p,k=>match p with
  |0::p=>WwD T Γ ann N x p k
  |_::p=>WwD T Γ ann N y p k
  | []=>k
 | .block id c,p,k=>match p with
  |_::p=>WwD T Γ ann N c p λe am=>match e with
   | .exit cb=>if cb=id then k .normal am else k (.exit cb) am
   | .normal=>k .normal am
   | .ret=>k .ret am
  | []=>k
 |_,_,k=>k
def WxN{R:Type}(gs:List Ghost)(L:St->(Ex->St->Option R)->Option R)(K:Ex->St->Option R):Ex->St->Option R:=λe st=>match e with
 | .normal=>match Wep gs st with
  |some (c,am)=>bif c then L am K else none
  |none=>none
 | .exit id=>K (.exit id) st
 | .ret=>K .ret st
abbrev vI(x:Int):AVal:=.s (.one (.val (.int .i64) x))
abbrev vB(x:Bool):AVal:=.s (.one (.val .bool x))
abbrev vV(t:Ty)(x:t.den):AVal:=.s (.one (.val t x))
abbrev vO(i:Nat):AVal:=.s (.one (.own i))
abbrev vP(i o:Nat):AVal:=.s (.one (.ptr i o))
abbrev Qs(s:Sig):=Wgh s.ps×Whg s.rs
structure Fn where
 F:Func
 a:Nat->List Ghost
 s:Nat->Sig
 c:Nat->Ctx
def WG:Nat->List Ghost:=λ_=>[]
def Wbo:Nat->Ctx:=λ_=>[]
noncomputable def lpM{R:Type}(T:Tab)(Γ:Ctx)(ann:Nat->List Ghost)(N:Nat)(F:Func)(i k n:Nat)(st:St)(K:Ex->St->Option R):Option R:=Wo7 (Wkm (ann k) λst k=>sx T Γ ann N (Wth F i) st k) n st K
noncomputable def cxF(T:Tab)(Γ:Ctx)(ann:Nat->List Ghost)(N:Nat)(sg:Sig)(F:Func)(p:List Nat):Ex->St->Option (Qs sg):=WwD (R:=Qs sg) T Γ ann N (WtK F) p (WxP T sg F.results.toList some)
noncomputable def cxL{R:Type}(T:Tab)(Γ:Ctx)(ann:Nat->List Ghost)(N:Nat)(F:Func)(i k:Nat)(p:List Nat)(n:Nat)(K:Ex->St->Option R):Ex->St->Option R:=WwD T Γ ann N (Wth F i) p (WxN (ann k) (lpM T Γ ann N F i k n) K)
end Go.Sx
namespace Go.Sx
open Go.ChangeShapes Go.WideShapes Go.ChangeAt Go.RowKit
set_option linter.unusedVariables false
set_option linter.unusedSimpArgs false
def Wfd:(t:Ty)->t.den->Prop
 | .int k,n=>(Lit.int k n).wf=true
 | .bool,_=>True
 | .str,s=>Xb s<=maxLen
 | .slice e,l=>Xb l<=maxLen/\∀x,List.Mem x l->Wfd e x
 | .own _,_=>False
 | .prod a b,d=>Wfd a d.1/\Wfd b d.2
def Wgn:(t:Ty)->t.den->Nat
 | .int _,_=>1
 | .bool,_=>1
 | .str,s=>Xb s+1
 | .slice e,l=>(Xft (Wgn e) l).sum+1
 | .own _,_=>0
 | .prod a b,d=>Wgn a d.1+Wgn b d.2
structure Bulk{H:Type}(β:DataW H->Nat):Prop where
 lit:∀l,1<=β (.lit l)
 str:∀s,s.length+1<=β (.lit (.string s))
 nil:1<=β .nil
 slice:∀es sp,(es.map β).sum+1<=β (.slice es sp)
 agg:∀ps,(ps.map β).sum<=β (.agg ps)
def Wki(T:Tab):List (Nat×TypeId)->Nat->Option (List Ty)
 | [],_=>some []
 |(o,ft)::fs,off=>match look T ft with
  |some te=>bif Xbt o off&&te.plain then(Wki T fs (off+te.ty.size)).map (te.ty:: ·)else none
  |none=>none
def Wej:List Ty->Ty
 | []=>.bool
 | [t]=>t
 |t::ts=>.prod t (Wej ts)
def Wn3(T:Tab):Nat->TypeId->Bool
 |0,_=>false
 |n+1,t=>match look T t with
  |some te=>match te.shape with
   | .basic=>match te.ty with
    | .int _=>true
    | .bool=>true
    | .str=>true
    | .slice _=>false
    | .own _=>false
    | .prod _ _=>false
   | .slice e=>Wn3 T n e&&(match look T e with|some dX=>dX.plain|none=>false)
   | .struct fs=>fs.all (λf=>Wn3 T n f.2)&&(match Wki T fs 0 with
    |some (t::ts)=>decide (te.ty=Wej (t::ts))
    |_=>false)
   | .ptr _=>false
   | .arr _ _=>false
  |none=>false
section
variable{P:Program}{T:Tab}{H:Type}{enc:TypeId×Value->H}{β:DataW H->Nat}{w:World}
theorem Whk{t:TypeId}{te:TE}(h:TEok P T t te):P.cellsOf t=te.size:=by
 obtain⟨i,z,hi,hs,_⟩:=h.info;unfold Program.cellsOf;rw[hi];exact hs
def Wi2(w:World):GH:=λb o=>w.cell? ⟨b,o,none⟩
theorem WsT{b:Nat}{a:Addr}{n:Nat}{cs:List Value}(h:w.cells? b a n=some cs):cs.length=n/\∀(j:Nat) (v:Value),cs[j]?=some v->w.cell? (a.add j)=some v:=by
 unfold World.cells? at h;split at h
 .refine⟨by simpa using mapM_some_length h,λj v hj=>?_⟩;have hlt:j<n:=by
   have:=mapM_some_length h;have h2:=(Xae.1 hj).1;simp at this;omega
  have:=mapM_some_get h j j (by simp[hlt]);rw[this];exact hj
 .cases h
theorem WpT{e:Ty}{a:Addr}(n:Nat)(hn:0<n):∀(k:Nat) (i0:Nat) (el:Nat->Option (DataW H×List MemPlace)) (f:List Value->Option (DataW H×List MemPlace)),
  (∀cs y,f cs=some y->∃d:e.den,Enc (Wi2 w) e d cs/\Wfd e d/\Wgn e d<=β y.1)->
  (∀i,i0<=i->i<i0+k->∃y cs,w.cells? 0 (a.add (i*n)) n=some cs/\f cs=some y/\el i=some y)->
  ∃(l:List e.den) (cs:List Value),l.length=k/\EncL (Enc (Wi2 w) e) l cs/\(∀x∈l,Wfd e x)/\(∀(j:Nat) (v:Value),cs[j]?=some v->w.cell? (a.add (i0*n+j))=some v)/\
   cs.length=k*n/\(l.map (Wgn e)).sum<=((Xca k).map λi=>match el (i0+i)with|some y=>β y.1|none=>0).sum
 |0,i0,el,f,hf,he=>⟨[],[],rfl,rfl,by simp,by simp,by simp,by simp⟩
 |k+1,i0,el,f,hf,he=>by
  obtain⟨y,c1,h1,h2,h3⟩:=he i0 (Xn _) (by omega);obtain⟨d,v7,lu,yM⟩:=hf _ _ h2;obtain⟨l,cs,g1,g2,g3,g4,g5,g6⟩:=WpT n hn k (i0+1) el f hf (λi yN oM=>he i (by omega) (by omega));obtain⟨hl,hg⟩:=WsT h1;refine⟨d::l,c1++cs,by simp[g1],⟨c1,cs,rfl,v7,g2⟩,λx hx=>?_,λj v hj=>?_,?_,?_⟩
  .rcases Xq.1 hx with rfl|hx
   .exact lu
   .exact g3 x hx
  .rw[Xav]at hj;split at hj
   .have:=hg j v hj;rw[Addr.add_add]at this;exact this
   .rename_i hlt;have:=g4 _ v hj;rw[hl]at this hlt;have e:(i0+1)*n+(j-n)=i0*n+j:=by rw[Xcz];omega
    rw[e]at this;exact this
  .rw[Xs,hl,g5,Xcz];omega
  .rw[List.range_succ_eq_map,Xag,Xag,Xdc,Xdc,Xek];simp only[Xbb,h3];have:((λi=>match el (i0+i)with|some y=>β y.1|none=>0)∘Nat.succ)= λi=>match el (i0+1+i)with|some y=>β y.1|none=>0:=by
    funext i;simp only[Function.comp,Nat.succ_eq_add_one];rw[show i0+(i+1)=i0+1+i by omega]
   rw[this];omega
theorem WwC{β':DataW H×List MemPlace->Nat}(xs:List (DataW H×List MemPlace)):((Xca xs.length).map λi=>match xs[0+i]? with|some y=>β' y|none=>0).sum=(xs.map β').sum:=by
 congr 1;apply List.ext_getElem
 .simp
 .intro i h1 h2;simp at h1;simp[h1]
theorem Wop{t:Ty}{ts:List Ty}(h:ts≠ []):Wej (t::ts)= .prod t (Wej ts):=by
 cases ts with
 |nil=>exact Wj rfl h
 |cons _ _=>rfl
theorem Wky(hT:War P T)(hβ:Bulk β)(f:TypeId->List Value->Option (DataW H×List MemPlace)){cs:List Value}:∀(fs:List (Nat×TypeId)) (off:Nat) (ts:List Ty) (ys:List (DataW H×List MemPlace)),ts≠ []->Wki T fs off=some ts->
  (∀fd∈fs,∀te cs y,look T fd.2=some te->f fd.2 cs=some y->∃d:te.ty.den,Enc (Wi2 w) te.ty d cs/\Wfd te.ty d/\Wgn te.ty d<=β y.1)->
  ys.length=fs.length->(∀(i:Nat) (fd:Nat×TypeId),fs[i]?=some fd->f fd.2 ((cs.drop fd.1).take (P.cellsOf fd.2))=ys[i]?)->cs.length=off+(Wej ts).size->
  ∃d:(Wej ts).den,Enc (Wi2 w) (Wej ts) d (cs.drop off)/\Wfd (Wej ts) d/\Wgn (Wej ts) d<=(ys.map λy=>β y.1).sum
 | [],off,ts,ys,hne,jF,_,_,_,_=>by injection jF with jF;exact Wj jF.symm hne
 |(o,ft)::fs,off,ts,ys,hne,jF,hf,hlen,yO,bP=>by
  cases ys with
  |nil=>simp at hlen
  |cons y ys=>
   simp only[Wki]at jF;split at jF
   .rename_i te hl;obtain⟨hc,jF⟩:=WaQ jF;simp only[Xj]at hc;have ho:o=off:=by simpa using hc.1
    obtain⟨yP,eT,rfl⟩:=Xz.1 jF;have hsz:P.cellsOf ft=te.ty.size:=by rw[Whk (hT _ _ hl),W4 hc.2]
    have h0:=yO 0 (o,ft) rfl;simp only[Xdv,hsz,ho]at h0;obtain⟨d1,e1,e2,e3⟩:=hf (o,ft) (Xk ..) te _ y hl h0;cases fi:fs with
    |nil=>
     subst fi;simp only[Wki]at eT;injection eT with eT;subst eT;have v8:ys= []:=by cases ys with
      |nil=>rfl
      |cons _ _=>simp at hlen
     subst v8;have kC:(cs.drop off).take te.ty.size=cs.drop off:=Xcs (by rw[List.length_drop,bP];simp[Wej]);rw[kC]at e1;exact⟨d1,e1,e2,by rw[Xag,Xbd,Xdc,List.sum_nil,Xbb];exact e3⟩
    |cons g gs=>
     have sF:yP≠ []:=by
      rw[fi]at eT;obtain⟨o2,ft2⟩:=g;simp only[Wki]at eT;split at eT
      .obtain⟨_,eT⟩:=WaQ eT;obtain⟨x,_,rfl⟩:=Xz.1 eT;simp
      .cases eT
     have yQ:=Wop (t:=te.ty) sF;obtain⟨d2,f1,f2,f3⟩:=Wky hT hβ f (cs:=cs) fs (off+te.ty.size) yP ys sF eT (λfd jy=>hf fd (Xf _ jy)) (by simpa using hlen)
      (λi fd hi=>by have:=yO (i+1) fd (by simpa using hi);simpa using this) (by rw[bP,yQ,Ty.size];omega)
     rw[yQ];refine⟨(d1,d2),⟨_,_,?_,e1,f1⟩,⟨e2,f2⟩,?_⟩
     .rw[←List.drop_drop];exact(List.take_append_drop _ _).symm
     .simp only[Wgn,Xag,Xdc];omega
   .cases jF
theorem Wk4(hT:War P T)(hβ:Bulk β):∀(n fuel:Nat) (t:TypeId) (te:TE) (cs:List Value) (x:DataW H×List MemPlace),Wn3 T n t=true->look T t=some te->
  DataW.trod enc P w 0 (λ_=>true) true fuel t cs=some x->∃d:te.ty.den,Enc (Wi2 w) te.ty d cs/\Wfd te.ty d/\Wgn te.ty d<=β x.1
 |0,_,_,_,_,_,h,_,_=>by cases h
 |n+1,fuel,t,te,cs,x,h,hl,hx=>by
  have bT:=hT _ _ hl;simp only[Wn3,hl]at h;obtain⟨ty,agg,shape⟩:=te;cases shape with
  |basic=>
   have hu:=bT.und.2;cases ty with
   |int k=>
    obtain⟨m,rfl,rfl,hw⟩:=DataW.trod_int hu hx;exact⟨m,rfl,hw,hβ.lit _⟩
   |bool=>
    obtain⟨b,rfl,rfl⟩:=DataW.trod_bool hu hx;exact⟨b,rfl,trivial,hβ.lit _⟩
   |str=>
    obtain⟨s,rfl,rfl,hs⟩:=DataW.trod_string hu hx;refine⟨s.data.toList,by simp[Enc],?_,hβ.str _⟩;show s.data.toList.length<=maxLen;rw[Array.length_toList];exact hs
   |slice e=>cases h
   |own e=>cases h
   |prod a b=>cases h
  |slice e=>
   simp only[Xj]at h;obtain⟨ha,hu,dX,hle,iw⟩:=bT.und;simp only at iw;subst iw;have hp:dX.plain=true:=by have:=h.2;rw[hle]at this;exact this
   have hsz:P.cellsOf e=dX.ty.size:=by rw[Whk (hT _ _ hle),W4 hp]
   rcases DataW.trod_slice hu hx with⟨rfl,rfl⟩|⟨a,len,cap,elems,rest,m,rfl,rfl,rfl,hb,Bj,my,wa,hel,cI,_⟩
   .exact⟨([]:List dX.ty.den),⟨_,rfl,.inl ⟨rfl,rfl⟩⟩,⟨by simp,λx hx=>by cases hx⟩,by simpa [Wgn]using hβ.nil⟩
   .have key:=WpT (w:=w) (β:=β) (e:=dX.ty) (a:=a) dX.ty.size (WbZ _) len 0 (λi=>elems[i]?) (λcs=>DataW.trod enc P w 0 (λ_=>true) true m e cs)
     (λcs y hy=>Wk4 hT hβ n m e dX cs y h.1 hle hy) (λi _ hi=>by
      rw[Xaz]at hi;have:=hel i hi;rw[hsz]at this;have hlt:i<elems.length:=by omega
      rw[Xp hlt]at this;obtain⟨cs,h1,h2⟩:=Xbx.1 this;exact⟨elems[i],cs,h1,h2,Xp hlt⟩)
    obtain⟨l,cs,g1,g2,g3,g4,g5,g6⟩:=key;refine⟨l,⟨_,rfl,?_⟩,⟨by rw[g1];omega,g3⟩,?_⟩
    .by_cases h0:len=0
     .subst h0;exact .inr (.inr ⟨a,cap,rfl,Xt g1⟩)
     .have nq:0<cs.length:=by rw[g5];exact Nat.mul_pos (by omega) (WbZ _)
      have sG:=g4 0 _ (Xp nq);have sH:a.spot=none:=by
       rw[Xey,Xbb]at sG;have:=World.cell?_spot sG;simpa [Addr.add]using this
      obtain⟨b,off,spot⟩:=a;subst sH;refine .inr (.inl ⟨b,off,cap,cs,by rw[g1],by rw[g1];exact Bj,my,g2,λj v hj=>?_⟩);have:=g4 j v hj;rw[Xey,Xaz,Wbf]at this;exact this
    .have h1:=hβ.slice (elems.map (·.1)) (rest.map (·.1));have h2:((Xca len).map λi=>match elems[0+i]? with|some y=>β y.1|none=>0).sum=(elems.map λy=>β y.1).sum:=by
      rw[←wa];exact WwC elems
     rw[h2]at g6;rw[Xek]at h1;simp only[Wgn];have h3:(Xft (β∘λx=>x.1) elems)=elems.map λy=>β y.1:=rfl;rw[h3]at h1;show(Xft (Wgn dX.ty) l).sum+1<=_;omega
  |struct fs=>
   simp only[Xj]at h;obtain⟨ha,fields,hu,fi,yR,_⟩:=bT.und;have h2:=h.2;split at h2
   .rename_i t1 ts me;have iw:ty=Wej (t1::ts):=Wz h2;subst iw;obtain⟨xs,m,rfl,rfl,hcl,jZ,oz⟩:=DataW.trod_struct hu hx;have hsz:P.cellsOf t=(Wej (t1::ts)).size:=by rw[Whk bT];rfl
    have key:=Wky (w:=w) (P:=P) hT hβ (λt cs=>DataW.trod enc P w 0 (λ_=>true) true m t cs) (cs:=cs) fs 0 (t1::ts) xs (by simp) me
     (λfd jy te cs y sD hy=>Wk4 hT hβ n m fd.2 te cs y (Xah.1 h.1 fd jy) sD hy) (by rw[jZ,←fi];simp)
     (λi fd hi=>by
      rw[←fi]at hi;rw[Xaq]at hi;obtain⟨fl,iv,he⟩:=Xz.1 hi;subst he;exact oz i fl (by simpa using iv)) (by rw[hcl,hsz,Xaz])
    obtain⟨d,g1,g2,g3⟩:=key;rw[Xbm]at g1;refine⟨d,g1,g2,Xcr g3 ?_⟩;have:=hβ.agg (xs.map (·.1));rw[Xek]at this;exact this
   .cases h2
  |ptr e=>cases h
  |arr m e=>cases h
theorem WeF{G:GH}{w:World}:∀(t:Ty) (d:t.den) (vs:List Value),Enc G t d vs->TyRel G w t d vs []
 | .int _,_,_,h=>⟨rfl,h⟩
 | .bool,_,_,h=>⟨rfl,h⟩
 | .str,_,_,h=>⟨rfl,h⟩
 | .slice _,_,_,h=>⟨rfl,h⟩
 | .own _,_,_,h=>h.elim
 | .prod a b,d,vs,⟨c1,c2,he,h1,h2⟩=>⟨c1,c2,[],[],he,rfl,WeF a _ _ h1,WeF b _ _ h2⟩
def Wp0:(ps:List PTy)->WfL ps->Prop
 | [],_=>True
 | .v t _::ps,d=>Wfd t d.1/\Wp0 ps d.2
 | .box _::_,_=>False
 | .mut _::_,_=>False
 | .clos _ _::_,_=>False
 | .kv _ _::_,_=>False
 | .rp _::_,_=>False
 | .vj _::_,_=>False
 | .boxal _ _::_,_=>False
def WgO:(ps:List PTy)->WfL ps->Nat
 | [],_=>0
 | .v t _::ps,d=>Wgn t d.1+WgO ps d.2
 | .box _::_,_=>0
 | .mut _::_,_=>0
 | .clos _ _::_,_=>0
 | .kv _ _::_,_=>0
 | .rp _::_,_=>0
 | .vj _::_,_=>0
 | .boxal _ _::_,_=>0
def WwH(P:Program)(T:Tab):List TypeId->List PTy->Bool
 | [],[]=>true
 |t::ts,p::ps=>(match p with
  | .v ty agg=>(match look T t with|some te=>decide (te.ty=ty)&&(te.agg==agg)|none=>false)&&Wn3 T 20 t&&P.readableRec t&&Nat.blt t P.types.size&&WwH P T ts ps
  | .box _=>false
  | .mut _=>false
  | .clos _ _=>false
  | .kv _ _=>false
  | .rp _=>false
  | .vj _=>false
  | .boxal _ _=>false)
 |_,_=>false
theorem Wnl(hT:War P T)(hβ:Bulk β):∀(ts:List TypeId) (ps:List PTy) (vs:List Value) (ds:List (DataW H)) (pl:List MemPlace),WwH P T ts ps=true->DataW.TrodAll enc P w 0 (λ_=>true) true ts vs ds pl->
  (∀(j:Nat) (t:TypeId) (v:Value),ts[j]?=some t->vs[j]?=some v->∃base,Value.okWide P w .any base t v)->
  ∃d:WfL ps,Wbx (Wi2 w) w ps d vs [] []/\Wp0 ps d/\WgO ps d<=(ds.map β).sum
 | [],[],vs,ds,pl,_,h,_=>by
  obtain⟨rfl,rfl,_⟩:=trodAll_nil h;exact⟨(),⟨rfl,rfl,rfl⟩,trivial,by simp[WgO]⟩
 | [],_::_,_,_,_,h,_,_=>by cases h
 |_::_,[],_,_,_,h,_,_=>by cases h
 |t::ts,.box _::ps,_,_,_,h,_,_=>by cases h
 |t::ts,.mut _::ps,_,_,_,h,_,_=>by cases h
 |t::ts,.clos _ _::ps,_,_,_,h,_,_=>by cases h
 |t::ts,.kv _ _::ps,_,_,_,h,_,_=>by cases h
 |t::ts,.rp _::ps,_,_,_,h,_,_=>by cases h
 |t::ts,.vj _::ps,_,_,_,h,_,_=>by cases h
 |t::ts,.boxal _ _::ps,_,_,_,h,_,_=>by cases h
 |t::ts,.v ty agg::ps,vs,ds,pl,hp,h,ee=>by
  obtain⟨v,vs',d,sJ,p,q,rfl,rfl,rfl,h0,hr⟩:=trodAll_cons h;simp only[WwH,Xj]at hp;obtain⟨⟨⟨⟨h1,h2⟩,h3⟩,h4⟩,h5⟩:=hp;split at h1
  .rename_i te hl;simp only[Xj]at h1;have e1:te.ty=ty:=Wz h1.1;have e2:te.agg=agg:=eq_of_beq h1.2;subst e1 e2;obtain⟨fuel,hx⟩:=h0;obtain⟨x,dI,yS,fU⟩:=Wk4 hT hβ 20 fuel t te _ (d,p) h2 hl hx;obtain⟨base,aV⟩:=ee 0 t v rfl rfl;obtain⟨dd,g1,g2,g3⟩:=Wnl hT hβ ts ps vs' sJ q h5 hr (λj t v hj hv=>ee (j+1) t v (by simpa using hj) (by simpa using hv));refine⟨(x,dd),⟨v,vs',[],[],rfl,rfl,?_,g1⟩,⟨yS,g2⟩,?_⟩
   .have hu:=(hT _ _ hl).und;unfold WjS;obtain⟨ty,ag,shape⟩:=te;simp only at dI yS fU⊢;have eO:∀u:Value,u.cells= #[u]->u=v->v.cells.toList= [v]:=λu h e=>by rw[←e,h]
    cases shape with
    |basic=>
     obtain⟨ha,hu⟩:=hu;simp only at ha;subst ha;simp only[Xbk,WaE];have:v.cells.toList= [v]:=by
      cases ty with
      |int k=>obtain⟨n,rfl⟩:=okWide_int hu aV;rfl
      |bool=>obtain⟨n,rfl⟩:=okWide_bool hu aV;rfl
      |str=>obtain⟨n,rfl⟩:=okWide_string hu aV;rfl
      |slice e=>cases hu
      |own e=>cases hu
      |prod a b=>cases hu
     rw[this]at dI;exact WeF _ _ _ dI
    |slice e=>
     obtain⟨ha,hu,_⟩:=hu;simp only at ha;subst ha;simp only[Xbk,WaE];obtain⟨a,l,c,rfl⟩:=okWide_slice hu aV;exact WeF _ _ _ dI
    |struct fs=>
     obtain⟨ha,fields,hu,_⟩:=hu;simp only at ha;subst ha;simp only[WaD];obtain⟨cs,rfl,_⟩:=okWide_struct hu aV;exact⟨cs.toList,by simp,WeF _ _ _ dI⟩
    |ptr e=>simp only[Wn3,hl]at h2;cases h2
    |arr m e=>simp only[Wn3,hl]at h2;cases h2
   .have fU:Wgn te.ty x<=β d:=fU;simp only[WgO,Xag,Xdc];omega
  .cases h1
theorem Wnz:∀(ts:List TypeId) (vs:List Value) (ds:List (DataW H)) (pl:List MemPlace),DataW.TrodAll enc P w 0 (λ_=>true) true ts vs ds pl->ds.length=ts.length
 | [],vs,ds,pl,h=>by obtain⟨_,rfl,_⟩:=trodAll_nil h;rfl
 |t::ts,vs,ds,pl,h=>by
  obtain⟨v,vs',d,sJ,p,q,rfl,rfl,rfl,h0,hr⟩:=trodAll_cons h;simp[Wnz ts vs' sJ q hr]
theorem Wnw(jJ:laidOutB P=true){W W':World}(hb:Below W.heap.size W W'){sp:Nat->Bool}:∀(ts:List TypeId) (ps:List PTy) (vs:List Value) (ds:List (DataW H)) (pl:List MemPlace),WwH P T ts ps=true->
  DataW.TrodAll enc P W 0 (λ_=>true) true ts vs ds pl->(∀p∈pl,p.block<W.heap.size)->(∀p∈pl,sp p.block=true)->DataW.TrodAll enc P W' 0 sp true ts vs ds pl
 | [],ps,vs,ds,pl,_,h,_,_=>by
  obtain⟨rfl,rfl,rfl⟩:=trodAll_nil h;exact trodAll_mk0
 |t::ts,[],_,_,_,h,_,_,_=>by cases h
 |t::ts,.box _::ps,_,_,_,h,_,_,_=>by cases h
 |t::ts,.mut _::ps,_,_,_,h,_,_,_=>by cases h
 |t::ts,.clos _ _::ps,_,_,_,h,_,_,_=>by cases h
 |t::ts,.kv _ _::ps,_,_,_,h,_,_,_=>by cases h
 |t::ts,.rp _::ps,_,_,_,h,_,_,_=>by cases h
 |t::ts,.vj _::ps,_,_,_,h,_,_,_=>by cases h
 |t::ts,.boxal _ _::ps,_,_,_,h,_,_,_=>by cases h
 |t::ts,.v ty agg::ps,vs,ds,pl,hp,h,hlt,cI=>by
  obtain⟨v,vs',d,sJ,p,q,rfl,rfl,rfl,h0,hr⟩:=trodAll_cons h;simp only[WwH,Xj]at hp;obtain⟨⟨⟨⟨h1,h2⟩,h3⟩,h4⟩,h5⟩:=hp;have hrow:t<P.types.size:=by rw[Xhd]at h4;exact h4
  exact⟨p,q,WideElems.Trod_stays jJ h3 hrow h0 (λx hx=>hb.same (hlt x (Xl _ hx))) (λx hx=>cI x (Xl _ hx)),
   Wnw jJ hb ts ps vs' sJ q h5 hr (λx hx=>hlt x (Xh _ hx)) (λx hx=>cI x (Xh _ hx)),rfl⟩
theorem WuF{f:Func}{s:ChangeSpec}{apart fresh gB again:Bool}{W W':World}{args:Array Value}{v:Value}{ds gs:List (DataW H)}{before pa pv:List MemPlace}
  (hW:DataW.Whole enc P f.params.toList s.vars apart W args.toList ds gs before)
  (iQ:∀(b:Nat) (sp:Nat->Bool) (hd:Bool),DataW.TrodAll enc P W' b sp hd f.resultTypes.toList (v.resultList f.resultTypes.size) (s.fn H (ds++gs)).results [])
  (hargs:∀sp:Nat->Bool,(∀p∈before,sp p.block=true)->DataW.TrodAll enc P W' 0 sp true f.params.toList args.toList (s.fn H (ds++gs)).args pa)
  (nI:∀sp:Nat->Bool,(∀p∈before,sp p.block=true)->DataW.TrodVars enc P W' sp s.vars (s.fn H (ds++gs)).vars pv)
  (cJ:before=pa++pv) (hk:W.keptBut W' (· ∈before)) (yT:∀a,a.block<W.heap.size->W'.frozen? a=W.frozen? a)
  (aV:∀(j:Nat) (t:TypeId) (r:Value),f.resultTypes[j]?=some t->(v.resultList f.resultTypes.size)[j]?=some r->Value.okWide P W' .any 0 t r):
  s.post enc P f apart fresh gB again W args v W':=by
 have ia:∀p∈before,(λb=>decide (b<W.heap.size)) p.block=true:=λp hp=>by simpa using hW.lt p hp
 refine⟨ds,gs,before,[],pa,pv,hW,iQ _ _ _,hargs _ ia,nI _ ia,World.keptBut_mono (λp hp=>⟨hp,?_⟩) hk,λ_=>?_⟩
 .rw[cJ,Xm]at hp;exact Or.inr hp
 .have hlt:=hW.lt;obtain⟨_,_,_,_,_,hz,hn⟩:=hW;refine⟨aV,_,_,([]++pa)++pv,⟨[]++pa,pv,trodAll_append (hargs _ (λ_ _=>rfl)) (iQ _ _ _),nI _ (λ_ _=>rfl),rfl,?_,?_⟩,?_⟩
  .intro b off hp;have eZ:MemPlace.cell b off∈before:=by rw[cJ];simpa using hp
   rw[yT ⟨b,off,none⟩ (hlt _ eZ)];exact hz b off eZ
  .intro ha;have:=hn ha;rw[cJ]at this;simpa using this
  .intro p hp _;rw[cJ];simpa using hp
theorem law_row(hT:War P T)(jJ:laidOutB P=true){f:Func}{k:FuncId}{s:ChangeSpec}(dM:s.vars= [])(hs:∀ds:List (DataW H),ds.length=f.params.toList.length->s.fn H ds={results:=[.lit (.bool true)],args:=ds})
  {ps:List PTy} (cJ:WwH P T f.params.toList ps=true) {tb:TypeId} (iQ:f.resultTypes= #[tb]) (yU:P.underlying tb=some .bool) {run:Nat->WfL ps->Option (Wgh ps×Whg [.v .bool false])}
  (ls:∀N,Good P k (Sig.of ps [.v .bool false] (run N))) (hβ:Bulk β) {ok:List (DataW H)->Prop} {M:Nat->Prop} (sL:∀ds m,ok ds->m<=(ds.map β).sum->M m)
  (wc:∀d:WfL ps,Wp0 ps d->M (WgO ps d)->∃N o,run N d=some (o,(true,()))) {apart fresh gB again:Bool}
  (W:World) (base:Nat) (args:Array Value) (ds gs:List (DataW H)) (before:List MemPlace)
  (ee:∀(j:Nat) t v,f.params[j]?=some t->args[j]?=some v->Value.okWide P W .any base t v)
  (hW:DataW.Whole enc P f.params.toList s.vars apart W args.toList ds gs before) (hk:ok ds):
  Calls P k args W λe W'=>∃v,e= .returned v/\s.post enc P f apart fresh gB again W args v W':=by
 have hW':=hW;have hlt:=hW.lt;obtain⟨p,q,hA,hV,yV,yT,bf⟩:=hW;rw[dM]at hV;obtain⟨rf,hq⟩:=trodVars_none hV;subst rf hq;rw[Xdi]at yV;subst yV;obtain⟨d,h1,h2,h3⟩:=Wnl (w:=W) hT hβ f.params.toList ps args.toList ds before cJ hA (λj t v hj hv=>⟨base,ee j t v (by simpa using hj) (by simpa using hv)⟩);obtain⟨N,o,ho⟩:=wc d h2 (sL ds _ hk h3);have hc:=ls N d (o,(true,())) ho (Wi2 W) W args.toList [] [] h1 List.Pairwise.nil (by simp) (λb o v hv=>hv);have hargs:args.toList.toArray=args:=by simp
 rw[hargs]at hc;refine hc.mono λe W' ⟨rv,kf,ms,db,G',he,ha⟩=>?_;have hb:Below W.heap.size W W':=⟨ha.le.os,ha.le.tape,ha.le.output,ha.le.size,λb hb=>ha.le.whole b hb (λo ⟨q,hq,_⟩=>by simp at hq)⟩;obtain⟨v,vs',n1,n2,e1,e2,e3,e4⟩:=ha.res;obtain⟨e5,_⟩:=e4;subst e5;have hv:v= .bool true:=by
  unfold WjS at e3;simp only[Xbk,WaE]at e3;have:=e3.2;simpa [Enc]using this
 subst hv;have mf:Wi1 rv= .bool true:=by rw[e1];rfl
 rw[mf]at he;refine⟨.bool true,he,?_⟩;have hlen:=Wnz _ _ _ _ hA;have we:=hs (ds++ []) (by rw[Xdi];exact hlen);refine WuF (pa:=before) (pv:=[]) hW' ?_ ?_ ?_ (by simp) (hb.frame _) (λa ha=>hb.frozen ha) (ok_one iQ rfl (okWide_bool_mk yU _))
 .intro b sp hd;rw[we,iQ];exact trodAll_cons_mk (shut_bool yU _) trodAll_mk0
 .intro sp cI;rw[we,Xdi];exact Wnw jJ hb _ _ _ _ _ cJ hA hlt cI
 .intro sp cI;rw[we,dM];rfl
end
end Go.Sx
namespace Go.Sx
set_option linter.unusedVariables false
def sortInts(xs:List Int):List Int:=xs.mergeSort λx y=>decide (x<=y)
def Zqu(N:Nat)(xs:List Int):Option ((List Int×Unit)×Unit):=bif decide (xs.length<4611686018427387904)then some ((sortInts xs,()),())else none
theorem sortInt_some{N:Nat}{xs:List Int}{o:(List Int×Unit)×Unit}(h:Zqu N xs=some o):xs.length<4611686018427387904/\o=((sortInts xs,()),()):=by
 unfold Zqu at h;by_cases h':xs.length<4611686018427387904
 .rw[show decide (xs.length<4611686018427387904)=true by simpa using h']at h;simp only[We]at h;injection h with h;exact⟨h',h.symm⟩
 .rw[show decide (xs.length<4611686018427387904)=false by simpa using h']at h;cases h
end Go.Sx
namespace Go.Sx
set_option linter.unusedVariables false
def Wk5{α:Type}(r:α->α->Bool):List α->Bool
 | []=>true
 |x::l=>l.all (r x)&&Wk5 r l
def lessBy{α:Type}(cf:α->α->Int)(x y:α):Bool:=decide (cf x y<0)
def apart{α:Type}(cf:α->α->Int)(x y:α):Bool:=lessBy cf x y||lessBy cf y x
def sortBy{α:Type}(cf:α->α->Int)(xs:List α):List α:=xs.mergeSort λx y=>!lessBy cf y x
def Zna{α:Type}(rng:α->Bool)(cf:α->α->Int)(N:Nat)(xs:List α):Option ((List α×Unit)×Unit):=
 bif xs.all rng&&(Wk5 (apart cf) xs&&decide (xs.length<4611686018427387904))then some ((sortBy cf xs,()),())else none
structure SwoOn{α:Type}(rng:α->Bool)(cf:α->α->Int):Prop where
 irr:∀x,rng x=true->¬cf x x<0
 tr:∀x y z,rng x=true->rng y=true->rng z=true->cf x y<0->cf y z<0->cf x z<0
 nt:∀x y z,rng x=true->rng y=true->rng z=true->¬cf x y<0->¬cf y z<0->¬cf x z<0
theorem sortBy_some{α:Type}{rng:α->Bool}{cf:α->α->Int}{N:Nat}{xs:List α}{o:(List α×Unit)×Unit}(h:Zna rng cf N xs=some o):
  (∀x∈xs,rng x=true)/\Wk5 (apart cf) xs=true/\xs.length<4611686018427387904/\o=((sortBy cf xs,()),()):=by
 unfold Zna at h;cases hb:xs.all rng&&(Wk5 (apart cf) xs&&decide (xs.length<4611686018427387904))
 .rw[hb]at h;cases h
 .rw[hb]at h;simp only[We]at h;injection h with h;simp only[Xj,Wh]at hb;exact⟨Xah.1 hb.1,hb.2.1,hb.2.2,h.symm⟩
theorem pairs_get{α:Type}{r:α->α->Bool}:∀{l:List α},Wk5 r l=true->∀(i j:Nat) (hi:i<l.length) (hj:j<l.length),i<j->r l[i] l[j]=true
 | [],_,i,_,hi,_,_=>by simp at hi
 |x::l,h,0,j+1,hi,hj,hij=>by
  simp only[Wk5,Xj]at h;exact Xah.1 h.1 _ (List.getElem_mem _)
 |x::l,h,i+1,j+1,hi,hj,hij=>by
  simp only[Wk5,Xj]at h;simpa using pairs_get h.2 i j (by simpa using hi) (by simpa using hj) (by omega)
def Wvu(k:Int):Bool:=decide (-1000000000<=k)&&decide (k<=1000000000)
def WwO(a:Int×Int×Int):Bool:=Wvu a.1
def cfE(a b:Int×Int×Int):Int:=a.1-b.1
def WvJ(a:Int×Int×Int):Bool:=Wvu a.1&&Wvu a.2.1
def cfH(a b:Int×Int×Int):Int:=bif a.2.1==b.2.1 then a.1-b.1 else a.2.1-b.2.1
theorem Why{k:Int}(h:Wvu k=true):-1000000000<=k/\k<=1000000000:=by unfold Wvu at h;simpa using h
theorem WxY:SwoOn WwO cfE:=⟨λx _=>by unfold cfE;omega,λx y z _ _ _=>by unfold cfE;omega,λx y z _ _ _=>by unfold cfE;omega⟩
theorem Wce{a b:Int×Int×Int}:cfH a b<0↔(a.2.1<b.2.1\/(a.2.1=b.2.1/\a.1<b.1)):=by
 unfold cfH;by_cases h:a.2.1=b.2.1
 .have:(a.2.1==b.2.1)=true:=by simpa using h
  rw[this];simp only[We];omega
 .have:(a.2.1==b.2.1)=false:=by simpa using h
  rw[this];simp only[Wc];omega
theorem WwJ{a b:Int×Int×Int}(h:(a.2.1 !=b.2.1)=false):a.1-b.1=cfH a b:=by
 have h:a.2.1=b.2.1:=bne_eq_false_iff_eq.1 h;unfold cfH;rw[beq_iff_eq.2 h];rfl
theorem WwY{a b:Int×Int×Int}(h:(a.2.1 !=b.2.1)=true):a.2.1-b.2.1=cfH a b:=by
 have h:a.2.1≠b.2.1:=bne_iff_ne.1 h;unfold cfH;rw[beq_eq_false_iff_ne.2 h];rfl
theorem Wx6:SwoOn WvJ cfH:=⟨λx _=>by rw[Wce];omega,λx y z _ _ _=>by rw[Wce,Wce,Wce];omega,λx y z _ _ _=>by rw[Wce,Wce,Wce];omega⟩
end Go.Sx
