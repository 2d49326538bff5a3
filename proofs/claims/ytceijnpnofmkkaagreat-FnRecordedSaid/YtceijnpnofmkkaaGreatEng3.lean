/- The abstract machine, part 3: a reflective interpreter of the program's code over data, with its soundness over the model. -/
import Derived.Test.YtceijnpnofmkkaaGreatEng2
open List renaming mem_cons→Xq,mem_cons_of_mem→Xe,mem_cons_self→Xg,length_append→Xs,getD_eq_getElem?_getD→Xap,getElem?_append→Xaw,getElem?_cons_zero→Xdn,getElem?_eq_none→Xcs,all_eq_true→Xag,append_of_mem→Xeg,mem_append→Xn,range→Xde,mem_filter→Xav,mem_range→Xeo,filter_cons→Xbj,mem_map→Xw,eq_nil_of_length_eq_zero→Xaa,eq_nil_iff_forall_not_mem→Xfh,nodup_nil→Xcx,mem_of_getElem?→Xax,nodup_cons→Xai,nil_append→Xbn,cons_append→Xba,length_filter_le→Xez,length_range→Xfw,mem_append_left→Xl,mem_append_right→Xh,mem_flatMap→Xgg,map_cons→Xae,map_map→Xek,map_congr_left→Xee,append_nil→Xdb,nodup_append→Xaj,filter_append→Xcr,prefix_append→Xgz,map_append→Xz,map_nil→Xbt,mem_erase_of_ne→Xgv,length_erase_of_mem→Xel,length_pos_of_mem→Xgk,length_cons→Xr,getElem?_cons_succ→Xeq,getElem?_eq_some_iff→Xad,getElem?_append_right→Xcj,getElem?_tail→Xcg,mapM_cons→Xfl,pairwise_singleton→Xbg,mem_singleton→Xac,take_of_length_le→Xdo,getElem?_eq_getElem→Xp,drop_zero→Xby,tail_cons→Xep,getElem?_map→Xas,length→Xa,sum_cons→Xcw
open Nat renaming sub_self→Xcz,blt_eq→Xhp,le_refl→Xm,zero_add→Xbc,zero_le→Xbp,sub_zero→Xdj,beq→Xbu,le_trans→Xco,add_zero→Xaz,add_sub_cancel_left→Xch,le_of_ble_eq_true→Xgn,add_mul→Xcu,zero_mul→Xfi
open Option renaming getD_some→Xex,bind_some→Xc,bind_eq_some_iff→Xbx,map_eq_some_iff→Xy
open Bool renaming and_eq_true→Xi,not_eq_true'→Xar,false_eq_true→Xbh,or_eq_true→Xcb
open Array renaming getD_eq_getD_getElem?→Xcn,getElem?_setIfInBounds→Xfn,getElem?_eq_getElem→Xdf,getElem?_eq_some_iff→Xdd,replicate→Xef
namespace Go.Sx
set_option linter.unusedVariables false
set_option linter.unusedSimpArgs false
theorem Wqc{x y:Nat}{l:List Nat}:y∈Wyn x l↔y=x\/y∈l:=by
 unfold Wyn;cases h:Wcy x l with
 |true=>
  have:=(WaY x l).1 h;simp only[We];exact⟨.inr,λh=>h.elim (λe=>e▸this) id⟩
 |false=>simp
theorem Wkj{y:Nat}:∀(m l:List Nat),y∈WnV m l↔y∈m\/y∈l
 | [],l=>by simp[WnV]
 |x::m,l=>by
  rw[WnV,Wkj m,Wqc,Xq];constructor
  .rintro(h|h|h)
   .exact .inl (.inr h)
   .exact .inl (.inl h)
   .exact .inr h
  .rintro((h|h)|h)
   .exact .inr (.inl h)
   .exact .inl h
   .exact .inr (.inr h)
theorem Wjd{acc:List (List Nat)}{y:Nat}:∀(ds l:List Nat),y∈Wle acc ds l↔(∃j∈ds,y=j\/y∈acc.getD j [])\/y∈l
 | [],l=>by simp[Wle]
 |j::ds,l=>by
  rw[Wle,Wjd ds,Wkj,Wqc];constructor
  .rintro(⟨k,hk,h⟩|h|h|h)
   .exact .inl ⟨k,Xe _ hk,h⟩
   .exact .inl ⟨j,Xg ..,.inr h⟩
   .exact .inl ⟨j,Xg ..,.inl h⟩
   .exact .inr h
  .rintro(⟨k,hk,h⟩|h)
   .rcases Xq.1 hk with rfl|hk
    .exact .inr (h.elim (λh=>.inr (.inl h)) .inl)
    .exact .inl ⟨k,hk,h⟩
   .exact .inr (.inr (.inr h))
def Wnu(ops:Array Oper)(S:Nat->Prop):Prop:=∀i o,ops[i]?=some o->S i->∀d∈WmA o,S d
theorem Wj9{ops:Array Oper}{S:Nat->Prop}(hS:Wnu ops S):∀(l:List Oper) (acc:List (List Nat)),(∀(k:Nat) (o:Oper),l[k]?=some o->ops[acc.length+k]?=some o)->
  (∀i,S i->∀j∈acc.getD i [],S j)->∀i,S i->∀j∈(WeD l acc).getD i [],S j
 | [],acc,_,h=>h
 |o::l,acc,hl,h=>by
  refine Wj9 hS l _ (λk o' hk=>?_) (λi hi j hj=>?_)
  .have:=hl (k+1) o' (by simpa using hk);rw[Xs];have e:acc.length+(k+1)=acc.length+ [Wle acc (WmA o) []].length+k:=by simp;omega
   rw[←e];exact this
  .rw[Xap,Xaw]at hj;split at hj
   .exact h i hi j (by rw[Xap];exact hj)
   .rename_i hlt;by_cases he:i=acc.length
    .subst he;simp only[Xcz,Xdn,Xex]at hj;rcases(Wjd _ _).1 hj with⟨k,hk,ep⟩|hj
     .have hSk:=hS _ o (hl 0 o (by simp)) hi k hk;rcases ep with rfl|ep
      .exact hSk
      .exact h k hSk j ep
     .cases hj
    .have:[Wle acc (WmA o) []][i-acc.length]?=none:=Xcs (by simp;omega);rw[this]at hj;cases hj
theorem WqW{ops:Array Oper}{S:Nat->Prop}(hS:Wnu ops S){i j:Nat}(h:Wdd (WeD ops.toList []) j i=true)(hi:S i):S j:=
 Wj9 hS ops.toList [] (λk o hk=>by simpa using hk) (λi _ j hj=>by simp at hj) i hi j ((WaY _ _).1 h)
theorem Wj8{ops:Array Oper}:∀(l:List Oper) (n:Nat),WuN l n=true->∀(k:Nat) (o:Oper),l[k]?=some o->∀d∈WmA o,d<n+k
 | [],_,_,k,o,hk=>by simp at hk
 |o'::l,n,h,k,o,hk=>by
  simp only[WuN,Xi,Xag]at h;cases k with
  |zero=>
   simp at hk;subst hk;intro e he;have:=h.1 e he;rw[Xhp]at this;omega
  |succ k=>
   have:=Wj8 (ops:=ops) l (n+1) h.2 k o (by simpa using hk);intro e he;have:=this e he;omega
structure Order(ops:Array Oper)(l:List Nat):Prop where
 nodup:l.Nodup
 all:∀i,i<ops.size↔i∈l
 dep:∀p i s,l=p++i::s->∀o,ops[i]?=some o->∀d∈WmA o,d∈p
theorem Order.closed{ops:Array Oper}{l:List Nat}(h:Order ops l){p s:List Nat}(e:l=p++s):Wnu ops (· ∈p):=λi o ho hi d hd=>by
 obtain⟨a,b,rfl⟩:=Xeg hi;have:=h.dep a i (b++s) (by rw[e];simp) o ho d hd;simp[this]
theorem Order.bef{ops:Array Oper}{l:List Nat}(h:Order ops l){p s:List Nat}{i j:Nat}(e:l=p++s)(hb:Wdd (WeD ops.toList []) j i=true)(hi:i∈p):j∈p:=
 WqW (h.closed e) hb hi
theorem Order.bef'{ops:Array Oper}{l:List Nat}(h:Order ops l){p s:List Nat}{i j:Nat}(e:l=p++i::s)(hb:Wdd (WeD ops.toList []) j i=true)(hne:j≠i):j∈p:=by
 have:=h.bef (p:=p++ [i]) (s:=s) (by rw[e];simp) hb (by simp);rcases Xn.1 this with h|h
 .exact h
 .simp at h;exact Wi h hne
def unl(ops:Array Oper)(listed:Array Bool):List Nat:=(Xde ops.size).filter λi=>!listed.getD i true
theorem Wf4{ops:Array Oper}{listed:Array Bool}{i:Nat}:i∈unl ops listed↔i<ops.size/\listed.getD i true=false:=by
 unfold unl;rw[Xav,Xeo];simp
theorem WgF{α:Type}{p q:α->Bool}:∀(l:List α),(∀x∈l,q x=true->p x=true)->(∃x∈l,p x=true/\q x=false)->(l.filter q).length<(l.filter p).length
 | [],_,⟨x,hx,_⟩=>by cases hx
 |x::l,h,⟨y,hy,hp,hq⟩=>by
  have hle:∀(l:List α),(∀x∈l,q x=true->p x=true)->(l.filter q).length<=(l.filter p).length:=by
   intro l
   induction l with
   |nil=>intro _;simp
   |cons x l ih=>
    intro h;have:=ih λx hx=>h x (Xe _ hx);have hx:=h x (Xg ..);rw[Xbj,Xbj];cases hqx:q x with
    |true=>rw[hx hqx];simpa using this
    |false=>cases p x<;>simp<;>omega
  rw[Xbj,Xbj];rcases Xq.1 hy with rfl|hy
  .rw[hp,hq];have:=hle l λx hx=>h x (Xe _ hx);simp;omega
  .have:=WgF l (λx hx=>h x (Xe _ hx)) ⟨y,hy,hp,hq⟩;have hx:=h x (Xg ..);cases hqx:q x with
   |true=>rw[hx hqx];simpa using this
   |false=>cases p x<;>simp<;>omega
theorem WlJ{listed:Array Bool}{i j:Nat}:(listed.setIfInBounds i true).getD j true=(if i=j then true else listed.getD j true):=by
 simp only[Xcn,Xfn];split
 .split<;>rfl
 .rfl
theorem Ws1{listed:Array Bool}{i j:Nat}(hi:i<listed.size):(listed.setIfInBounds i true).getD j false=(if i=j then true else listed.getD j false):=by
 simp only[Xcn,Xfn];split
 .simp[hi]
 .rfl
theorem WwZ{listed:Array Bool}{i:Nat}(hi:i<listed.size):listed.getD i true=listed.getD i false:=by
 simp[hi]
theorem Wp2{o:Oper}{e:Edge}(he:e∈o.after)(hb:Region.binds .any e=true):e.on∈WmA o:=
 Xw.2 ⟨e,Xav.2 ⟨by simpa using he,hb⟩,rfl⟩
theorem WpU{ops:Array Oper}(hb:∀(k:Nat) (o:Oper),ops[k]?=some o->∀d∈WmA o,d<k):∀(fuel t:Nat) (listed:Array Bool),listed.size=ops.size->(unl ops listed).length<=fuel->
  (Region.linearise.go .any ops fuel t listed []).Nodup/\
  (∀i,i∈Region.linearise.go .any ops fuel t listed []↔i∈unl ops listed)/\
  (∀p i s,Region.linearise.go .any ops fuel t listed []=p++i::s->∀o,ops[i]?=some o->∀e∈o.after,Region.binds .any e=true->listed.getD e.on false=true\/e.on∈p)
 |0,t,listed,hs,hlen=>by
  have:unl ops listed= []:=Xaa (by omega);simp only[Region.linearise.go,List.reverse_nil,this];exact⟨by simp,by simp,λp i s h=>by simp at h⟩
 |fuel+1,t,listed,hs,hlen=>by
  have nR:Region.linearise.go .any ops (fuel+1) t listed []=match(Region.ready .any ops listed)[t%(Region.ready .any ops listed).length]? with
   |some i=>Region.linearise.go .any ops fuel (t/(Region.ready .any ops listed).length) (listed.setIfInBounds i true) [i]
   |none=>[]:=rfl
  rw[nR];cases hi:(Region.ready .any ops listed)[t%(Region.ready .any ops listed).length]? with
  |none=>
   have bG:Region.ready .any ops listed= []:=by
    cases hr:Region.ready .any ops listed with
    |nil=>rfl
    |cons x xs=>
     rw[hr]at hi;have hlt:t%(x::xs).length<(x::xs).length:=Nat.mod_lt _ (by simp);simp at hi;simp at hlt;omega
   have hu:unl ops listed= []:=by
    have key:∀n i,i<=n->i∉unl ops listed:=by
     intro n
     induction n with
     |zero=>
      intro i gV hm;obtain⟨h1,h2⟩:=Wf4.1 hm;have:i∈Region.ready .any ops listed:=by
       rw[mem_ready];refine⟨h2,ops[i],Xdf h1,λe he lH=>?_⟩;have:=hb i _ (Xdf h1) e.on (Wp2 he lH);omega
      rw[bG]at this;cases this
     |succ n ih=>
      intro i gV hm;obtain⟨h1,h2⟩:=Wf4.1 hm;have:i∈Region.ready .any ops listed:=by
       rw[mem_ready];refine⟨h2,ops[i],Xdf h1,λe he lH=>?_⟩;have hlt:=hb i _ (Xdf h1) e.on (Wp2 he lH);have cE:=ih e.on (by omega);have h3:e.on<ops.size:=by omega
       cases h4:listed.getD e.on true with
       |false=>exact Wi (Wf4.2 ⟨h3,h4⟩) cE
       |true=>rw[←WwZ (by omega)];exact h4
      rw[bG]at this;cases this
    exact Xfh.2 λi=>key i i (Xm _)
   rw[hu];exact⟨Xcx,λ_=>Iff.rfl,λp i s h=>by simp at h⟩
  |some i=>
   have zh:=Xax hi;obtain⟨h1,o,ho,h3⟩:=mem_ready.1 zh;have rO:i<ops.size:=(Xdd.1 ho).1;have zi:i∈unl ops listed:=Wf4.2 ⟨rO,h1⟩;simp only[];rw[linearise_go_acc,List.reverse_singleton,List.singleton_append];have iv:(unl ops (listed.setIfInBounds i true)).length<=fuel:=by
    have:(unl ops (listed.setIfInBounds i true)).length<(unl ops listed).length:=by
     refine WgF _ (λx _ hx=>?_) ⟨i,Xeo.2 rO,by simpa using h1,by rw[WlJ];simp⟩;rw[WlJ]at hx;split at hx
     .simp at hx
     .exact hx
    omega
   obtain⟨g1,g2,g3⟩:=WpU hb fuel (t/(Region.ready .any ops listed).length) (listed.setIfInBounds i true) (by simp[hs]) iv;have hmem:∀j,j∈unl ops (listed.setIfInBounds i true)↔j∈unl ops listed/\j≠i:=λj=>by
    rw[Wf4,Wf4,WlJ];constructor
    .rintro⟨q1,q2⟩;split at q2
     .cases q2
     .rename_i hne;exact⟨⟨q1,q2⟩,λe=>hne e.symm⟩
    .rintro⟨⟨q1,q2⟩,hne⟩;exact⟨q1,by rw[Wa (λe=>hne e.symm)];exact q2⟩
   refine⟨Xai.2 ⟨λhm=>?_,g1⟩,λj=>?_,λp j s e o' iY ed qD lH=>?_⟩
   .exact((hmem i).1 ((g2 i).1 hm)).2 rfl
   .rw[Xq,g2,hmem];constructor
    .rintro(rfl|h)
     .exact zi
     .exact h.1
    .intro h;by_cases he:j=i
     .exact .inl he
     .exact .inr ⟨h,he⟩
   .cases p with
    |nil=>
     simp only[Xbn,List.cons.injEq]at e;obtain⟨rfl,_⟩:=e;rw[ho]at iY;injection iY with iY;subst iY;exact .inl (h3 ed qD lH)
    |cons x p=>
     simp only[Xba,List.cons.injEq]at e;obtain⟨rfl,e⟩:=e;rcases g3 p j s e o' iY ed qD lH with h|h
     .rw[Ws1 (by omega)]at h;split at h
      .rename_i he;exact .inr (by rw[he];simp)
      .exact .inl h
     .exact .inr (Xe _ h)
theorem WiV{ops:Array Oper}{t:Nat}(hb:∀(k:Nat) (o:Oper),ops[k]?=some o->∀d∈WmA o,d<k):Order ops (Region.linearise .any ops t):=by
 have hu:∀i,i∈unl ops (Xef ops.size false)↔i<ops.size:=λi=>by
  rw[Wf4];constructor
  .exactλh=>h.1
  .exactλh=>⟨h,by simp[h]⟩
 obtain⟨h1,h2,h3⟩:=WpU hb ops.size t (Xef ops.size false) (by simp) (by
  have:=Xez (λi=>!(Xef ops.size false).getD i true) (Xde ops.size);rw[Xfw]at this;exact this)
 refine⟨h1,λi=>by unfold Region.linearise;rw[h2,hu],λp i s e o ho d hd=>?_⟩;unfold WmA at hd;obtain⟨ed,qD,rfl⟩:=Xw.1 hd;obtain⟨qD,lH⟩:=Xav.1 qD;rcases h3 p i s e o ho ed (by simpa using qD) lH with h|h
 .exfalso;rw[Xcn,Array.getElem?_replicate]at h;split at h<;>simp at h
 .exact h
theorem WjO{ops:Array Oper}{t:Nat}(hb:∀(k:Nat) (o:Oper),ops[k]?=some o->∀d∈WmA o,d<k):Order ops (Region.schedule true ops t):=by
 unfold Region.schedule;rw[Wb (by simp)];exact WiV hb
end Go.Sx
namespace Go.Sx
set_option linter.unusedVariables false
set_option linter.unusedSimpArgs false
def Wsg(n:Nat)(kept:List Nat)(o:Oper):Bool:=match o.dst with
 |some d=>Nat.blt d n&& !Wcy d kept
 |none=>true
def WdI(n:Nat)(kept:List Nat):Code->Bool
 | .region _ ops _=>ops.toList.all (Wsg n kept)
 | .seq a b=>WdI n kept a&&WdI n kept b
 | .cond _ x y=>WdI n kept x&&WdI n kept y
 | .block _ c=>WdI n kept c
 | .loop c=>WdI n kept c
 |_=>true
theorem WoS{nt:Slots}{n:Nat}{kept:List Nat}(hn:nt.n=n)(hk:∀p∈nt.kept,p.1∈kept){o:Oper}(h:Wsg n kept o=true):∀d,o.dst=some d->nt.Ok d:=λd hd=>by
 unfold Wsg at h;rw[hd]at h;simp only[Xi,Xar]at h;refine⟨by have h1:=h.1;rw[Xhp]at h1;rw[hn];exact h1,λp hp e=>?_⟩;have:=hk p hp;rw[e]at this;rw[(WaY d kept).2 this]at h;exact Wi h.2 (by simp)
def Ex.to:Ex->Exit
 | .normal=>.normal
 | .exit id=>.exit id
 | .ret=>.ret
section
variable{w0:World}{F:CS}{nt:Slots}{G0:GH}{P:Program}{T:Tab}{Γ:Ctx}{A:List (Nat×An)}{R:Type}{r:R}
def Wtx(w0:World)(F:CS)(nt:Slots)(G0:GH)(k:St->Option R)(r:R)(K:Act->World->Prop):Prop:=
 ∀st a w G ν,Rel w0 F nt G0 G ν st a w->k st=some r->K a w
theorem Wpj{G:GH}{ν:Nat->Nu}{st:St}{a:Act}{w:World}(hr:Rel w0 F nt G0 G ν st a w){ops:Array Oper}{j:Nat}{t:Tmp}(ht:(ops[j]?).bind (·.dst)=some t){b:Bool}(hb:(look st.env t).bind asB=some b):
  a.tmps[t]?=some (.bool b)/\yielded ops a.tmps j=some b:=by
 cases hl:look st.env t with
 |none=>simp[hl]at hb
 |some x=>
  simp only[hl,Xc]at hb;obtain⟨v,hv,hx⟩:=hr.env t x hl;have:=Wpd x v b hx hb;subst this;refine⟨hv,?_⟩;unfold yielded;rw[ht];simp[hv]
theorem WvX(hT:Wap P T)(hΓ:Wfw P Γ){ops:Array Oper}{o:Oper}(hd:∀d,o.dst=some d->nt.Ok d){k:St->Option R}{K:Act->World->Prop}{Q:Exit->Act->World->Prop}(hK:Wtx w0 F nt G0 k r K)
  {st:St} {a:Act} {w:World} {G:GH} {ν:Nat->Nu} (hr:Rel w0 F nt G0 G ν st a w) (h:rxg T Γ A ops o st k=some r):
  if Region.wanted o (yielded ops a.tmps)then o.wp P a w K Q else K (a.put o.dst undef) w:=by
 unfold rxg at h;have gW:∀ae,Rel w0 F nt G0 G ν ae a w->Rel w0 F nt G0 G ν (ae.put o.dst (.tup [])) (a.put o.dst undef) w:=λae bK=>
  bK.put hd ⟨[],rfl,rfl,λj x v hj=>by simp at hj⟩
 have dS:∀b:Bool,AValRel G ν st.nx (one .bool b) (.bool b):=λb=>WP (t:=.bool) (d:=b) (v:=.bool b) rfl;split at h
 .rename_i hg;simp only[Region.wanted,hg,Waq];exact WsO hT hΓ hr hd h (λae a' w' G' ν' bK hk=>hK _ _ _ _ _ bK hk)
 .rename_i j want hg;split at h
  .rename_i t ht;split at h
   .rename_i hl;obtain⟨v,hv,hx⟩:=hr.env t _ hl;have gy:v=undef:=by
     obtain⟨vs,h1,h2,_⟩:=hx;rw[h1,Xaa h2];rfl
    subst gy;have hy:yielded ops a.tmps j=none:=by
     unfold yielded;rw[ht];simp only[Xc,hv];rfl
    simp only[Region.wanted,hg,hy];rw[Wa (by simp)];exact hK _ _ _ _ _ (gW _ hr) h
   .rename_i x _ hl;split at h
    .rename_i b hb;obtain⟨hv,hy⟩:=Wpj hr ht (b:=b) (by rw[hl];exact hb);simp only[Region.wanted,hg,hy];have mO:=hr.rebind hv (dS b);cases b with
     |true=>
      simp only[We]at h;cases want with
      |true=>
       simp only[Waq]at h;simp only[beq_self_eq_true,Waq];exact WsO hT hΓ mO hd h (λae a' w' G' ν' bK hk=>hK _ _ _ _ _ bK hk)
      |false=>
       simp only[Xbh,Wau]at h;rw[Wa (by simp)];exact hK _ _ _ _ _ (gW _ mO) h
     |false=>
      simp only[Wc]at h;cases want with
      |true=>
       simp only[Waq]at h;rw[Wa (by simp)];exact hK _ _ _ _ _ (gW _ mO) h
      |false=>
       simp only[Xbh,Wau]at h;simp only[beq_self_eq_true,Waq];exact WsO hT hΓ mO hd h (λae a' w' G' ν' bK hk=>hK _ _ _ _ _ bK hk)
    .cases h
   .cases h
  .cases h
theorem Wwj(hT:Wap P T)(hΓ:Wfw P Γ){ops:Array Oper}:∀(l:List Oper),(∀o∈l,∀d,o.dst=some d->nt.Ok d)->∀{k:St->Option R} {Q:Exit->Act->World->Prop},Wtx w0 F nt G0 k r (Q .normal)->
  Wtx w0 F nt G0 (λst=>rxs T Γ A ops l st k) r (wpList P ops Q l)
 | [],_,k,Q,hK=>λst a w G ν hr h=>hK st a w G ν hr h
 |o::l,hd,k,Q,hK=>λst a w G ν hr h=>by
  have ih:=Wwj (ops:=ops) hT hΓ l (λo ho=>hd o (Xe _ ho)) hK;have h:rxg T Γ A ops o st (λae=>match opG A o ae with
   |some (c,ce)=>bif c then rxs T Γ A ops l ce k else none
   |none=>none)=some r:=h
  have zj:Wtx w0 F nt G0 (λae=>match opG A o ae with
   |some (c,ce)=>bif c then rxs T Γ A ops l ce k else none
   |none=>none) r (wpList P ops Q l):=λdx a1 w1 G1 ν1 kd h1=>by
   have h1:(match opG A o dx with
    |some (c,ce)=>bif c then rxs T Γ A ops l ce k else none
    |none=>none)=some r:=h1
   split at h1
   .rename_i c ai hg;obtain⟨rfl,h1⟩:=WaW h1;have:∃G' ν',Rel w0 F nt G0 G' ν' ai a1 w1:=by
     unfold opG at hg;split at hg
     .split at hg
      .injection hg with hg;injection hg with _ hg;subst hg;exact⟨G1,ν1,kd⟩
      .exact WnA kd hg
     .injection hg with hg;injection hg with _ hg;subst hg;exact⟨G1,ν1,kd⟩
     .injection hg with hg;injection hg with _ hg;subst hg;exact⟨G1,ν1,kd⟩
     .injection hg with hg;injection hg with _ hg;subst hg;exact⟨G1,ν1,kd⟩
     .injection hg with hg;injection hg with _ hg;subst hg;exact⟨G1,ν1,kd⟩
    obtain⟨G2,ν2,gX⟩:=this;exact ih ai a1 w1 G2 ν2 gX h1
   .cases h1
  have:=WvX hT hΓ (hd o (Xg ..)) (Q:=Q) zj hr h;unfold wpList;split
  .rename_i hw;rw[Wb hw]at this;exact .inl this
  .rename_i hw;rw[Wa hw]at this;exact this
end
end Go.Sx
namespace Go.Sx
set_option linter.unusedVariables false
set_option linter.unusedSimpArgs false
section
variable{T:Tab}{Γ:Ctx}{A:List (Nat×An)}{ops:Array Oper}
theorem WlC{R:Type}(o:Oper)(st:St)(k:St->Option R):rx1 T Γ A o st k=(rx1 T Γ A o st some).bind k:=by
 unfold rx1;rw[Wgt,Wgt o st (λx objs nx=>some _),Option.bind_assoc];rfl
theorem Wvk{R:Type}(o:Oper)(st:St)(k:St->Option R):rxg T Γ A ops o st k=(rxg T Γ A ops o st some).bind k:=by
 unfold rxg;cases o.guard with
 |none=>exact WlC o st k
 |some g=>
  obtain⟨j,want⟩:=g;simp only;cases(ops[j]?).bind (·.dst)with
  |none=>rfl
  |some t=>
   simp only;cases look st.env t with
   |none=>rfl
   |some x=>
    have main:(match asB x with
      |some b=>bif b
       then(if want then rx1 T Γ A o (st.put (some t) (one .bool true)) k else k ((st.put (some t) (one .bool true)).put o.dst (.tup [])))
       else(if want then k ((st.put (some t) (one .bool false)).put o.dst (.tup []))else rx1 T Γ A o (st.put (some t) (one .bool false)) k)
      |none=>none)=(match asB x with
      |some b=>bif b
       then(if want then rx1 T Γ A o (st.put (some t) (one .bool true)) some else some ((st.put (some t) (one .bool true)).put o.dst (.tup [])))
       else(if want then some ((st.put (some t) (one .bool false)).put o.dst (.tup []))else rx1 T Γ A o (st.put (some t) (one .bool false)) some)
      |none=>none).bind k:=by
     cases asB x with
     |none=>rfl
     |some b=>
      cases b<;>cases want
      .exact WlC _ _ _
      .rfl
      .rfl
      .exact WlC _ _ _
    cases x with
    |s y=>exact main
    |tup l=>
     cases l with
     |nil=>rfl
     |cons y l=>exact main
theorem Wpz{R:Type}{o:Oper}{st:St}{k:St->Option R}{r:R}(h:rxg T Γ A ops o st k=some r):∃ae,rxg T Γ A ops o st some=some ae/\k ae=some r:=by
 rw[Wvk]at h;exact Xbx.1 h
structure Eff(o:Oper)(v:AVal)(pre:Wak)(ah:Nat)(st ae:St):Prop where
 env:∀t,look ae.env t=if o.dst=some t then some v else look st.env t
 objs:ae.objs=pre++st.objs
 nx:ae.nx=ah
theorem Wdi(st:St)(dst:Option Tmp)(x:AVal)(t:Nat):look (st.put dst x).env t=if dst=some t then some x else look st.env t:=by
 cases dst with
 |none=>simp[St.put]
 |some d=>
  simp only[St.put];rw[WL];by_cases h:d=t
  .subst h;simp
  .rw[Wa h,Wa (by simpa using h)]
theorem Wfs{st ai:St}{x:Operand}(h:∀t∈Wud x,look ai.env t=look st.env t):ev ai x=ev st x:=by
 cases x with
 |tmp t=>exact h t (by simp[Wud])
 |_=>rfl
theorem Whp{st:St}{x:Operand}{v:AVal}:∀(l:List Operand),x∈l->ev st x=some v->∀id∈Wbd v,id∈WeB st l
 | [],h,_,_,_=>by cases h
 |y::l,h,hv,id,bv=>by
  simp only[WeB];rcases Xq.1 h with rfl|h
  .rw[hv];exact Xl _ bv
  .split
   .exact Xh _ (Whp l h hv id bv)
   .exact Whp l h hv id bv
theorem Wgz{st ai:St}:∀(l:List Operand),(∀x∈l,ev ai x=ev st x)->WeB ai l=WeB st l
 | [],_=>rfl
 |x::l,h=>by simp only[WeB,h x (Xg ..),Wgz l λy hy=>h y (Xe _ hy)]
theorem Wtr{o:Oper}{st ae ai:St}(h:rx1 T Γ A o st some=some ae)(he:∀x∈Wai o.op,ev ai x=ev st x)
  (hm:Wa2 o=true->ai.objs=st.objs/\ai.nx=st.nx) (hf:Wa2 o=false->∀id∈Wc0 o st,look ai.objs id=look st.objs id):
  ∃v pre ah,Eff o v pre ah st ae/\(Wa2 o=false->pre= []/\ah=st.nx)/\
   ∃bH,rx1 T Γ A o ai some=some bH/\(Wa2 o=true->Eff o v pre ah ai bH)/\(Wa2 o=false->Eff o v [] ai.nx ai bH):=by
 unfold rx1 at*;rw[Wgt]at h;obtain⟨⟨v,objs',ah⟩,h1,h2⟩:=Xbx.1 h;injection h2 with h2;subst h2;cases dM:Wa2 o with
 |true=>
  obtain⟨e1,e2⟩:=hm dM;obtain⟨pre,rfl⟩:=WqM o st v objs' ah h1;refine⟨v,pre,ah,⟨λt=>Wdi _ _ _ _,by cases o.dst<;>rfl,by cases o.dst<;>rfl⟩,by simp,?_⟩;have h3:rxe T Γ A o ai Wc5=some (v,pre++st.objs,ah):=by
   obtain⟨u4,xl,nx2⟩:=ai;simp only at e1 e2;subst e1 e2;rw[Wtv o (env:=u4) (st:=st) Wc5 he];exact h1
  refine⟨_,?_,λ_=>⟨λt=>Wdi (⟨ai.env,pre++st.objs,ah⟩) o.dst v t,?_,?_⟩,by simp⟩
  .rw[Wgt,h3];rfl
  .rw[e1];cases o.dst<;>rfl
  .cases o.dst<;>rfl
 |false=>
  rw[Wng dM]at h1;obtain⟨u,h3,h4⟩:=Xbx.1 h1;injection h4 with h4;have e1:u=v:=Wk (λp:Out=>p.1) h4;have e2:st.objs=objs':=Wk (λp:Out=>p.2.1) h4;have e3:st.nx=ah:=Wk (λp:Out=>p.2.2) h4;subst e1 e2 e3;refine⟨u,[],st.nx,⟨λt=>Wdi _ _ _ _,by cases o.dst<;>rfl,by cases o.dst<;>rfl⟩,by simp,?_⟩;have h5:WvS T o ai=some u:=by
   rw[←h3];refine Wro dM he λzl x hx v hv id bv=>hf dM id ?_;unfold Wc0;rw[zl];exact Whp _ hx hv id bv
  refine⟨_,?_,by simp,λ_=>⟨λt=>Wdi (⟨ai.env,ai.objs,ai.nx⟩) o.dst u t,?_,?_⟩⟩
  .rw[Wgt,Wng dM,h5];rfl
  .cases o.dst<;>rfl
  .cases o.dst<;>rfl
theorem Ww5{x:AVal}{b:Bool}(h:asB x=some b):x=one .bool b:=by
 unfold asB at h;split at h
 .injection h with h;subst h;rfl
 .cases h
theorem WdP{st:St}{t:Nat}{x:AVal}(h:look st.env t=some x)(t':Nat):look (st.put (some t) x).env t'=look st.env t':=by
 rw[Wdi];split
 .rename_i e;injection e with e;subst e;exact h.symm
 .rfl
theorem WdT(st:St)(d:Option Tmp)(x:AVal):(st.put d x).objs=st.objs:=by cases d<;>rfl
theorem Wjh(st:St)(d:Option Tmp)(x:AVal):(st.put d x).nx=st.nx:=by cases d<;>rfl
theorem Wgx{o:Oper}{st ai:St}(h:∀x∈Wai o.op,ev ai x=ev st x):Wc0 o ai=Wc0 o st:=by
 unfold Wc0;rw[Wgz _ h]
theorem WsX{o:Oper}{st ae ai:St}(h:rxg T Γ A ops o st some=some ae)(he:∀t∈Wdu ops o,look ai.env t=look st.env t)
  (hm:Wa2 o=true->ai.objs=st.objs/\ai.nx=st.nx) (hf:Wa2 o=false->∀id∈Wc0 o st,look ai.objs id=look st.objs id):
  ∃v pre ah,Eff o v pre ah st ae/\(Wa2 o=false->pre= []/\ah=st.nx)/\
   ∃bH,rxg T Γ A ops o ai some=some bH/\(Wa2 o=true->Eff o v pre ah ai bH)/\(Wa2 o=false->Eff o v [] ai.nx ai bH):=by
 have xm:∀x∈Wai o.op,ev ai x=ev st x:=λx hx=>Wfs λt ht=>he t (by
  unfold Wdu;exact Xl _ (Xgg.2 ⟨x,hx,ht⟩))
 unfold rxg at h⊢;cases hg:o.guard with
 |none=>
  rw[hg]at h;exact Wtr h xm hm hf
 |some g=>
  obtain⟨j,want⟩:=g;rw[hg]at h;simp only at h⊢;cases ht:(ops[j]?).bind (·.dst)with
  |none=>rw[ht]at h;cases h
  |some t=>
   rw[ht]at h;simp only at h⊢;have iy:look ai.env t=look st.env t:=he t (by
    unfold Wdu;refine Xh _ ?_;rw[hg];simp only;rw[ht];simp)
   rw[iy];cases hx:look st.env t with
   |none=>rw[hx]at h;cases h
   |some x=>
    rw[hx]at h;have skip:∀(s s2:St) (s':St),some (s.put o.dst (.tup []))=some s'->(∀t,look s.env t=look st.env t)->s.objs=st.objs->s.nx=st.nx->(∀t,look s2.env t=look ai.env t)->s2.objs=ai.objs->s2.nx=ai.nx->
      ∃v pre ah,Eff o v pre ah st s'/\(Wa2 o=false->pre= []/\ah=st.nx)/\
       ∃bH,some (s2.put o.dst (.tup []))=some bH/\(Wa2 o=true->Eff o v pre ah ai bH)/\(Wa2 o=false->Eff o v [] ai.nx ai bH):=by
     intro s s2 s' hs a1 a2 a3 b1 b2 b3;injection hs with hs;subst hs;refine⟨.tup [],[],st.nx,⟨λt=>?_,by rw[WdT,a2];rfl,by rw[Wjh,a3]⟩,λ_=>⟨rfl,rfl⟩,_,rfl,λdM=>⟨λt=>?_,by rw[WdT,b2];rfl,by rw[Wjh,b3];exact(hm dM).2⟩,λ_=>⟨λt=>?_,by rw[WdT,b2];rfl,by rw[Wjh,b3]⟩⟩
     .rw[Wdi,a1]
     .rw[Wdi,b1]
     .rw[Wdi,b1]
    have doit:∀b:Bool,x=one .bool b->rx1 T Γ A o (st.put (some t) (one .bool b)) some=some ae->
      ∃v pre ah,Eff o v pre ah st ae/\(Wa2 o=false->pre= []/\ah=st.nx)/\
       ∃bH,rx1 T Γ A o (ai.put (some t) (one .bool b)) some=some bH/\(Wa2 o=true->Eff o v pre ah ai bH)/\(Wa2 o=false->Eff o v [] ai.nx ai bH):=by
     intro b hb h1;subst hb;have l1:=WdP hx;have l2:=WdP (st:=ai) (t:=t) (x:=one .bool b) (by rw[iy];exact hx);have rP:∀x∈Wai o.op,ev (st.put (some t) (one .bool b)) x=ev st x:=λx hx=>Wfs λt' _=>l1 t';have u5:∀x∈Wai o.op,ev (ai.put (some t) (one .bool b)) x=ev ai x:=λx hx=>Wfs λt' _=>l2 t';obtain⟨v,pre,ah,e1,e2,bH,e3,e4,e5⟩:=Wtr (ai:=ai.put (some t) (one .bool b)) h1 (λx hx=>by rw[u5 x hx,rP x hx,xm x hx])
      (λdM=>hm dM) (λgh id bv=>hf gh id (by rw[←Wgx rP];exact bv))
     refine⟨v,pre,ah,⟨λt'=>by rw[e1.env,l1],e1.objs,e1.nx⟩,e2,bH,e3,λdM=>⟨λt'=>by rw[(e4 dM).env,l2],(e4 dM).objs,(e4 dM).nx⟩,λdM=>⟨λt'=>by rw[(e5 dM).env,l2],(e5 dM).objs,(e5 dM).nx⟩⟩
    have main:(match asB x with
      |some b=>bif b
       then(if want then rx1 T Γ A o (st.put (some t) (one .bool true)) some else some ((st.put (some t) (one .bool true)).put o.dst (.tup [])))
       else(if want then some ((st.put (some t) (one .bool false)).put o.dst (.tup []))else rx1 T Γ A o (st.put (some t) (one .bool false)) some)
      |none=>none)=some ae->∃v pre ah,Eff o v pre ah st ae/\(Wa2 o=false->pre= []/\ah=st.nx)/\
       ∃bH,(match asB x with
      |some b=>bif b
       then(if want then rx1 T Γ A o (ai.put (some t) (one .bool true)) some else some ((ai.put (some t) (one .bool true)).put o.dst (.tup [])))
       else(if want then some ((ai.put (some t) (one .bool false)).put o.dst (.tup []))else rx1 T Γ A o (ai.put (some t) (one .bool false)) some)
      |none=>none)=some bH/\(Wa2 o=true->Eff o v pre ah ai bH)/\(Wa2 o=false->Eff o v [] ai.nx ai bH):=by
     intro h;cases hb:asB x with
     |none=>rw[hb]at h;cases h
     |some b=>
      rw[hb]at h;have dS:=Ww5 hb;have r1:∀b',b'=b->∀t',look (st.put (some t) (one .bool b')).env t'=look st.env t':=λb' e=>by subst e;exact WdP (by rw[hx,dS])
      have r2:∀b',b'=b->∀t',look (ai.put (some t) (one .bool b')).env t'=look ai.env t':=λb' e=>by subst e;exact WdP (by rw[iy,hx,dS])
      cases b<;>cases want
      .exact doit false dS h
      .exact skip _ _ _ h (r1 _ rfl) (WdT _ _ _) (Wjh _ _ _) (r2 _ rfl) (WdT _ _ _) (Wjh _ _ _)
      .exact skip _ _ _ h (r1 _ rfl) (WdT _ _ _) (Wjh _ _ _) (r2 _ rfl) (WdT _ _ _) (Wjh _ _ _)
      .exact doit true dS h
    cases x with
    |s y=>exact main h
    |tup l=>
     cases l with
     |nil=>exact skip st ai ae h (λ_=>rfl) rfl rfl (λ_=>rfl) rfl rfl
     |cons y l=>exact main h
end
end Go.Sx
namespace Go.Sx
set_option linter.unusedVariables false
set_option linter.unusedSimpArgs false
structure Rc where
 i:Nat
 v:AVal
 pre:Wak
 nx:Nat
 ids:List Nat
 mv:Bool
section
variable{T:Tab}{Γ:Ctx}{A:List (Nat×An)}{ops:Array Oper}
structure StepTo(T:Tab)(Γ:Ctx)(A:List (Nat×An))(ops:Array Oper)(ρ:Rc)(o:Oper)(st ae:St):Prop where
 at_:ops[ρ.i]?=some o
 isM:ρ.mv=Wa2 o
 lk:ρ.mv=false->ρ.ids=Wc0 o st
 run:rxg T Γ A ops o st some=some ae
 env:∀t,look ae.env t=if o.dst=some t then some ρ.v else look st.env t
 objs:ae.objs=if ρ.mv then ρ.pre++st.objs else st.objs
 nx:ae.nx=if ρ.mv then ρ.nx else st.nx
def Ww1(T:Tab)(Γ:Ctx)(A:List (Nat×An))(ops:Array Oper):List Rc->St->St->Prop
 | [],st,ae=>st=ae
 |ρ::l,st,ae=>∃o dx,StepTo T Γ A ops ρ o st dx/\Ww1 T Γ A ops l dx ae
theorem Wtm{i:Nat}{o:Oper}{st ae:St}(hi:ops[i]?=some o)(h:rxg T Γ A ops o st some=some ae):
  ∃ρ:Rc,ρ.i=i/\StepTo T Γ A ops ρ o st ae:=by
 obtain⟨v,pre,ah,e1,e2,_⟩:=WsX (ai:=st) h (λ_ _=>rfl) (λ_=>⟨rfl,rfl⟩) (λ_ _ _=>rfl);refine⟨⟨i,v,pre,ah,Wc0 o st,Wa2 o⟩,rfl,hi,rfl,λ_=>rfl,h,e1.env,?_,?_⟩
 .simp only;cases hm:Wa2 o with
  |true=>simpa using e1.objs
  |false=>rw[e1.objs,(e2 hm).1];rfl
 .simp only;cases hm:Wa2 o with
  |true=>simpa using e1.nx
  |false=>rw[e1.nx,(e2 hm).2];rfl
theorem StepTo.move{ρ:Rc}{o:Oper}{st ae ai:St}(h:StepTo T Γ A ops ρ o st ae)(he:∀t∈Wdu ops o,look ai.env t=look st.env t)
  (hm:ρ.mv=true->ai.objs=st.objs/\ai.nx=st.nx) (hf:ρ.mv=false->∀id∈ρ.ids,look ai.objs id=look st.objs id):
  ∃bH,StepTo T Γ A ops ρ o ai bH:=by
 obtain⟨v,pre,ah,e1,e2,bH,e3,e4,e5⟩:=WsX (ai:=ai) h.run he (λdM=>hm (by rw[h.isM];exact dM)) (λgh id bv=>hf (by rw[h.isM];exact gh) id (by rw[h.lk (by rw[h.isM];exact gh)];exact bv));have hv:∀t,o.dst=some t->v=ρ.v:=λt ht=>by
  have a:=e1.env t;have b:=h.env t;rw[Wb ht]at a b;rw[a]at b;injection b
 have ux:ρ.mv=false->Wc0 o ai=Wc0 o st:=λ_=>Wgx λx hx=>Wfs λt ht=>he t (by
  unfold Wdu;exact Xl _ (Xgg.2 ⟨x,hx,ht⟩))
 cases dM:Wa2 o with
 |true=>
  have hρ:ρ.mv=true:=by rw[h.isM];exact dM
  have e4:=e4 dM;obtain⟨q1,q2⟩:=hm hρ;refine⟨bH,h.at_,h.isM,λhf=>(by rw[hρ]at hf;cases hf),e3,λt=>?_,?_,?_⟩
  .rw[e4.env];split
   .rename_i ht;rw[hv t ht]
   .rfl
  .rw[e4.objs,hρ];simp only[Waq];have a:=e1.objs;have b:=h.objs;rw[hρ]at b;simp only[Waq]at b;rw[a]at b;rw[List.append_cancel_right b]
  .rw[e4.nx,hρ];simp only[Waq];have a:=e1.nx;have b:=h.nx;rw[hρ]at b;simp only[Waq]at b;rw[←a,b]
 |false=>
  have hρ:ρ.mv=false:=by rw[h.isM];exact dM
  have e5:=e5 dM;refine⟨bH,h.at_,h.isM,λhf=>by rw[ux hρ];exact h.lk hρ,e3,λt=>?_,?_,?_⟩
  .rw[e5.env];split
   .rename_i ht;rw[hv t ht]
   .rfl
  .rw[e5.objs,hρ];rfl
  .rw[e5.nx,hρ];rfl
def Wu6(ids:List Nat)(pre:Wak):Prop:=∀id∈ids,id∉WhX pre
def Wyx(B:List (List Nat))(x y:Rc):Prop:=
 (x.mv=false->y.mv=true->Wdd B x.i y.i=true\/Wu6 x.ids y.pre)/\
 (x.mv=true->y.mv=false->Wdd B x.i y.i=true\/Wu6 y.ids x.pre)
theorem WeW{α:Type}:∀(l:List Nat) (k:List Nat->α),Wgw l k=k l
 | [],_=>rfl
 |x::l,k=>by rw[Wgw,WeW l]
theorem Wn8{α:Type}:∀(l:List (List Nat)) (k:List (List Nat)->α),Wqb l k=k l
 | [],_=>rfl
 |x::l,k=>by rw[Wqb,WeW,Wn8 l]
theorem Wj2{ids:List Nat}{pre:Wak}(h:Wg8 ids (WhX pre)=true):Wu6 ids pre:=λid bv hk=>by
 unfold Wg8 at h;have:=Xag.1 h id bv;rw[(WaY id _).2 hk]at this;cases this
theorem WrI(pre objs:Wak):WsM objs (pre++objs)=WhX pre:=by
 unfold WsM;simp
theorem Wmk{B:List (List Nat)}{R:Type}{k:St->Option R}{r:R}:∀(l:List Nat) (fl mu:List (Nat×List Nat)) (st:St),rdx T Γ A ops B l fl mu st k=some r->
  ∃(rs:List Rc) (ae:St),rs.map (·.i)=l/\Ww1 T Γ A ops rs st ae/\k ae=some r/\rs.Pairwise (Wyx B)/\
   (∀p∈fl,∀ρ∈rs,ρ.mv=true->Wdd B p.1 ρ.i=true\/Wu6 p.2 ρ.pre)/\
   (∀p∈mu,∀ρ∈rs,ρ.mv=false->Wdd B p.1 ρ.i=true\/Wg8 ρ.ids p.2=true)
 | [],fl,mu,st,h=>⟨[],st,rfl,rfl,h,List.Pairwise.nil,by simp,by simp⟩
 |i::l,fl,mu,st,h=>by
  simp only[rdx]at h;cases ho:ops[i]? with
  |none=>rw[ho]at h;cases h
  |some o=>
   rw[ho]at h;simp only at h;cases hm:Wa2 o with
   |true=>
    simp only[hm,We]at h;obtain⟨dx,h1,h2⟩:=Wpz h;rw[WeW]at h2;obtain⟨ke,h2⟩:=WaW h2;obtain⟨ρ,hi,hs⟩:=Wtm ho h1;have hρ:ρ.mv=true:=by rw[hs.isM];exact hm
    have aw:=hs.objs;rw[hρ]at aw;simp only[Waq]at aw;rw[aw,WrI]at ke h2;obtain⟨rs,ae,q1,q2,q3,q4,q5,q6⟩:=Wmk l _ _ _ h2;refine⟨ρ::rs,ae,by simp[hi,q1],⟨o,dx,hs,q2⟩,q3,List.Pairwise.cons (λy hy=>⟨λhf=>(by rw[hρ]at hf;cases hf),λ_ nS=>?_⟩) q4,λp hp y hy nT=>?_,λp hp y hy nS=>?_⟩
    .rcases q6 (i,WhX ρ.pre) (Xg ..) y hy nS with h|h
     .rw[hi];exact .inl h
     .exact .inr (Wj2 h)
    .rcases Xq.1 hy with rfl|hy
     .have:=Xag.1 ke p hp;rw[Xcb]at this;rw[hi];exact this.imp id Wj2
     .exact q5 p hp y hy nT
    .rcases Xq.1 hy with rfl|hy
     .rw[hρ]at nS;cases nS
     .exact q6 p (Xe _ hp) y hy nS
   |false=>
    simp only[hm,Wc]at h;rw[WeW]at h;obtain⟨ke,h⟩:=WaW h;obtain⟨dx,h1,h2⟩:=Wpz h;obtain⟨ρ,hi,hs⟩:=Wtm ho h1;have hρ:ρ.mv=false:=by rw[hs.isM];exact hm
    have u6:=hs.lk hρ;rw[←u6]at ke h2;obtain⟨rs,ae,q1,q2,q3,q4,q5,q6⟩:=Wmk l _ _ _ h2;refine⟨ρ::rs,ae,by simp[hi,q1],⟨o,dx,hs,q2⟩,q3,List.Pairwise.cons (λy hy=>⟨λ_ nT=>?_,λhf=>(by rw[hρ]at hf;cases hf)⟩) q4,λp hp y hy nT=>?_,λp hp y hy nS=>?_⟩
    .rw[hi];exact q5 (i,ρ.ids) (Xg ..) y hy nT
    .rcases Xq.1 hy with rfl|hy
     .rw[hρ]at nT;cases nT
     .exact q5 p (Xe _ hp) y hy nT
    .rcases Xq.1 hy with rfl|hy
     .have:=Xag.1 ke p hp;rw[Xcb]at this;rw[hi];exact this
     .exact q6 p hp y hy nS
def Wer(ops:Array Oper)(i:Nat):Option Tmp:=(ops[i]?).bind (·.dst)
def WqF(ops:Array Oper):List Rc->(Nat->Option AVal)->Nat->Option AVal
 | [],e,t=>e t
 |ρ::a,e,t=>WqF ops a (λt'=>if Wer ops ρ.i=some t' then some ρ.v else e t') t
def WhZ:List Rc->Wak×Nat->Wak×Nat
 | [],m=>m
 |ρ::a,m=>WhZ a (if ρ.mv then(ρ.pre++m.1,ρ.nx)else m)
theorem Whj:∀(rs:List Rc) (st ae:St),Ww1 T Γ A ops rs st ae->(∀t,look ae.env t=WqF ops rs (look st.env) t)/\(ae.objs,ae.nx)=WhZ rs (st.objs,st.nx)
 | [],st,ae,h=>by cases h;exact⟨λ_=>rfl,rfl⟩
 |ρ::rs,st,ae,⟨o,dx,hs,h⟩=>by
  obtain⟨h1,h2⟩:=Whj rs dx ae h;have e:(look dx.env)= λt'=>if Wer ops ρ.i=some t' then some ρ.v else look st.env t':=funext λt=>by
   rw[hs.env];unfold Wer;rw[hs.at_];rfl
  refine⟨λt=>by rw[h1,e];rfl,?_⟩;rw[h2,WhZ];congr 1;rw[hs.objs,hs.nx];split<;>rfl
theorem Wj3:∀(a:List Rc) (ρ:Rc) (b:List Rc) (st ae:St),Ww1 T Γ A ops (a++ρ::b) st ae->∃o dx ai,Ww1 T Γ A ops a st dx/\StepTo T Γ A ops ρ o dx ai
 | [],ρ,b,st,ae,⟨o,dx,hs,h⟩=>⟨o,st,dx,rfl,hs⟩
 |x::a,ρ,b,st,ae,⟨o,dx,hs,h⟩=>by
  obtain⟨o',s1,s2,h1,h2⟩:=Wj3 a ρ b dx ae h;exact⟨o',s1,s2,⟨o,dx,hs,h1⟩,h2⟩
theorem WbM:∀(a:List Rc) (m:Wak×Nat),WhZ a m=WhZ (a.filter (·.mv)) m
 | [],_=>rfl
 |ρ::a,m=>by
  rw[WhZ,WbM a,Xbj];cases h:ρ.mv with
  |true=>simp only[Waq,WhZ,h]
  |false=>simp only[Xbh,Wau]
theorem Wef:∀(a b:List Rc) (m:Wak×Nat),WhZ (a++b) m=WhZ b (WhZ a m)
 | [],_,_=>rfl
 |ρ::a,b,m=>by rw[Xba,WhZ,Wef a b];rfl
theorem Wji{pre objs:Wak}{id:Nat}(h:id∉WhX pre):look (pre++objs) id=look objs id:=by
 induction pre with
 |nil=>rfl
 |cons p pre ih=>
  obtain⟨j,ob⟩:=p;simp only[WhX,Xae,Xq,not_or]at h;rw[Xba,WL,Wa (λe=>h.1 e.symm)];exact ih h.2
theorem Wit{id:Nat}:∀(a:List Rc) (m:Wak×Nat),(∀ρ∈a,ρ.mv=true->id∉WhX ρ.pre)->look (WhZ a m).1 id=look m.1 id
 | [],_,_=>rfl
 |ρ::a,m,h=>by
  rw[WhZ,Wit a _ λx hx=>h x (Xe _ hx)];split
  .rename_i hm;exact Wji (h ρ (Xg ..) hm)
  .rfl
def WlM(ops:Array Oper):Prop:=∀i j t,Wer ops i=some t->Wer ops j=some t->i=j
theorem Wgu{t:Nat}:∀(a:List Rc) (e:Nat->Option AVal),(∀ρ∈a,Wer ops ρ.i≠some t)->WqF ops a e t=e t
 | [],_,_=>rfl
 |ρ::a,e,h=>by
  rw[WqF,Wgu a _ λx hx=>h x (Xe _ hx),Wa (h ρ (Xg ..))]
theorem Wju{t:Nat}(h1:WlM ops):∀(a:List Rc) (e:Nat->Option AVal),(a.map (·.i)).Nodup->∀ρ∈a,Wer ops ρ.i=some t->WqF ops a e t=some ρ.v
 | [],_,_,_,h,_=>by cases h
 |x::a,e,hn,ρ,hρ,ht=>by
  rw[Xae,Xai]at hn;rw[WqF];rcases Xq.1 hρ with rfl|hρ
  .rw[Wgu a _ λy hy zm=>hn.1 (by rw[h1 _ _ _ ht zm];exact Xw.2 ⟨y,hy,rfl⟩),Wb ht]
  .exact Wju h1 a _ hn.2 ρ hρ ht
theorem WkC{t:Nat}(h1:WlM ops){a b:List Rc}{e:Nat->Option AVal}(ha:(a.map (·.i)).Nodup)(hb:(b.map (·.i)).Nodup)
  (h:∀ρ,Wer ops ρ.i=some t->(ρ∈a↔ρ∈b)):WqF ops a e t=WqF ops b e t:=by
 by_cases hx:∃ρ∈a,Wer ops ρ.i=some t
 .obtain⟨ρ,hρ,ht⟩:=hx;rw[Wju h1 a e ha ρ hρ ht,Wju h1 b e hb ρ ((h ρ ht).1 hρ) ht]
 .rw[Wgu a e λρ hρ ht=>hx ⟨ρ,hρ,ht⟩,Wgu b e λρ hρ ht=>hx ⟨ρ,(h ρ ht).2 hρ,ht⟩]
end
end Go.Sx
namespace Go.Sx
set_option linter.unusedVariables false
set_option linter.unusedSimpArgs false
theorem Wgd{α:Type}{x:α}:∀{a c b d:List α},(a++x::b).Nodup->a++x::b=c++x::d->a=c
 | [],[],_,_,_,_=>rfl
 | [],y::c,b,d,hn,h=>by
  simp only[Xbn,Xba,List.cons.injEq]at h;obtain⟨rfl,h⟩:=h;rw[Xbn,Xai]at hn;exact Wi (by rw[h];simp) hn.1
 |y::a,[],b,d,hn,h=>by
  simp only[Xbn,Xba,List.cons.injEq]at h;obtain⟨rfl,h⟩:=h;rw[Xba,Xai]at hn;exact Wi (by simp) hn.1
 |y::a,z::c,b,d,hn,h=>by
  simp only[Xba,List.cons.injEq]at h;obtain⟨rfl,h⟩:=h;rw[Xba,Xai]at hn;rw[Wgd hn.2 h]
def WaU(ops:Array Oper)(i:Nat):Bool:=match ops[i]? with
 |some o=>Wa2 o
 |none=>false
theorem Rel.same{w0:World}{F:CS}{nt:Slots}{G0 G:GH}{ν:Nat->Nu}{st ai:St}{a:Act}{w:World}(h:Rel w0 F nt G0 G ν st a w)
  (he:∀t,look ai.env t=look st.env t) (ho:ai.objs=st.objs) (hn:ai.nx=st.nx):Rel w0 F nt G0 G ν ai a w:=
 ⟨h.defers,h.ntm,h.par,λi x hx=>by rw[he]at hx;rw[hn];exact h.env i x hx,by rw[ho,hn];exact h.h,h.gx⟩
theorem Wwi:∀(rs:List Rc),(rs.map (·.i)).Nodup->∃rec:Nat->Rc,∀ρ∈rs,rec ρ.i=ρ
 | [],_=>⟨λi=>⟨i,.tup [],[],0,[],false⟩,by simp⟩
 |ρ::rs,h=>by
  rw[Xae,Xai]at h;obtain⟨rec,hr⟩:=Wwi rs h.2;refine⟨λi=>if i=ρ.i then ρ else rec i,λx hx=>?_⟩;rcases Xq.1 hx with rfl|hx
  .simp
  .simp only;rw[Wa (λe=>h.1 (by rw[←e];exact Xw.2 ⟨x,hx,rfl⟩))];exact hr x hx
section
variable{w0:World}{F:CS}{nt:Slots}{G0:GH}{P:Program}{T:Tab}{Γ:Ctx}{A:List (Nat×An)}{ops:Array Oper}{Q:Exit->Act->World->Prop}
theorem WtB(hT:Wap P T)(hΓ:Wfw P Γ)(hd:∀o∈ops,∀d,o.dst=some d->nt.Ok d){l L:List Nat}(hl:Order ops l)(hL:Order ops L)(dS:WlM ops)
  (hsl:∀(i:Nat) (o:Oper) (t:Nat),ops[i]?=some o->t∈Wdu ops o->∀j,Wer ops j=some t->j=i\/Wdd (WeD ops.toList []) j i=true\/Wdd (WeD ops.toList []) i j=true)
  (hσ:l.filter (WaU ops)=L.filter (WaU ops)) {rs:List Rc} {st ae:St} (iZ:rs.map (·.i)=L) (kg:Ww1 T Γ A ops rs st ae) (bW:rs.Pairwise (Wyx (WeD ops.toList [])))
  (hK:∀a w G ν,Rel w0 F nt G0 G ν ae a w->Q .normal a w) {a:Act} {w:World} {G:GH} {ν:Nat->Nu} (hr:Rel w0 F nt G0 G ν st a w):wpOps P ops Q l a w:=by
 have aP:(rs.map (·.i)).Nodup:=by rw[iZ];exact hL.nodup
 obtain⟨rec,bn⟩:=Wwi rs aP;have hLr:L.map rec=rs:=by
  rw[←iZ,Xek]
  conv=>rhs;rw[←List.map_id rs]
  exact Xee λρ hρ=>bn ρ hρ
 have iz:∀i,i∈l↔i∈L:=λi=>by rw[←hl.all,hL.all]
 have ja:∀i∈L,(rec i).i=i/\rec i∈rs:=λi hi=>by
  rw[←iZ]at hi;obtain⟨ρ,hρ,rfl⟩:=Xw.1 hi;rw[bn ρ hρ];exact⟨rfl,hρ⟩
 have kh:∀i∈L,∃pre post o dx ai,L=pre++i::post/\Ww1 T Γ A ops (pre.map rec) st dx/\StepTo T Γ A ops (rec i) o dx ai:=λi hi=>by
  obtain⟨pre,post,e⟩:=Xeg hi;have:rs=pre.map rec++rec i::post.map rec:=by rw[←hLr,e];simp
  rw[this]at kg;obtain⟨o,dx,ai,h1,h2⟩:=Wj3 _ _ _ _ _ kg;exact⟨pre,post,o,dx,ai,e,h1,h2⟩
 have gg:∀i∈L,(rec i).mv=WaU ops i:=λi hi=>by
  obtain⟨pre,post,o,dx,ai,e,h1,h2⟩:=kh i hi;rw[h2.isM];have:=h2.at_;rw[(ja i hi).1]at this;unfold WaU;rw[this]
 have fo:∀(p:List Nat),(∀i∈p,i∈L)->(p.map rec).filter (·.mv)=(p.filter (WaU ops)).map rec:=by
  intro p
  induction p with
  |nil=>intro _;rfl
  |cons i p ih=>
   intro h;have:=ih λj hj=>h j (Xe _ hj);rw[Xae,Xbj,Xbj,gg i (h i (Xg ..))];split
   .rw[Xae,this]
   .exact this
 have nU:∀(p:List Nat),(∀i∈p,i∈L)->(p.map rec).map (·.i)=p:=by
  intro p h;rw[Xek]
  conv=>rhs;rw[←List.map_id p]
  exact Xee λi hi=>(ja i (h i hi)).1
 have gV:∀(p:List Nat),(∀i∈p,i∈L)->∀i∈L,(rec i∈p.map rec↔i∈p):=λp hp i hi=>by
  constructor
  .intro h;obtain⟨j,hj,e⟩:=Xw.1 h;have:j=i:=by rw[←(ja j (hp j hj)).1,←(ja i hi).1,e]
   rw[←this];exact hj
  .exactλh=>Xw.2 ⟨i,h,rfl⟩
 have mP:∀i j pre post,L=pre++i::post->j∈post->Wyx (WeD ops.toList []) (rec i) (rec j):=λi j pre post e hj=>by
  have:rs=pre.map rec++rec i::post.map rec:=by rw[←hLr,e];simp
  rw[this,List.pairwise_append]at bW;exact(List.pairwise_cons.1 bW.2.1).1 _ (Xw.2 ⟨j,hj,rfl⟩)
 suffices main:∀(s p:List Nat),l=p++s->∀(ai:St) (a:Act) (w:World) (G:GH) (ν:Nat->Nu),Rel w0 F nt G0 G ν ai a w->
   (∀t,look ai.env t=WqF ops (p.map rec) (look st.env) t)->(ai.objs,ai.nx)=WhZ (p.map rec) (st.objs,st.nx)->wpOps P ops Q s a w from
  main l [] rfl st a w G ν hr (λ_=>rfl) rfl
 intro s
 induction s with
 |nil=>
  intro p e ai a w G ν gX he hm;rw[Xdb]at e;subst e;obtain⟨f1,f2⟩:=Whj _ _ _ kg;have rQ:∀i∈l,i∈L:=λi hi=>(iz i).1 hi;refine hK a w G ν (gX.same (λt=>?_) ?_ ?_)
  .rw[f1,he];refine WkC dS aP (by rw[nU l rQ];exact hl.nodup) λρ _=>?_;constructor
   .intro hρ;have hi:ρ.i∈L:=by rw[←iZ];exact Xw.2 ⟨ρ,hρ,rfl⟩
    rw[←bn ρ hρ];exact(gV l rQ ρ.i hi).2 ((iz _).2 hi)
   .intro hρ;obtain⟨i,hi,rfl⟩:=Xw.1 hρ;exact(ja i (rQ i hi)).2
  .have:WhZ (l.map rec) (st.objs,st.nx)=WhZ rs (st.objs,st.nx):=by
    rw[WbM,fo l rQ,hσ,←fo L (λi hi=>hi),←WbM,hLr]
   rw[this,←f2]at hm;exact(Wk (·.1) hm).symm
  .have:WhZ (l.map rec) (st.objs,st.nx)=WhZ rs (st.objs,st.nx):=by
    rw[WbM,fo l rQ,hσ,←fo L (λi hi=>hi),←WbM,hLr]
   rw[this,←f2]at hm;exact(Wk (·.2) hm).symm
 |cons i s ih=>
  intro p e ai a w G ν gX he hm;have qE:i∈L:=(iz i).1 (by rw[e];simp);have rR:∀j∈p,j∈L:=λj hj=>(iz j).1 (by rw[e];exact Xl _ hj);obtain⟨pre,post,o,dx,zn,eL,h1,h2⟩:=kh i qE;have iA:∀j∈pre,j∈L:=λj hj=>by rw[eL];exact Xl _ hj
  have nV:ops[i]?=some o:=by have:=h2.at_;rw[(ja i qE).1]at this;exact this
  obtain⟨g1,g2⟩:=Whj _ _ _ h1;have lI:=hl.nodup;have lJ:=hL.nodup;rw[e]at lI;rw[eL]at lJ;have rS:i∉p:=λh=>(Xaj.1 lI).2.2 i h i (Xg ..) rfl;have iB:i∉pre:=λh=>(Xaj.1 lJ).2.2 i h i (Xg ..) rfl;have nW:∀t∈Wdu ops o,look ai.env t=look dx.env t:=λt ht=>by
   rw[he,g1];refine WkC dS (by rw[nU p rR];exact(Xaj.1 lI).1) (by rw[nU pre iA];exact(Xaj.1 lJ).1) λρ hρt=>?_;have key:∀j∈L,Wer ops j=some t->(j∈p↔j∈pre):=λj hj uP=>by
    rcases hsl i o t nV ht j uP with rfl|hb|hb
    .exact⟨λh=>Wi h rS,λh=>Wi h iB⟩
    .by_cases lK:j=i
     .subst lK;exact⟨λh=>Wi h rS,λh=>Wi h iB⟩
     .exact⟨λ_=>hL.bef' eL hb lK,λ_=>hl.bef' e hb lK⟩
    .exact⟨λh=>Wi (hl.bef e hb h) rS,λh=>Wi (hL.bef eL hb h) iB⟩
   constructor
   .intro hρ;obtain⟨j,hj,rfl⟩:=Xw.1 hρ;have rT:=rR j hj;rw[(ja j rT).1]at hρt;exact Xw.2 ⟨j,(key j rT hρt).1 hj,rfl⟩
   .intro hρ;obtain⟨j,hj,rfl⟩:=Xw.1 hρ;have rT:=iA j hj;rw[(ja j rT).1]at hρt;exact Xw.2 ⟨j,(key j rT hρt).2 hj,rfl⟩
  have xn:WhZ (p.map rec) (st.objs,st.nx)=WhZ ((p.filter (WaU ops)).map rec) (st.objs,st.nx):=by rw[WbM,fo p rR]
  have mQ:WhZ (pre.map rec) (st.objs,st.nx)=WhZ ((pre.filter (WaU ops)).map rec) (st.objs,st.nx):=by rw[WbM,fo pre iA]
  obtain⟨zo,h3⟩:=h2.move (ai:=ai) nW (λdM=>by
   have rU:WaU ops i=true:=by rw[←gg i qE];exact dM
   have:p.filter (WaU ops)=pre.filter (WaU ops):=by
    have q:=hσ;rw[e,eL,Xcr,Xcr,Xbj,Xbj,Wb rU,Wb rU]at q;refine Wgd ?_ q;have:=hl.nodup.filter (WaU ops);rw[e,Xcr,Xbj,Wb rU]at this;exact this
   rw[xn,this,←mQ,←g2]at hm;exact⟨Wk (·.1) hm,Wk (·.2) hm⟩) (λgh id bv=>by
   have q:(p.filter (WaU ops))<+:l.filter (WaU ops):=by rw[e,Xcr];exact Xgz _ _
   have q2:(pre.filter (WaU ops))<+:l.filter (WaU ops):=by rw[hσ,eL,Xcr];exact Xgz _ _
   have uK:ai.objs=(WhZ ((p.filter (WaU ops)).map rec) (st.objs,st.nx)).1:=by rw[←xn,←hm]
   have tW:dx.objs=(WhZ ((pre.filter (WaU ops)).map rec) (st.objs,st.nx)).1:=by rw[←mQ,←g2]
   rw[uK,tW];rcases List.prefix_or_prefix_of_prefix q q2 with⟨X,hX⟩|⟨X,hX⟩
   .
    rw[←hX,Xz,Wef];refine(Wit _ _ λρ hρ hρm=>?_).symm;obtain⟨m,qF,rfl⟩:=Xw.1 hρ;have gY:m∈pre:=(Xav.1 (by rw[←hX];exact Xh _ qF:m∈pre.filter (WaU ops))).1;have nX:m∉p:=λhmem=>by
     have u7:WaU ops m=true:=(Xav.1 (by rw[←hX];exact Xh _ qF:m∈pre.filter (WaU ops))).2;have ki:(pre.filter (WaU ops)).Nodup:=(Xaj.1 lJ).1.filter _;rw[←hX]at ki;exact(Xaj.1 ki).2.2 m (Xav.2 ⟨hmem,u7⟩) m qF rfl
    obtain⟨u,v,eu⟩:=Xeg gY;have hf:=mP m i u (v++i::post) (by rw[eL,eu];simp) (by simp);rcases hf.2 hρm gh with hb|hb
    .rw[(ja m (iA m gY)).1,(ja i qE).1]at hb;exact Wi (hl.bef' e hb (λhc=>iB (hc▸gY))) nX
    .exact hb id bv
   .rw[←hX,Xz,Wef];refine Wit _ _ λρ hρ hρm=>?_;obtain⟨m,qF,rfl⟩:=Xw.1 hρ;have xo:m∈p.filter (WaU ops):=by rw[←hX];exact Xh _ qF
    have lL:m∈p:=(Xav.1 xo).1;have nX:m∉pre:=λhmem=>by
     have u7:WaU ops m=true:=(Xav.1 xo).2;have ki:(p.filter (WaU ops)).Nodup:=(Xaj.1 lI).1.filter _;rw[←hX]at ki;exact(Xaj.1 ki).2.2 m (Xav.2 ⟨hmem,u7⟩) m qF rfl
    have xp:=rR m lL;have nY:m∈post:=by
     rw[eL]at xp;rcases Xn.1 xp with h|h
     .exact Wi h nX
     .rcases Xq.1 h with h|h
      .exact Wi (h▸lL) rS
      .exact h
    have hf:=mP i m pre post eL nY;rcases hf.1 gh hρm with hb|hb
    .rw[(ja m (rR m lL)).1,(ja i qE).1]at hb;exact Wi (hl.bef e hb lL) rS
    .exact hb id bv)
  have zp:∀d,o.dst=some d->nt.Ok d:=hd o (Array.mem_of_getElem? nV);have ud:=WvX (F:=F) (G0:=G0) (w0:=w0) hT hΓ zp (Q:=Q) (k:=some) (r:=zo) (K:=wpOps P ops Q s) (λzq a' w' G' ν' hr4 h4=>by
   injection h4 with h4;subst h4;refine ih (p++ [i]) (by rw[e];simp) zq a' w' G' ν' hr4 (λt=>?_) ?_
   .rw[h3.env];have hv:WqF ops ((p++ [i]).map rec) (look st.env) t=if Wer ops i=some t then some (rec i).v else WqF ops (p.map rec) (look st.env) t:=by
     rw[Xz];have gen:∀(x:List Rc) (y:Rc) (e:Nat->Option AVal),WqF ops (x++ [y]) e t=if Wer ops y.i=some t then some y.v else WqF ops x e t:=by
      intro x
      induction x with
      |nil=>intro y e;rfl
      |cons z x ih=>intro y e;rw[Xba,WqF,ih];rfl
     rw[List.map_singleton,gen,(ja i qE).1]
    rw[hv,he];have:Wer ops i=o.dst:=by unfold Wer;rw[nV];rfl
    rw[this]
   .rw[Xz,Wef,←hm];simp only[Xae,Xbt,WhZ];rw[h3.objs,h3.nx];split<;>rfl) gX h3.run
  rw[wpOps_cons];unfold wpOp;rw[nV];simp only;split
  .rename_i hw;rw[Wb hw]at ud;exact .inl ud
  .rename_i hw;rw[Wa hw]at ud;exact ud
end
end Go.Sx
namespace Go.Sx
set_option linter.unusedVariables false
set_option linter.unusedSimpArgs false
theorem Wku:∀{l:List (Nat×Nat)},WbA (l.map (·.1))=true->∀p∈l,∀q∈l,p.1=q.1->p=q
 | [],_,p,hp,_,_,_=>by cases hp
 |x::l,h,p,hp,q,hq,e=>by
  have hn:=(Wfc _).1 h;simp only[Xae,WbA,Xi]at h;rw[Xae,Xai]at hn;rcases Xq.1 hp with h1|h1
  .rcases Xq.1 hq with h2|h2
   .rw[h1,h2]
   .exact Wi (Xw.2 ⟨q,h2,by rw[←e,h1]⟩) hn.1
  .rcases Xq.1 hq with h2|h2
   .exact Wi (Xw.2 ⟨p,h1,by rw[e,h2]⟩) hn.1
   .exact Wku h.2 p h1 q h2 e
theorem Wkr:∀(l:List Oper) (n k:Nat) (o:Oper) (d:Nat),l[k]?=some o->o.dst=some d->(d,n+k)∈WhO l n
 | [],_,k,o,d,h,_=>by simp at h
 |x::l,n,k,o,d,h,hd=>by
  cases k with
  |zero=>
   simp at h;subst h;simp only[WhO,hd];exact Xg ..
  |succ k=>
   have:=Wkr l (n+1) k o d (by simpa using h) hd;have e:n+(k+1)=n+1+k:=by omega
   rw[e];simp only[WhO];split
   .exact Xe _ this
   .exact this
theorem WhD{ops:Array Oper}{B:List (List Nat)}{D:List (Nat×Nat)}:∀(l:List Oper) (n:Nat),WkQ ops B D l n=true->∀(k:Nat) (o:Oper),l[k]?=some o->∀t∈Wdu ops o,∀p∈D,p.1=t->
  p.2=n+k\/Wdd B p.2 (n+k)=true\/Wdd B (n+k) p.2=true
 | [],_,_,k,o,h=>by simp at h
 |x::l,n,h,k,o,hk=>by
  simp only[WkQ,Xi]at h;cases k with
  |zero=>
   simp at hk;subst hk;intro t ht p hp e;have:=Xag.1 (Xag.1 h.1 t ht) p hp;simp only[Xcb,Xar]at this;rcases this with((h1|h1)|h1)|h1
   .rw[e]at h1;simp at h1
   .exact .inl (by simpa using h1)
   .exact .inr (.inl h1)
   .exact .inr (.inr h1)
  |succ k=>
   have:=WhD l (n+1) h.2 k o (by simpa using hk);have e:n+(k+1)=n+1+k:=by omega
   rw[e];exact this
structure RegOk(ops:Array Oper):Prop where
 back:∀(k:Nat) (o:Oper),ops[k]?=some o->∀d∈WmA o,d<k
 one:WlM ops
 slots:∀(i:Nat) (o:Oper) (t:Nat),ops[i]?=some o->t∈Wdu ops o->∀j,Wer ops j=some t->j=i\/Wdd (WeD ops.toList []) j i=true\/Wdd (WeD ops.toList []) i j=true
theorem Wi3{ops:Array Oper}{j t:Nat}(h:Wer ops j=some t):(t,j)∈WhO ops.toList 0:=by
 unfold Wer at h;obtain⟨o,ho,hd⟩:=Xbx.1 h;have:=Wkr ops.toList 0 j o t (by simpa using ho) hd;rw[Xbc]at this;exact this
theorem Wrf{ops:Array Oper}(h:Wxj ops (WeD ops.toList [])=true):RegOk ops:=by
 simp only[Wxj,Xi]at h;obtain⟨⟨h1,h2⟩,h3⟩:=h;refine⟨λk o ho e he=>?_,λi j t hi hj=>?_,λi o t ho ht j hj=>?_⟩
 .have:=Wj8 (ops:=ops) ops.toList 0 h1 k o (by simpa using ho) e he;omega
 .have:=Wku h2 _ (Wi3 hi) _ (Wi3 hj) rfl;exact Wk (·.2) this
 .have:=WhD ops.toList 0 h3 i o (by simpa using ho) t ht _ (Wi3 hj) rfl;simpa using this
theorem Wj0{ops:Array Oper}:∀(l done:List Nat),WjS ops l done=true->done.Nodup->(∀i∈done,i<ops.size)->
  (done++l).Nodup/\(∀i∈done++l,i<ops.size)/\(done++l).length=ops.size/\(∀p i s,l=p++i::s->∀o,ops[i]?=some o->∀d∈WmA o,d∈done++p)
 | [],done,h,hn,hlt=>by
  simp only[WjS]at h;exact⟨by simpa using hn,by simpa using hlt,by simpa using h,λp i s e=>by simp at e⟩
 |x::l,done,h,hn,hlt=>by
  simp only[WjS,Xi,Xar]at h;obtain⟨⟨h1,h2⟩,h3⟩:=h;have hx:x∉done:=λhm=>by rw[(WaY x done).2 hm]at h1;cases h1
  cases ho:ops[x]? with
  |none=>rw[ho]at h2;cases h2
  |some o=>
   rw[ho]at h2;have nN:x<ops.size:=(Xdd.1 ho).1;obtain⟨g1,g2,g3,g4⟩:=Wj0 l (x::done) h3 (Xai.2 ⟨hx,hn⟩) (λi hi=>by
    rcases Xq.1 hi with rfl|hi
    .exact nN
    .exact hlt i hi)
   have kj:List.Perm (x::done++l) (done++x::l):=by simpa using(List.perm_middle (a:=x) (l₁:=done) (l₂:=l)).symm
   refine⟨kj.nodup_iff.1 g1,λi hi=>g2 i (kj.mem_iff.2 hi),by rw[←kj.length_eq];exact g3,λp i s e o' iY d hd=>?_⟩;cases p with
   |nil=>
    simp only[Xbn,List.cons.injEq]at e;obtain⟨rfl,_⟩:=e;rw[ho]at iY;injection iY with iY;subst iY;have:=Xag.1 h2 d hd;simpa using(WaY d done).1 this
   |cons y p=>
    simp only[Xba,List.cons.injEq]at e;obtain⟨rfl,e⟩:=e;have:=g4 p i s e o' iY d hd;simp only[Xba,Xq,Xn]at this⊢;rcases this with h|h|h
    .exact .inr (.inl h)
    .exact .inl h
    .exact .inr (.inr h)
theorem WoI{l:List Nat}{n:Nat}(hn:l.Nodup)(hlt:∀i∈l,i<n)(hlen:l.length=n):∀i,i<n->i∈l:=by
 intro i hi;refine Classical.byContradiction λh=>?_;have h1:(i::l).Nodup:=Xai.2 ⟨h,hn⟩;have h2:∀j∈i::l,j∈Xde n:=λj hj=>by
  rw[Xeo];rcases Xq.1 hj with rfl|hj
  .exact hi
  .exact hlt j hj
 have key:∀(a b:List Nat),a.Nodup->(∀x∈a,x∈b)->a.length<=b.length:=by
  intro a
  induction a with
  |nil=>intro b _ _;simp
  |cons x a ih=>
   intro b nZ fE;rw[Xai]at nZ;have rV:x∈b:=fE x (Xg ..);have:=ih (b.erase x) nZ.2 λy hy=>(Xgv (λe=>nZ.1 (by rw[←e];exact hy))).2 (fE y (Xe _ hy));rw[Xel rV]at this;have hpos:=Xgk rV;simp;omega
 have:=key _ _ h1 h2;rw[Xfw,Xr]at this;omega
theorem WoU{ops:Array Oper}{l:List Nat}(h:WjS ops l []=true):Order ops l:=by
 obtain⟨h1,h2,h3,h4⟩:=Wj0 l [] h Xcx (by simp);rw[Xbn]at h1 h2 h3;exact⟨h1,λi=>⟨WoI h1 h2 h3 i,h2 i⟩,λp i s e o ho d hd=>by simpa using h4 p i s e o ho d hd⟩
theorem Wkb:∀(l:List Oper) (n i:Nat),i∈WhW l n↔n<=i/\∃o,l[i-n]?=some o/\Wa2 o=true
 | [],n,i=>by simp[WhW]
 |o::l,n,i=>by
  have ih:=Wkb l (n+1) i;have km:(n<=i/\∃o',(o::l)[i-n]?=some o'/\Wa2 o'=true)↔(i=n/\Wa2 o=true)\/(n+1<=i/\∃o',l[i-(n+1)]?=some o'/\Wa2 o'=true):=by
   by_cases hi:i=n
   .subst hi;constructor
    .rintro⟨_,o',h1,h2⟩;rw[Xcz]at h1;injection h1 with h1;subst h1;exact .inl ⟨rfl,h2⟩
    .rintro(⟨_,h⟩|⟨h,_⟩)
     .exact⟨Xm _,o,by rw[Xcz];rfl,h⟩
     .omega
   .constructor
    .rintro⟨h0,o',h1,h2⟩;have e:i-n=(i-(n+1))+1:=by omega
     rw[e,Xeq]at h1;exact .inr ⟨by omega,o',h1,h2⟩
    .rintro(⟨h,_⟩|⟨h0,o',h1,h2⟩)
     .exact Wi h hi
     .have e:i-n=(i-(n+1))+1:=by omega
      exact⟨by omega,o',by rw[e,Xeq];exact h1,h2⟩
  rw[km,←ih];simp only[WhW];cases hm:Wa2 o with
  |true=>simp
  |false=>simp
theorem Wns{ops:Array Oper}{i:Nat}:i∈WhW ops.toList 0↔WaU ops i=true:=by
 rw[Wkb];unfold WaU;simp only[Xbp,true_and,Xdj,Array.getElem?_toList];cases ops[i]? with
 |none=>simp
 |some o=>simp
theorem WpV{B:List (List Nat)}:∀(σ rem:List Nat) (n:Nat),σ.length<=n->σ.Nodup->(∀i,i∈rem↔i∈σ)->(∀p m s,σ=p++m::s->∀m'∈m::s,Wdd B m' m=false)->σ∈Wwr B n rem
 | [],rem,n,hn,aP,hmem,hb=>by
  have:rem= []:=Xfh.2 λi hi=>by have:=(hmem i).1 hi;cases this
  subst this;cases n<;>simp[Wwr]
 |m::s,rem,0,hn,_,_,_=>by simp at hn
 |m::s,rem,n+1,hn,aP,hmem,hb=>by
  have hm:m∈rem:=(hmem m).2 (Xg ..);rw[Xai]at aP;cases jb:rem with
  |nil=>rw[jb]at hm;cases hm
  |cons x xs=>
   rw[←jb];have u9:Wwr B (n+1) rem=(rem.filter λm=>rem.all λm'=>!Wdd B m' m).flatMap λm=>(Wwr B n (rem.filter λx=>!Xbu x m)).map (m:: ·):=by rw[jb];rfl
   rw[u9];refine Xgg.2 ⟨m,Xav.2 ⟨hm,Xag.2 λm' gS=>?_⟩,Xw.2 ⟨s,?_,rfl⟩⟩
   .rw[hb [] m s rfl m' ((hmem m').1 gS)];rfl
   .refine WpV s _ n (by simpa using hn) aP.2 (λi=>?_) (λp q s' e=>hb (m::p) q s' (by rw[e];rfl));rw[Xav,hmem,Xq];constructor
    .rintro⟨h1,h2⟩;rcases h1 with rfl|h1
     .simp at h2
     .exact h1
    .intro h;refine⟨.inr h,?_⟩;have hne:i≠m:=λe=>aP.1 (e▸h);cases hb':Xbu i m with
     |false=>rfl
     |true=>exact Wi (Nat.eq_of_beq_eq_true hb') hne
theorem WvU:∀(l m:List Nat),eqN l m=true->l=m
 | [],[],_=>rfl
 | [],_::_,h=>by cases h
 |_::_,[],h=>by cases h
 |i::l,j::m,h=>by
  simp only[eqN,Xi]at h;have:i=j:=by simpa using h.1
  rw[this,WvU l m h.2]
theorem WtX{α:Type}{a b:Option α}{r:α}(h:WfS a b=some r):a=some r/\b=some r:=by
 unfold WfS at h;split at h
 .rename_i e;exact⟨h,e▸h⟩
 .cases h
section
variable{w0:World}{F:CS}{nt:Slots}{G0:GH}{P:Program}{T:Tab}{Γ:Ctx}{A:List (Nat×An)}{R:Type}{r:R}
theorem WpP{ops:Array Oper}{B:List (List Nat)}{st:St}{k:St->Option R}:∀(l:List (List Nat)),Wxu T Γ A ops B st k l=some r->∀σ∈l,∃L,WjS ops L []=true/\L.filter (λi=>Wcy i σ)=σ/\rdx T Γ A ops B L [] [] st k=some r
 | [],_,σ,hσ=>by cases hσ
 |τ::l,h,σ,hσ=>by
  have one:Wgw (WlI ops.toList B ops.size [] τ) (λL=>bif WjS ops L []&&eqN (L.filter λi=>Wcy i τ) τ then rdx T Γ A ops B L [] [] st k else none)=some r->∃L,WjS ops L []=true/\L.filter (λi=>Wcy i τ)=τ/\rdx T Γ A ops B L [] [] st k=some r:=λh=>by
   rw[WeW]at h;obtain⟨hc,h⟩:=WaW h;simp only[Xi]at hc;exact⟨_,hc.1,WvU _ _ hc.2,h⟩
  cases l with
  |nil=>
   simp only[Wxu]at h;rcases Xq.1 hσ with rfl|hσ
   .exact one h
   .cases hσ
  |cons x l=>
   have h:WfS (Wgw (WlI ops.toList B ops.size [] τ) (λL=>bif WjS ops L []&&eqN (L.filter λi=>Wcy i τ) τ then rdx T Γ A ops B L [] [] st k else none)) (Wxu T Γ A ops B st k (x::l))=some r:=h;obtain⟨h1,h2⟩:=WtX h;rcases Xq.1 hσ with rfl|hσ
   .exact one h1
   .exact WpP (x::l) h2 σ hσ
theorem WuI(hM:P.follows .mixedOrders=true)(hT:Wap P T)(hΓ:Wfw P Γ){id:Nat}{ops:Array Oper}(hd:∀o∈ops,∀d,o.dst=some d->nt.Ok d){k:St->Option R}{Q:Exit->Act->World->Prop}(hK:Wtx w0 F nt G0 k r (Q .normal)):
  Wtx w0 F nt G0 (λst=>WwL T Γ A ops st k) r ((Code.region id ops true).wp P Q):=λst a w G ν hr h=>by
 simp only[WwL,Wn8]at h;obtain⟨ve,h⟩:=WaW h;have hR:=Wrf ve;refine wp_region_draw λt=>?_;rw[hM];have hl:Order ops (Region.schedule true ops t):=WjO hR.back;generalize Region.schedule true ops t=l at hl;have hσ:l.filter (WaU ops)∈Wwr (WeD ops.toList []) ops.size (WhW ops.toList 0):=by
  refine WpV _ _ _ ?_ (hl.nodup.filter _) (λi=>?_) (λp m s e m' gS=>?_)
  .refine Xco (Xez _ _) ?_;have dQ:l.length<=(Xde ops.size).length:=by
    have key:∀(a b:List Nat),a.Nodup->(∀x∈a,x∈b)->a.length<=b.length:=by
     intro a
     induction a with
     |nil=>intro b _ _;simp
     |cons x a ih=>
      intro b nZ fE;rw[Xai]at nZ;have rV:x∈b:=fE x (Xg ..);have:=ih (b.erase x) nZ.2 λy hy=>(Xgv (λe=>nZ.1 (by rw[←e];exact hy))).2 (fE y (Xe _ hy));rw[Xel rV]at this;have hpos:=Xgk rV;simp;omega
    exact key _ _ hl.nodup λx hx=>Xeo.2 ((hl.all x).2 hx)
   rw[Xfw]at dQ;exact dQ
  .rw[Wns,Xav];constructor
   .intro h;refine⟨(hl.all i).1 ?_,h⟩;unfold WaU at h;split at h
    .rename_i o ho;exact(Xdd.1 ho).1
    .cases h
   .exactλh=>h.2
  .cases hb:Wdd (WeD ops.toList []) m' m with
   |false=>rfl
   |true=>
    exfalso;have qG:m∈l:=(Xav.1 (by rw[e];simp:m∈l.filter (WaU ops))).1;obtain⟨u,v,eu⟩:=Xeg qG;have hm'u:m'∈u++ [m]:=hl.bef (p:=u++ [m]) (s:=v) (by rw[eu];simp) hb (by simp);have vf:WaU ops m=true:=(Xav.1 (by rw[e];simp:m∈l.filter (WaU ops))).2;have rW:=hl.nodup.filter (WaU ops);have e2:l.filter (WaU ops)=u.filter (WaU ops)++m::v.filter (WaU ops):=by rw[eu,Xcr,Xbj,Wb vf]
    have zr:p=u.filter (WaU ops):=by
     refine Wgd (b:=s) (d:=v.filter (WaU ops)) (x:=m) ?_ ?_
     .rw[←e];exact rW
     .rw[←e,e2]
    rcases Xq.1 gS with rfl|hm's
    .
     have:=hl.bef (p:=u++ [m']) (s:=v) (by rw[eu];simp) hb (by simp);have hcl:Wnu ops (λj=>j∈u\/(j=m'/\False)):=λi o ho hi d hd=>by
      rcases hi with hi|⟨_,hf⟩
      .exact .inl (hl.closed (p:=u) (s:=m'::v) eu i o ho hi d hd)
      .exact hf.elim
     have back:∀(j i:Nat),Wdd (WeD ops.toList []) j i=true->j<i:=λj i lK=>by
      have hcl2:Wnu ops (λx=>x<i\/(x=i)):=λx o ho hx d hd=>by
       have:d<x:=hR.back x o ho d hd;omega
      refine Classical.byContradiction λhn=>?_;have hlt:∀(l:List Oper) (acc:List (List Nat)),(∀(k:Nat) (o:Oper),l[k]?=some o->ops[acc.length+k]?=some o)->(∀i,∀j∈acc.getD i [],j<i)->∀i,∀j∈(WeD l acc).getD i [],j<i:=by
       intro l
       induction l with
       |nil=>intro acc _ h;exact h
       |cons o l ih=>
        intro acc hl h;refine ih _ (λk o' hk=>?_) (λi j hj=>?_)
        .have:=hl (k+1) o' (by simpa using hk);rw[Xs];have e:acc.length+(k+1)=acc.length+ [Wle acc (WmA o) []].length+k:=by simp;omega
         rw[←e];exact this
        .rw[Xap,Xaw]at hj;split at hj
         .exact h i j (by rw[Xap];exact hj)
         .by_cases he:i=acc.length
          .subst he;simp only[Xcz,Xdn,Xex]at hj;rcases(Wjd _ _).1 hj with⟨k,hk,ep⟩|hj
           .have mL:k<acc.length:=hR.back acc.length o (hl 0 o (by simp)) k hk;rcases ep with rfl|ep
            .exact mL
            .have:=h k j ep;omega
           .cases hj
          .have:[Wle acc (WmA o) []][i-acc.length]?=none:=Xcs (by simp;omega);rw[this]at hj;cases hj
      exact hn (hlt ops.toList [] (λk o hk=>by simpa using hk) (λi j hj=>by simp at hj) i j ((WaY _ _).1 lK))
     have:=back m' m' hb;omega
    .
     have hm'l:m'∈p:=by
      rw[zr];rcases Xn.1 hm'u with h|h
      .refine Xav.2 ⟨h,?_⟩;exact(Xav.1 (by rw[e];simp[hm's]:m'∈l.filter (WaU ops))).2
      .simp at h;subst h;rw[e]at rW;have:=(Xai.1 (Xaj.1 rW).2.1).1;exact Wi hm's this
     rw[e]at rW;exact(Xaj.1 rW).2.2 m' hm'l m' (Xe _ hm's) rfl
 obtain⟨L,g1,g2,g3⟩:=WpP _ h _ hσ;have hL:=WoU g1;obtain⟨rs,ae,q1,q2,q3,q4,_,_⟩:=Wmk _ _ _ _ g3;have hf:l.filter (WaU ops)=L.filter (WaU ops):=by
  rw[←g2];refine List.filter_congr λi hi=>?_;cases hm:WaU ops i with
  |true=>exact(WaY _ _).2 (Xav.2 ⟨(hl.all i).1 ((hL.all i).2 hi),hm⟩)
  |false=>
   cases he:Wcy i (l.filter (WaU ops))with
   |false=>rfl
   |true=>
    have:=(Xav.1 ((WaY _ _).1 he)).2;rw[hm]at this;cases this
 have bK:Rel w0 F nt G0 G ν st a {w with drawn:=w.drawn+1}:=⟨hr.defers,hr.ntm,hr.par,hr.env,?_,hr.gx⟩
 .exact WtB hT hΓ hd hl hL hR.one hR.slots hf q1 q2 q4 (λa w G ν hr=>hK ae a w G ν hr q3) bK
 .exact hr.h.drew
end
end Go.Sx
namespace Go.Sx
set_option linter.unusedVariables false
set_option linter.unusedSimpArgs false
section
variable{w0:World}{F:CS}{nt:Slots}{G0:GH}{P:Program}{T:Tab}{Γ:Ctx}{A:List (Nat×An)}{R:Type}{r:R}
theorem WoJ(hM:P.follows .mixedOrders=true)(hT:Wap P T)(hΓ:Wfw P Γ){n:Nat}{kept:List Nat}(hn:nt.n=n)(oa:∀p∈nt.kept,p.1∈kept){ann:Nat->List Ghost}{N:Nat}:∀(c:Code),WdI n kept c=true->∀{k:Ex->St->Option R} {Q:Exit->Act->World->Prop},
  (∀e,Wtx w0 F nt G0 (k e) r (Q e.to))->Wtx w0 F nt G0 (λst=>sx T Γ ann N c st k) r (c.wp P Q)
 | .skip,_,k,Q,hK=>λst a w G ν hr h=>wp_skip (hK .normal st a w G ν hr h)
 | .exit id,_,k,Q,hK=>λst a w G ν hr h=>wp_exit (hK (.exit id) st a w G ν hr h)
 | .ret,_,k,Q,hK=>λst a w G ν hr h=>wp_ret (hK .ret st a w G ν hr h)
 | .region id ops draw,aG,k,Q,hK=>λst a w G ν hr h=>by
  have gR:Wtx w0 F nt G0 (λae=>match Wek (ann id) ae with|some (c,ce)=>bif c then k .normal ce else none|none=>none) r (Q .normal):=λae a' w' G' ν' bK h'=>by
   simp only at h';split at h'
   .rename_i c ce hg;obtain⟨rfl,h'⟩:=WaW h';obtain⟨G2,ν2,gX⟩:=WdC _ _ _ _ _ bK hg;exact hK .normal _ _ _ _ _ gX h'
   .cases h'
  have rX:∀o∈ops,∀d,o.dst=some d->nt.Ok d:=λo ho=>WoS hn oa (Xag.1 aG o (by simpa using ho));cases draw with
  |true=>exact WuI hM hT hΓ rX gR st a w G ν hr h
  |false=>exact wp_region_list (Wwj hT hΓ ops.toList (λo ho=>rX o (by simpa using ho)) gR st a w G ν hr h)
 | .seq x y,aG,k,Q,hK=>λst a w G ν hr h=>by
  simp only[WdI,Xi]at aG;refine wp_seq (WoJ hM hT hΓ hn oa x aG.1 (Q:=Exit.then (y.wp P Q) Q) (λe=>?_) st a w G ν hr h);cases e with
  |normal=>exact WoJ hM hT hΓ hn oa y aG.2 hK
  |exit id=>exact hK (.exit id)
  |ret=>exact hK .ret
 | .cond c x y,aG,k,Q,hK=>λst a w G ν hr h=>by
  simp only[WdI,Xi]at aG;simp only[sx]at h;split at h
  .rename_i b hb;cases hv:ev st c with
   |none=>simp[hv]at hb
   |some v=>
    simp only[hv,Xc]at hb;have hc:=Wpd v _ b (WQ hr c v hv) hb;refine wp_cond hc ?_;cases b with
    |true=>exact WoJ hM hT hΓ hn oa x aG.1 hK st a w G ν hr h
    |false=>exact WoJ hM hT hΓ hn oa y aG.2 hK st a w G ν hr h
  .cases h
 | .block id c,aG,k,Q,hK=>λst a w G ν hr h=>by
  simp only[WdI]at aG;refine wp_block (WoJ hM hT hΓ hn oa c aG (Q:=Exit.inBlock id Q) (λe=>?_) st a w G ν hr h);cases e with
  |normal=>exact hK .normal
  |exit bJ=>
   intro ae a' w' G' ν' bK h';simp only[Ex.to,Exit.inBlock];split
   .rename_i he;simp only[he,Waq]at h';exact hK .normal _ _ _ _ _ bK h'
   .rename_i he;simp only[he,Wau]at h';exact hK (.exit bJ) _ _ _ _ _ bK h'
  |ret=>exact hK .ret
 | .loop c,aG,k,Q,hK=>λst a w G ν hr h=>by
  simp only[WdI]at aG;refine wp_loop_rounds N ?_;have key:∀(m:Nat),Wtx w0 F nt G0 (λst=>Wps (Wj1 (ann (WfN c)) λst k=>sx T Γ ann N c st k) m st k) r (Code.rounds P c Q m):=by
   intro m
   induction m with
   |zero=>intro st a w G ν hr h;cases h
   |succ m ih=>
    intro st a w G ν hr h;rw[rounds_succ];have h:sx T Γ ann N c st (λe ae=>match e with
     | .normal=>match Wek (ann (WfN c)) ae with
      |some (b,ce)=>bif b then Wps (Wj1 (ann (WfN c)) λst k=>sx T Γ ann N c st k) m ce k else none
      |none=>none
     | .exit id=>k (.exit id) ae
     | .ret=>k .ret ae)=some r:=by
     rw[←h];simp only[Wps,Wj1];congr 1
    refine WoJ hM hT hΓ hn oa c aG (Q:=Exit.then (Code.rounds P c Q m) Q) (λe=>?_) st a w G ν hr h;cases e with
    |normal=>
     intro ae a' w' G' ν' bK h';simp only at h';split at h'
     .rename_i b ce hg;obtain⟨rfl,h'⟩:=WaW h';obtain⟨G2,ν2,gX⟩:=WdC _ _ _ _ _ bK hg;exact ih _ _ _ _ _ gX h'
     .cases h'
    |exit id=>exact hK (.exit id)
    |ret=>exact hK .ret
  have h:(match Wek (ann (WfN c)) st with
   |some (b,ae)=>bif b then Wps (Wj1 (ann (WfN c)) λst k=>sx T Γ ann N c st k) N ae k else none
   |none=>none)=some r:=h
  split at h
  .rename_i b ae hg;obtain⟨rfl,h⟩:=WaW h;obtain⟨G2,ν2,gX⟩:=WdC _ _ _ _ _ hr hg;exact key N _ _ _ _ _ gX h
  .cases h
 | .scope ..,_,k,Q,hK=>λst a w G ν hr h=>by cases h
 | .label ..,_,k,Q,hK=>λst a w G ν hr h=>by cases h
 | .goto ..,_,k,Q,hK=>λst a w G ν hr h=>by cases h
 | .rangeFunc ..,_,k,Q,hK=>λst a w G ν hr h=>by cases h
 | .refuse ..,_,k,Q,hK=>λst a w G ν hr h=>by cases h
end
end Go.Sx
namespace Go.Sx
set_option linter.unusedVariables false
set_option linter.unusedSimpArgs false
section
variable{w0:World}{F:CS}{nt:Slots}{G0 G G':GH}{ν:Nat->Nu}{φ:Nat->CS}{objs:Wak}{nx ah:Nat}{st ae:St}{a:Act}{w w':World}{P:Program}{T:Tab}{Γ:Ctx}
theorem WhF:∀(xs:List AVal) (j i:Nat),look (Whc j xs) i=if j<=i then xs[i-j]? else none
 | [],j,i=>by simp[Whc,look]
 |x::xs,j,i=>by
  simp only[Whc];rw[WL,WhF xs (j+1) i];by_cases h:j=i
  .subst h;simp
  .by_cases h2:j<=i
   .have h3:j+1<=i:=by omega
    rw[Wa h,Wb h3,Wb h2,show i-j=(i-(j+1))+1 by omega];rfl
   .rw[Wa h,Wa h2,Wa (by omega)]
theorem Wkf:∀(l:List Nat),Wuf (Wkt l)=l
 | []=>rfl
 |i::l=>by
  show i::Wuf (Wkt l)=i::l;rw[Wkf l]
theorem WkM:∀(ps:List PTy) (d:WfC ps) (objs:Wak) (nx n:Nat),Wkc ps n=true->∃ids,ids.length=n/\(WU ps d objs nx).1.take n=Wkt ids
 |_,_,_,_,0,_=>⟨[],rfl,rfl⟩
 | [],_,_,_,_+1,h=>by cases h
 | .v _ _::_,_,_,_,_+1,h=>by cases h
 | .mut _::_,_,_,_,_+1,h=>by cases h
 | .clos _ _::_,_,_,_,_+1,h=>by cases h
 | .kv _ _::_,_,_,_,_+1,h=>by cases h
 | .rp _::_,_,_,_,_+1,h=>by cases h
 | .vj _::_,_,_,_,_+1,h=>by cases h
 | .boxal _ _::_,_,_,_,_+1,h=>by cases h
 | .box t::ps,d,objs,nx,n+1,h=>by
  obtain⟨ids,h1,h2⟩:=WkM ps d.2 ((nx,.box (unfold t d.1 (nx+1)).1)::((unfold t d.1 (nx+1)).2.1++objs)) (unfold t d.1 (nx+1)).2.2 n h;refine⟨nx::ids,by simp[h1],?_⟩;simp only[WU,List.take_succ_cons,h2];rfl
theorem Wcs:∀(ps:List PTy) (d:WfC ps) (vs:List Value) (ns:List Pc) (ks:List Nu) (objs:Wak) (nx ah:Nat),Wcx ps=true->Wbu G w ps d vs ns ks->At ν φ nx ns->nx+ns.length<=ah->
  (WU ps d objs nx).2.2=nx+ns.length/\
  (∀id ob,look (WU ps d objs nx).2.1 id=some ob->(nx<=id/\id<nx+ns.length/\WcG G ν ah w id (φ id) ob)\/look objs id=some ob)/\
  (WU ps d objs nx).1.length=vs.length/\∀(j:Nat) (x:AVal) (v:Value),(WU ps d objs nx).1[j]?=some x->vs[j]?=some v->AValRel G ν ah x v
 | [],d,vs,ns,ks,objs,nx,ah,_,⟨h1,h2,h3⟩,_,_=>by
  subst h1 h2;exact⟨rfl,λid ob h=>.inr h,rfl,λj x v h=>by simp[WU]at h⟩
 | .v t agg::ps,d,vs,ns,ks,objs,nx,ah,eH,⟨v,vs',n1,n2,h1,h2,h3,h4⟩,hν,hx=>by
  subst h2;obtain⟨us,jp⟩:=Wo2 h3;have be:=W8 _ _ _ _ jp;have hlen:(n1++n2).length=t.owns+n2.length:=by rw[Xs,be]
  obtain⟨_,o1⟩:=Wax t d.1 nx us n1 jp hν.left;obtain⟨e1,e2,e3,e4⟩:=Wcs ps d.2 vs' n2 ks ((unfold t d.1 nx).2.1++objs) (nx+t.owns) ah eH h4 (hν.right be) (by omega);simp only[WU,WaZ];refine⟨by rw[e1,hlen];omega,λid ob hl=>?_,by rw[h1];simp[e3],λj x u hj hu=>?_⟩
  .rcases e2 id ob hl with⟨g1,g2,g3⟩|g
   .exact .inl ⟨by omega,by omega,g3⟩
   .rcases WO g with g|g
    .obtain⟨g1,g2,e,xs,rfl,g3⟩:=o1 id ob g;exact .inl ⟨g1,by omega,g3⟩
    .exact .inr g
  .rw[h1]at hu;cases j with
   |zero=>simp at hj hu;subst hj hu;exact WlS h3 hν.left (by omega)
   |succ j=>exact e4 j x u (by simpa using hj) (by simpa using hu)
 | .kv t agg::ps,d,vs,ns,ks,objs,nx,ah,eH,⟨v,vs',n1,n2,ks',h1,h2,_,h3,h4⟩,hν,hx=>by
  subst h2;obtain⟨us,jp⟩:=Wo2 h3;have be:=W8 _ _ _ _ jp;have hlen:(n1++n2).length=t.owns+n2.length:=by rw[Xs,be]
  obtain⟨_,o1⟩:=Wax t d.1 nx us n1 jp hν.left;obtain⟨e1,e2,e3,e4⟩:=Wcs ps d.2 vs' n2 ks' ((unfold t d.1 nx).2.1++objs) (nx+t.owns) ah eH h4 (hν.right be) (by omega);simp only[WU,WaZ];refine⟨by rw[e1,hlen];omega,λid ob hl=>?_,by rw[h1];simp[e3],λj x u hj hu=>?_⟩
  .rcases e2 id ob hl with⟨g1,g2,g3⟩|g
   .exact .inl ⟨by omega,by omega,g3⟩
   .rcases WO g with g|g
    .obtain⟨g1,g2,e,xs,rfl,g3⟩:=o1 id ob g;exact .inl ⟨g1,by omega,g3⟩
    .exact .inr g
  .rw[h1]at hu;cases j with
   |zero=>simp at hj hu;subst hj hu;exact WlS h3 hν.left (by omega)
   |succ j=>exact e4 j x u (by simpa using hj) (by simpa using hu)
 | .box t::ps,d,vs,ns,ks,objs,nx,ah,eH,⟨b,o,vs',n1,n2,ks',h1,h2,h3,⟨us,hrow,hmem,gw⟩,h6⟩,hν,hx=>by
  subst h2;have be:=W8 _ _ _ _ gw;have hlen:((⟨Wcb b o,rng b o t.size⟩:Pc)::(n1++n2)).length=1+t.owns+n2.length:=by rw[Xr,Xs,be];omega
  obtain⟨hν0,hφ0⟩:ν nx=Wcb b o/\φ nx=rng b o t.size:=by have:=hν 0 _ rfl;simpa using this
  have hν1:At ν φ (nx+1) (n1++n2):=hν.right (n1:=[⟨Wcb b o,rng b o t.size⟩]) rfl;obtain⟨c1,o1⟩:=Wax t d.1 (nx+1) us n1 gw hν1.left;have cH:=Wcj t d.1 (nx+1);obtain⟨e1,e2,e3,e4⟩:=Wcs ps d.2 vs' n2 ks' ((nx,.box (unfold t d.1 (nx+1)).1)::((unfold t d.1 (nx+1)).2.1++objs)) (nx+1+t.owns) ah eH h6 (hν1.right be) (by omega);simp only[WU,WaZ];refine⟨by rw[e1,hlen];omega,λid ob hl=>?_,by rw[h1];simp[e3],λj x u hj hu=>?_⟩
  .rcases e2 id ob hl with⟨g1,g2,g3⟩|g
   .exact .inl ⟨by omega,by omega,g3⟩
   .rw[WL]at g;split at g
    .rename_i e;subst e;injection g with g;subst g;exact .inl ⟨Xm _,by omega,b,us,by rw[hν0];rfl,by rw[hν0,cH];exact hrow,by rw[hν0];exact hmem,c1 ah (by omega),by rw[hν0,cH,hφ0];exactλ_ _ hh=>hh⟩
    .rcases WO g with g|g
     .obtain⟨g1,g2,e,xs,rfl,g3⟩:=o1 id ob g;exact .inl ⟨by omega,by omega,g3⟩
     .exact .inr g
  .rw[h1]at hu;cases j with
   |zero=>
    simp at hj hu;subst hj hu;exact⟨⟨by omega,b,by rw[hν0];rfl,by rw[hν0];rfl⟩,rfl⟩
   |succ j=>exact e4 j x u (by simpa using hj) (by simpa using hu)
 | .vj _::_,_,_,_,_,_,_,_,_,h,_,_=>h.elim
 | .boxal t lf::ps,d,vs,ns,ks,objs,nx,ah,eH,⟨b,o,b',pc,vs',n1,n2,ks',h1,h2,h3,⟨us,hrow,hmem,gw⟩,h4,h5,h7,h6⟩,hν,hx=>by
  subst h2;have be:=W8 _ _ _ _ gw;have hlen:((⟨Wcb b o,rng b o t.size⟩:Pc)::(n1++n2)).length=1+t.owns+n2.length:=by rw[Xr,Xs,be];omega
  obtain⟨hν0,hφ0⟩:ν nx=Wcb b o/\φ nx=rng b o t.size:=by have:=hν 0 _ rfl;simpa using this
  have hν1:At ν φ (nx+1) (n1++n2):=hν.right (n1:=[⟨Wcb b o,rng b o t.size⟩]) rfl;obtain⟨c1,o1⟩:=Wax t d.1 (nx+1) us n1 gw hν1.left;have cH:=Wcj t d.1 (nx+1);have xq:lf<n1.length:=(Xad.1 h4).1;have hνl:ν (nx+1+lf)=pc.nu:=(hν1.left lf pc h4).1;obtain⟨e1,e2,e3,e4⟩:=Wcs ps d.2.2 vs' n2 ks' ((nx,.box (unfold t d.1 (nx+1)).1)::((unfold t d.1 (nx+1)).2.1++objs)) (nx+1+t.owns) ah eH h6 (hν1.right be) (by omega);simp only[WU,WaZ];refine⟨by rw[e1,hlen];omega,λid ob hl=>?_,by rw[h1];simp[e3],λj x u hj hu=>?_⟩
  .rcases e2 id ob hl with⟨g1,g2,g3⟩|g
   .exact .inl ⟨by omega,by omega,g3⟩
   .rw[WL]at g;split at g
    .rename_i e;subst e;injection g with g;subst g;exact .inl ⟨Xm _,by omega,b,us,by rw[hν0];rfl,by rw[hν0,cH];exact hrow,by rw[hν0];exact hmem,c1 ah (by omega),by rw[hν0,cH,hφ0];exactλ_ _ hh=>hh⟩
    .rcases WO g with g|g
     .obtain⟨g1,g2,e,xs,rfl,g3⟩:=o1 id ob g;exact .inl ⟨by omega,by omega,g3⟩
     .exact .inr g
  .rw[h1]at hu
   match j with
   |0=>
    simp at hj hu;subst hj hu;exact⟨⟨by omega,b,by rw[hν0];rfl,by rw[hν0];rfl⟩,rfl⟩
   |1=>
    simp at hj hu;subst hj hu;exact⟨⟨by omega,by rw[hνl];exact h7,b',by rw[hνl];exact h5,by rw[hνl];rfl⟩,rfl⟩
   |j+2=>exact e4 j x u (by simpa using hj) (by simpa using hu)
 | .rp t::ps,d,vs,ns,ks,objs,nx,ah,eH,⟨b,o,us,vs',h1,h2,h3,h4⟩,hν,hx=>by
  obtain⟨e1,e2,e3,e4⟩:=Wcs ps d.2 vs' ns ks objs nx ah eH h4 hν hx;simp only[WU];refine⟨e1,e2,by rw[h1];simp[e3],λj x u hj hu=>?_⟩;rw[h1]at hu;cases j with
  |zero=>
   simp at hj hu;subst hj hu;exact⟨⟨b,o,us,by rw[Xaz],h2,h3⟩,rfl⟩
  |succ j=>exact e4 j x u (by simpa using hj) (by simpa using hu)
 | .mut e::ps,d,vs,ns,ks,objs,nx,ah,eH,⟨pc,vs',n2,ks',h1,h2,h3,h4,h5⟩,hν,hx=>by
  subst h2;have hlen:(pc::n2).length=1+n2.length:=by rw[Xr];omega
  obtain⟨hν0,hφ0⟩:ν nx=pc.nu/\φ nx=pc.fp:=by have:=hν 0 _ rfl;simpa using this
  obtain⟨e1,e2,e3,e4⟩:=Wcs ps d.2 vs' n2 ks' ((nx,.arr e d.1)::objs) (nx+1) ah eH h5 (hν.right (n1:=[pc]) rfl) (by omega);simp only[WU];refine⟨by rw[e1,hlen];omega,λid ob hl=>?_,by rw[h1];simp[e3],λj x u hj hu=>?_⟩
  .rcases e2 id ob hl with⟨g1,g2,g3⟩|g
   .exact .inl ⟨by omega,by omega,g3⟩
   .rw[WL]at g;split at g
    .rename_i e;subst e;injection g with g;subst g;refine .inl ⟨Xm _,by omega,?_⟩;show OwnL w (TyRel G w _) _ (ν nx) d.1 (φ nx);rw[hν0,hφ0];exact h4
    .exact .inr g
  .rw[h1]at hu;cases j with
   |zero=>
    simp at hj hu;subst hj hu;exact⟨⟨by omega,by rw[hν0]⟩,Wjr _⟩
   |succ j=>exact e4 j x u (by simpa using hj) (by simpa using hu)
 | .clos g n::ps,d,vs,ns,ks,objs,nx,ah,eH,⟨cvs,vs',h1,h2,h3,h4⟩,hν,hx=>by
  simp only[Wcx,Xi]at eH;obtain⟨e1,e2,e3,e4⟩:=Wcs ps d (cvs++vs') ns ks objs nx ah eH.2 h4 hν hx;obtain⟨ids,g1,g2⟩:=WkM ps d objs nx n eH.1;simp only[WU];rw[g2,Wkf];have hlen:(WU ps d objs nx).1.length=n+vs'.length:=by rw[e3,Xs,h2]
  have iD:∀(j id:Nat),ids[j]?=some id->(WU ps d objs nx).1[j]?=some (AVal.s (.one (.ptr id 0))):=λj id hj=>by
   have hlt:j<n:=by rw[←g1];exact(Xad.1 hj).1
   have:((WU ps d objs nx).1.take n)[j]?=some (.s (.one (.ptr id 0))):=by rw[g2];simp[Wkt,hj]
   rw[List.getElem?_take,Wb hlt]at this;exact this
  refine⟨e1,e2,by rw[h1];simp[hlen],λj x u hj hu=>?_⟩;rw[h1]at hu;cases j with
  |zero=>
   simp at hj hu;subst hj hu;refine⟨⟨cvs,rfl,by rw[h2,g1],λj id u hj hu=>?_⟩,rfl⟩;have hlt:j<cvs.length:=(Xad.1 hu).1;obtain⟨⟨q1,q2⟩,q3⟩:=e4 j _ u (iD j id hj) (by rw[List.getElem?_append_left hlt];exact hu);exact⟨q1,q3,q2⟩
  |succ j=>
   have hj':(WU ps d objs nx).1[n+j]?=some x:=by
    rw[←List.getElem?_drop];simpa using hj
   exact e4 (n+j) x u hj' (by rw[Xcj (by omega),h2,Xch];simpa using hu)
theorem Wdl:∀(ps:List PTy) (d:WfC ps) (vs:List Value) (ns:List Pc) (ks:List Nu),Wbu G w ps d vs ns ks->vs.length<=Wb5 ps
 | [],d,vs,ns,ks,⟨h1,_,_⟩=>by rw[h1];exact Xm _
 | .v t agg::ps,d,vs,ns,ks,⟨v,vs',n1,n2,h1,h2,h3,h4⟩=>by rw[h1,Xr];have:=Wdl ps _ _ _ _ h4;simp only[Wb5];omega
 | .box t::ps,d,vs,ns,ks,⟨b,o,vs',n1,n2,ks',h1,h2,h3,h4,h6⟩=>by rw[h1,Xr];have:=Wdl ps _ _ _ _ h6;simp only[Wb5];omega
 | .mut e::ps,d,vs,ns,ks,⟨pc,vs',n2,ks',h1,h2,h3,h4,h5⟩=>by rw[h1,Xr];have:=Wdl ps _ _ _ _ h5;simp only[Wb5];omega
 | .clos g n::ps,d,vs,ns,ks,⟨cvs,vs',h1,h2,h3,h4⟩=>by rw[h1,Xr];have:=Wdl ps _ _ _ _ h4;simp at this;simp only[Wb5];omega
 | .kv t agg::ps,d,vs,ns,ks,⟨v,vs',n1,n2,ks',h1,h2,jt,h3,h4⟩=>by rw[h1,Xr];have:=Wdl ps _ _ _ _ h4;simp only[Wb5];omega
 | .rp t::ps,d,vs,ns,ks,⟨b,o,us,vs',h1,h2,h3,h4⟩=>by rw[h1,Xr];have:=Wdl ps _ _ _ _ h4;simp only[Wb5];omega
 | .vj _::_,_,_,_,_,h=>h.elim
 | .boxal t lf::ps,d,vs,ns,ks,⟨b,o,b',pc,vs',n1,n2,ks',h1,h2,h3,h4,h5,h6,h7,h8⟩=>by rw[h1,Xr,Xr];have:=Wdl ps _ _ _ _ h8;simp only[Wb5];omega
def WoQ(i:Nat)(vs:List Value):List (Nat×Value):=match vs with
 |v::_=>[(i,v)]
 | []=>[]
def WN:List PTy->Nat->Nat->List Value->List (Nat×Value)
 | [],_,_,_=>[]
 |_::ps,i,k+1,vs=>WN ps i k vs
 | .v _ _::ps,i,0,vs=>WN ps (i+1) 0 vs.tail
 | .box _::ps,i,0,vs=>WoQ i vs++WN ps (i+1) 0 vs.tail
 | .mut _::ps,i,0,vs=>WoQ i vs++WN ps (i+1) 0 vs.tail
 | .clos _ n::ps,i,0,vs=>WoQ i vs++WN ps (i+1) n vs.tail
 | .kv _ _::ps,i,0,vs=>WoQ i vs++WN ps (i+1) 0 vs.tail
 | .rp _::ps,i,0,vs=>WN ps (i+1) 0 vs.tail
 | .vj _::ps,i,0,vs=>WN ps (i+1) 0 vs.tail
 | .boxal _ _::ps,i,0,vs=>WoQ i vs++WN ps (i+2) 0 vs.tail.tail
theorem WbB{i:Nat}{vs:List Value}{p:Nat×Value}(h:p∈WoQ i vs):p.1=i/\vs[0]?=some p.2:=by
 unfold WoQ at h;split at h
 .simp at h;subst h;exact⟨rfl,rfl⟩
 .cases h
theorem WY:∀(ps:List PTy) (i k:Nat) (vs:List Value),∀p∈WN ps i k vs,p.1∈Weh ps i k
 | [],_,_,_,p,h=>by simp[WN]at h
 | .v _ _::ps,i,k+1,vs,p,h=>WY ps i k vs p h
 | .box _::ps,i,k+1,vs,p,h=>WY ps i k vs p h
 | .mut _::ps,i,k+1,vs,p,h=>WY ps i k vs p h
 | .clos _ _::ps,i,k+1,vs,p,h=>WY ps i k vs p h
 | .v _ _::ps,i,0,vs,p,h=>WY ps (i+1) 0 vs.tail p h
 | .box _::ps,i,0,vs,p,h=>by
  simp only[WN]at h;rcases Xn.1 h with h|h
  .rw[(WbB h).1];exact Xg ..
  .exact Xe _ (WY ps (i+1) 0 vs.tail p h)
 | .mut _::ps,i,0,vs,p,h=>by
  simp only[WN]at h;rcases Xn.1 h with h|h
  .rw[(WbB h).1];exact Xg ..
  .exact Xe _ (WY ps (i+1) 0 vs.tail p h)
 | .clos _ n::ps,i,0,vs,p,h=>by
  simp only[WN]at h;rcases Xn.1 h with h|h
  .rw[(WbB h).1];exact Xg ..
  .exact Xe _ (WY ps (i+1) n vs.tail p h)
 | .kv _ _::ps,i,k+1,vs,p,h=>WY ps i k vs p h
 | .kv _ _::ps,i,0,vs,p,h=>by
  simp only[WN]at h;rcases Xn.1 h with h|h
  .rw[(WbB h).1];exact Xg ..
  .exact Xe _ (WY ps (i+1) 0 vs.tail p h)
 | .rp _::ps,i,k+1,vs,p,h=>WY ps i k vs p h
 | .rp _::ps,i,0,vs,p,h=>WY ps (i+1) 0 vs.tail p h
 | .vj _::ps,i,k+1,vs,p,h=>WY ps i k vs p h
 | .vj _::ps,i,0,vs,p,h=>WY ps (i+1) 0 vs.tail p h
 | .boxal _ _::ps,i,k+1,vs,p,h=>WY ps i k vs p h
 | .boxal _ _::ps,i,0,vs,p,h=>by
  simp only[WN]at h;rcases Xn.1 h with h|h
  .rw[(WbB h).1];exact Xg ..
  .exact Xe _ (WY ps (i+2) 0 vs.tail.tail p h)
theorem WS:∀(ps:List PTy) (i k:Nat) (vs:List Value),∀p∈WN ps i k vs,i<=p.1/\vs[p.1-i]?=some p.2
 | [],_,_,_,p,h=>by simp[WN]at h
 | .v _ _::ps,i,k+1,vs,p,h=>WS ps i k vs p h
 | .box _::ps,i,k+1,vs,p,h=>WS ps i k vs p h
 | .mut _::ps,i,k+1,vs,p,h=>WS ps i k vs p h
 | .clos _ _::ps,i,k+1,vs,p,h=>WS ps i k vs p h
 | .v _ _::ps,i,0,vs,p,h=>by
  obtain⟨h1,h2⟩:=WS ps (i+1) 0 vs.tail p h;refine⟨by omega,?_⟩;rw[show p.1-i=(p.1-(i+1))+1 by omega,←Xcg];exact h2
 | .box _::ps,i,0,vs,p,h=>by
  simp only[WN]at h;rcases Xn.1 h with h|h
  .obtain⟨h1,h2⟩:=WbB h;rw[h1];exact⟨Xm _,by rw[Xcz];exact h2⟩
  .obtain⟨h1,h2⟩:=WS ps (i+1) 0 vs.tail p h;refine⟨by omega,?_⟩;rw[show p.1-i=(p.1-(i+1))+1 by omega,←Xcg];exact h2
 | .mut _::ps,i,0,vs,p,h=>by
  simp only[WN]at h;rcases Xn.1 h with h|h
  .obtain⟨h1,h2⟩:=WbB h;rw[h1];exact⟨Xm _,by rw[Xcz];exact h2⟩
  .obtain⟨h1,h2⟩:=WS ps (i+1) 0 vs.tail p h;refine⟨by omega,?_⟩;rw[show p.1-i=(p.1-(i+1))+1 by omega,←Xcg];exact h2
 | .clos _ n::ps,i,0,vs,p,h=>by
  simp only[WN]at h;rcases Xn.1 h with h|h
  .obtain⟨h1,h2⟩:=WbB h;rw[h1];exact⟨Xm _,by rw[Xcz];exact h2⟩
  .obtain⟨h1,h2⟩:=WS ps (i+1) n vs.tail p h;refine⟨by omega,?_⟩;rw[show p.1-i=(p.1-(i+1))+1 by omega,←Xcg];exact h2
 | .kv _ _::ps,i,k+1,vs,p,h=>WS ps i k vs p h
 | .kv _ _::ps,i,0,vs,p,h=>by
  simp only[WN]at h;rcases Xn.1 h with h|h
  .obtain⟨h1,h2⟩:=WbB h;rw[h1];exact⟨Xm _,by rw[Xcz];exact h2⟩
  .obtain⟨h1,h2⟩:=WS ps (i+1) 0 vs.tail p h;refine⟨by omega,?_⟩;rw[show p.1-i=(p.1-(i+1))+1 by omega,←Xcg];exact h2
 | .rp _::ps,i,k+1,vs,p,h=>WS ps i k vs p h
 | .rp _::ps,i,0,vs,p,h=>by
  obtain⟨h1,h2⟩:=WS ps (i+1) 0 vs.tail p h;refine⟨by omega,?_⟩;rw[show p.1-i=(p.1-(i+1))+1 by omega,←Xcg];exact h2
 | .vj _::ps,i,k+1,vs,p,h=>WS ps i k vs p h
 | .vj _::ps,i,0,vs,p,h=>by
  obtain⟨h1,h2⟩:=WS ps (i+1) 0 vs.tail p h;refine⟨by omega,?_⟩;rw[show p.1-i=(p.1-(i+1))+1 by omega,←Xcg];exact h2
 | .boxal _ _::ps,i,k+1,vs,p,h=>WS ps i k vs p h
 | .boxal _ _::ps,i,0,vs,p,h=>by
  simp only[WN]at h;rcases Xn.1 h with h|h
  .obtain⟨h1,h2⟩:=WbB h;rw[h1];exact⟨Xm _,by rw[Xcz];exact h2⟩
  .obtain⟨h1,h2⟩:=WS ps (i+2) 0 vs.tail.tail p h;refine⟨by omega,?_⟩;rw[show p.1-i=(p.1-(i+2))+1+1 by omega,←Xcg,←Xcg];exact h2
def WnU(tmps:Array Value):ResultVar->Sem Value
 | .tmp t=>pure (tmps.getD t undef)
 | .cell b t=>do loadVar t (←asAddr (tmps.getD b undef))
theorem Wl3(hT:Wap P T)(hr:Rel w0 F nt G0 G ν st a w):∀(l:List ResultVar) (xs:List AVal),WeQ T st l=some xs->
  ∃vs:List Value,(l.mapM (WnU a.tmps)).run P w= .ok vs w/\vs.length=xs.length/\
   ∀(j:Nat) (x:AVal) (v:Value),xs[j]?=some x->vs[j]?=some v->AValRel G ν st.nx x v
 | [],xs,h=>by
  simp only[WeQ]at h;injection h with h;subst h;exact⟨[],by simp,rfl,λj x v hj=>by simp at hj⟩
 | .tmp t::l,xs,h=>by
  simp only[WeQ]at h;split at h
  .rename_i x tZ h1 h2;injection h with h;subst h;obtain⟨vs,h3,h4,h5⟩:=Wl3 hT hr l tZ h2;obtain⟨v,hv,hx⟩:=hr.env t x h1;refine⟨v::vs,?_,by simp[h4],λj y u hj hu=>?_⟩
   .have bP:a.tmps.getD t undef=v:=by simp[Xcn,hv]
    simp only[Xfl,Sem.run_bind,WnU,Sem.run_pure,Result.andThen_ok,h3,bP]
   .cases j with
    |zero=>simp at hj hu;subst hj hu;exact hx
    |succ j=>exact h5 j y u (by simpa using hj) (by simpa using hu)
  .cases h
 | .cell b t::l,xs,h=>by
  simp only[WeQ]at h;split at h
  .rename_i x tZ h1 h2;injection h with h;subst h;obtain⟨vs,h3,h4,h5⟩:=Wl3 hT hr l tZ h2;cases hb:look st.env b with
   |none=>simp[hb]at h1
   |some y=>
    simp only[hb,Xc]at h1;obtain⟨v,hv,hx⟩:=hr.env b y hb;obtain⟨u,hu,vg⟩:=WhG hT hr.h hx h1;refine⟨u::vs,?_,by simp[h4],λj z q hj hq=>?_⟩
    .have bP:a.tmps.getD b undef=v:=by simp[Xcn,hv]
     unfold Instr.loadAt at hu;rw[Sem.run_bind]at hu;obtain⟨p,rfl⟩:∃p,v= .pointer (some p):=by
      unfold Instr.sureAddr at hu;split at hu
      .exact⟨_,rfl⟩
      .simp[stuck]at hu
     simp only[Instr.sureAddr,Sem.run_pure,Result.andThen_ok]at hu;have ha:(asAddr (.pointer (some p))).run P w= .ok p w:=rfl;simp only[Xfl,Sem.run_bind,WnU,Sem.run_pure,Result.andThen_ok,bP,ha,hu,h3]
    .cases j with
     |zero=>simp at hj hq;subst hj hq;exact vg
     |succ j=>exact h5 j z q (by simpa using hj) (by simpa using hq)
  .cases h
theorem WdS(h:HR w0 F G ν φ objs nx w)(hg:GLe G G'):∀(rs:List PTy) (xs:List AVal) (vs:List Value) (A:Outs (Whi rs)),vs.length=xs.length->
  (∀(j:Nat) (x:AVal) (v:Value),xs[j]?=some x->vs[j]?=some v->AValRel G ν nx x v)->Lent G' w φ objs A.lent->A.moved.Nodup->Wbh rs xs objs=some A->
  ∃ns,WgP G' w rs A.d vs ns/\Sep (fps ns)/\(∀q∈ns,CS.le q.fp (FromL φ objs A.moved))/\(∀i∈A.moved,Live objs i)
 | [],xs,vs,A,hlen,hx,hl,aP,hf=>by
  simp only[Wbh]at hf;split at hf
  .injection hf with hf;subst hf;have fh:vs= []:=Xaa (by simpa using hlen);exact⟨[],⟨fh,rfl⟩,List.Pairwise.nil,by simp,by simp⟩
  .cases hf
 | .v t agg::rs,xs,vs,A,hlen,hx,hl,aP,hf=>by
  simp only[Wbh]at hf;split at hf
  .rename_i x xs;split at hf
   .rename_i d m l A' h1 h2;injection hf with hf;subst hf
    match vs,hlen with
    |v::vs,hlen=>
     cases hc:cellsOf agg x with
     |none=>simp[hc]at h1
     |some cs=>
      simp[hc]at h1;obtain⟨k1,k2,k3⟩:=Xaj.1 aP;obtain⟨n1,g1,g2,g3,g4,_⟩:=WlR h hg (hx 0 x v rfl rfl) (hl.mono (λi hi=>Xl _ hi)) k1 hc h1;obtain⟨n2,g5,g6,g7,g8⟩:=WdS h hg rs xs vs A' (by simpa using hlen) (λj y u hj hu=>hx (j+1) y u (by simpa using hj) (by simpa using hu)) (hl.mono (λi hi=>Xh _ hi)) k2 h2;refine⟨n1++n2,⟨v,vs,n1,n2,rfl,rfl,g1,g5⟩,Wcp h g2 g6 g3 g7 (λi hi hj=>k3 i hi i hj rfl),λq hq=>?_,λi hi=>?_⟩
      .rcases Xn.1 hq with hq|hq
       .exactλb o hh=>FromL.mono (λi hi=>Xl _ hi) b o (g3 q hq b o hh)
       .exactλb o hh=>FromL.mono (λi hi=>Xh _ hi) b o (g7 q hq b o hh)
      .rcases Xn.1 hi with hi|hi
       .exact g4 i hi
       .exact g8 i hi
   .cases hf
  .cases hf
 | .box t::rs,xs,vs,A,hlen,hx,hl,aP,hf=>by
  simp only[Wbh]at hf;split at hf
  .rename_i id xs;split at hf
   .rename_i cs aZ;split at hf
    .rename_i d m l A' h1 h2;injection hf with hf;subst hf
     match vs,hlen with
     |v::vs,hlen=>
      obtain⟨k0,k1⟩:=Xai.1 aP;obtain⟨k2,k3,k4⟩:=Xaj.1 k1;obtain⟨⟨_,b,hνb,rfl⟩,_⟩:=hx 0 _ v rfl rfl;have aC:Live objs id:=⟨_,aZ,by simp⟩;obtain⟨b'',us,lM,hrow,hmem,bz,eG⟩:WcG G ν nx w id (φ id) (.box cs):=h.ob _ _ aZ;rw[hνb]at lM;injection lM with lM;subst lM;obtain⟨n1,g1,g2,g3,g4,_⟩:=Wal h hg t cs us d m l bz (hl.mono (λi hi=>Xl _ hi)) k2 h1;have cH:cs.length=t.size:=by rw[←bz.1];exact WE _ _ _ _ g1
      obtain⟨n2,g5,g6,g7,g8⟩:=WdS h hg rs xs vs A' (by simpa using hlen) (λj y u hj hu=>hx (j+1) y u (by simpa using hj) (by simpa using hu)) (hl.mono (λi hi=>Xh _ hi)) k3 h2;rw[cH]at hrow eG;refine⟨⟨Wcb b ((ν id).off+0),rng b ((ν id).off+0) t.size⟩::(n1++n2),⟨b,(ν id).off+0,vs,n1,n2,rfl,rfl,⟨us,hrow,hmem,g1⟩,g5⟩,?_,λq hq=>?_,λi hi=>?_⟩
      .refine Wcp h (n1:=[⟨Wcb b ((ν id).off+0),rng b ((ν id).off+0) t.size⟩]) (m:=[id]) (l:=m++A'.moved) (Xbg _ _) (Wcp h g2 g6 g3 g7 (λi hi hj=>k4 i hi i hj rfl)) (λq hq=>?_) (λq hq=>?_) (λi hi hj=>k0 (by rw[←Xac.1 hi];exact hj))
       .rw[Xac.1 hq];exactλb o hh=>⟨id,by simp,aC,eG b o hh⟩
       .rcases Xn.1 hq with hq|hq
        .exactλb o hh=>FromL.mono (λi hi=>Xl _ hi) b o (g3 q hq b o hh)
        .exactλb o hh=>FromL.mono (λi hi=>Xh _ hi) b o (g7 q hq b o hh)
      .rcases Xq.1 hq with rfl|hq
       .exactλb o hh=>⟨id,by simp,aC,eG b o hh⟩
       .rcases Xn.1 hq with hq|hq
        .exactλb o hh=>FromL.mono (λi hi=>Xe _ (Xl _ hi)) b o (g3 q hq b o hh)
        .exactλb o hh=>FromL.mono (λi hi=>Xe _ (Xh _ hi)) b o (g7 q hq b o hh)
      .rcases Xq.1 hi with rfl|hi
       .exact aC
       .rcases Xn.1 hi with hi|hi
        .exact g4 i hi
        .exact g8 i hi
    .cases hf
   .cases hf
  .cases hf
 | .mut _::_,_,_,_,_,_,_,_,h=>by simp only[Wbh]at h;cases h
 | .clos _ _::_,_,_,_,_,_,_,_,h=>by simp only[Wbh]at h;cases h
 | .kv _ _::_,_,_,_,_,_,_,_,h=>by simp only[Wbh]at h;cases h
 | .rp _::_,_,_,_,_,_,_,_,h=>by simp only[Wbh]at h;cases h
 | .vj t::rs,xs,vs,A,hlen,hx,hl,aP,hf=>by
  simp only[Wbh]at hf;split at hf
  .rename_i cs xs;split at hf
   .rename_i hcl;split at hf
    .rename_i d m l A' h1 h2;injection hf with hf;subst hf
     match vs,hlen with
     |v::vs,hlen=>
      obtain⟨k1,k2,k3⟩:=Xaj.1 aP;obtain⟨us,rfl,bz⟩:=hx 0 _ v rfl rfl;obtain⟨n1,g1,g2,g3,g4,_⟩:=Wal h hg t (cs.take t.size) (us.take t.size) d m l (bz.take t.size) (hl.mono (λi hi=>Xl _ hi)) k1 h1;obtain⟨n2,g5,g6,g7,g8⟩:=WdS h hg rs xs vs A' (by simpa using hlen) (λj y u hj hu=>hx (j+1) y u (by simpa using hj) (by simpa using hu)) (hl.mono (λi hi=>Xh _ hi)) k2 h2;have cH:us.length=t.size+1:=by rw[bz.1,hcl]
      have hlt:t.size<us.length:=by omega
      have e0:us=us.take t.size++ [us[t.size]]:=by
       rw[←List.take_succ_eq_append_getElem hlt,Xdo (by omega)]
      have ho:=(bz.2 t.size (cs[t.size]'(by omega)) us[t.size] (Xp (by omega)) (Xp hlt)).2;refine⟨n1++n2,⟨us.take t.size,us[t.size],vs,n1,n2,by rw[←e0],ho,rfl,g1,g5⟩,Wcp h g2 g6 g3 g7 (λi hi hj=>k3 i hi i hj rfl),λq hq=>?_,λi hi=>?_⟩
      .rcases Xn.1 hq with hq|hq
       .exactλb o hh=>FromL.mono (λi hi=>Xl _ hi) b o (g3 q hq b o hh)
       .exactλb o hh=>FromL.mono (λi hi=>Xh _ hi) b o (g7 q hq b o hh)
      .rcases Xn.1 hi with hi|hi
       .exact g4 i hi
       .exact g8 i hi
    .cases hf
   .cases hf
  .cases hf
 | .boxal _ _::_,_,_,_,_,_,_,_,h=>by simp only[Wbh]at h;cases h
theorem WoG{p:PTy}{ps:List PTy}{k:Nat}(h:Wkc (p::ps) (k+1)=true):(∃t,p= .box t)/\Wkc ps k=true:=by
 cases p with
 |box t=>exact⟨⟨t,rfl⟩,h⟩
 |_=>cases h
theorem WgG(hr:Rel w0 F nt G0 G ν st a w){i:Nat}{u:Value}(hp:a.tmps[i]?=some u):(look st.env i).getD (.tup [])= .tup []\/AValRel G ν st.nx ((look st.env i).getD (.tup [])) u:=by
 cases he:look st.env i with
 |none=>exact .inl rfl
 |some y=>
  obtain⟨v,hv,hx⟩:=hr.env i y he;rw[hp]at hv;injection hv with hv;subst hv;exact .inr hx
theorem WaK{wb:World}{Gb:GH}(hr:Rel w0 F nt G0 G ν st a w):∀(ps:List PTy) (d:WfC ps) (vs:List Value) (ns:List Pc) (ks:List Nu) (i k:Nat),Wbu Gb wb ps d vs ns ks->Wcx ps=true->Wkc ps k=true->k<=vs.length->
  (∀p∈WN ps i k (vs.drop k),a.tmps[p.1]?=some p.2)->(WA ps i k st).length+k=vs.length/\
  ∀(j:Nat) (x:AVal) (v:Value),(WA ps i k st)[j]?=some x->vs[k+j]?=some v->x= .tup []\/AValRel G ν st.nx x v
 | [],d,vs,ns,ks,i,k,⟨h1,_,_⟩,_,_,hk,_=>by
  subst h1;have:k=0:=by simpa using hk
  subst this;exact⟨rfl,λj x v hj=>by simp[WA]at hj⟩
 |p::ps,d,vs,ns,ks,i,k+1,h,hc,hb,hk,hp=>by
  obtain⟨⟨t,rfl⟩,hb'⟩:=WoG hb;obtain⟨b,o,vs',n1,n2,ks',h1,h2,h3,h4,h6⟩:=h;subst h1;have gL:Wcx ps=true:=hc;obtain⟨e1,e2⟩:=WaK hr ps d.2 vs' n2 ks' i k h6 gL hb' (by simpa using hk) (by simpa [WN]using hp);refine⟨by simp only[WA,Xr];omega,λj x v hj hv=>e2 j x v (by simpa [WA]using hj) ?_⟩;rw[show k+1+j=(k+j)+1 by omega]at hv;simpa using hv
 | .v t agg::ps,d,vs,ns,ks,i,0,⟨v,vs',n1,n2,h1,h2,h3,h4⟩,hc,_,_,hp=>by
  subst h1;obtain⟨e1,e2⟩:=WaK hr ps d.2 vs' n2 ks (i+1) 0 h4 hc (by cases ps<;>rfl) (Xbp _) (by simpa [WN]using hp);refine⟨by simp only[WA,Xr];omega,λj x u hj hu=>?_⟩;cases j with
  |zero=>simp[WA]at hj;exact .inl hj.symm
  |succ j=>exact e2 j x u (by simpa [WA]using hj) (by simpa using hu)
 | .rp t::ps,d,vs,ns,ks,i,0,⟨b,o,us,vs',h1,h2,h3,h4⟩,hc,_,_,hp=>by
  subst h1;obtain⟨e1,e2⟩:=WaK hr ps d.2 vs' ns ks (i+1) 0 h4 hc (by cases ps<;>rfl) (Xbp _) (by simpa [WN]using hp);refine⟨by simp only[WA,Xr];omega,λj x u hj hu=>?_⟩;cases j with
  |zero=>simp[WA]at hj;exact .inl hj.symm
  |succ j=>exact e2 j x u (by simpa [WA]using hj) (by simpa using hu)
 | .box t::ps,d,vs,ns,ks,i,0,⟨b,o,vs',n1,n2,ks',h1,h2,h3,h4,h6⟩,hc,_,_,hp=>by
  subst h1;simp only[WN,Xby,Xep]at hp;obtain⟨e1,e2⟩:=WaK hr ps d.2 vs' n2 ks' (i+1) 0 h6 hc (by cases ps<;>rfl) (Xbp _) (λp gK=>hp p (Xh _ (by simpa using gK)));refine⟨by simp only[WA,Xr];omega,λj x u hj hu=>?_⟩;cases j with
  |zero=>
   simp[WA]at hj hu;subst hj hu;exact WgG hr (hp (i,_) (Xl _ (Xg ..)))
  |succ j=>exact e2 j x u (by simpa [WA]using hj) (by simpa using hu)
 | .vj _::_,_,_,_,_,_,_,h,_,_,_,_=>h.elim
 | .boxal t lf::ps,d,vs,ns,ks,i,0,⟨b,o,b',pc,vs',n1,n2,ks',h1,h2,h3,h4,h5,h6,h7,h8⟩,hc,_,_,hp=>by
  subst h1;simp only[WN,Xby,Xep]at hp;obtain⟨e1,e2⟩:=WaK hr ps d.2.2 vs' n2 ks' (i+2) 0 h8 hc (by cases ps<;>rfl) (Xbp _) (λp gK=>hp p (Xh _ (by simpa using gK)));refine⟨by simp only[WA,Xr];omega,λj x u hj hu=>?_⟩
  match j with
  |0=>
   simp[WA]at hj hu;subst hj hu;exact WgG hr (hp (i,_) (Xl _ (Xg ..)))
  |1=>simp[WA]at hj;exact .inl hj.symm
  |j+2=>exact e2 j x u (by simpa [WA]using hj) (by simpa using hu)
 | .mut e::ps,d,vs,ns,ks,i,0,⟨pc,vs',n2,ks',h1,h2,h3,h4,h5⟩,hc,_,_,hp=>by
  subst h1;simp only[WN,Xby,Xep]at hp;obtain⟨e1,e2⟩:=WaK hr ps d.2 vs' n2 ks' (i+1) 0 h5 hc (by cases ps<;>rfl) (Xbp _) (λp gK=>hp p (Xh _ (by simpa using gK)));refine⟨by simp only[WA,Xr];omega,λj x u hj hu=>?_⟩;cases j with
  |zero=>
   simp[WA]at hj hu;subst hj hu;exact WgG hr (hp (i,_) (Xl _ (Xg ..)))
  |succ j=>exact e2 j x u (by simpa [WA]using hj) (by simpa using hu)
 | .clos g n::ps,d,vs,ns,ks,i,0,⟨cvs,vs',h1,h2,h3,h4⟩,hc,_,_,hp=>by
  subst h1;simp only[Wcx,Xi]at hc;simp only[WN,Xby,Xep]at hp;obtain⟨e1,e2⟩:=WaK hr ps d (cvs++vs') ns ks (i+1) n h4 hc.2 hc.1 (by simp[h2]) (λp gK=>hp p (Xh _ (by rw[List.drop_left' h2]at gK;exact gK)));refine⟨by simp only[WA,Xr];simp at e1;omega,λj x u hj hu=>?_⟩;cases j with
  |zero=>
   simp[WA]at hj hu;subst hj hu;exact WgG hr (hp (i,_) (Xl _ (Xg ..)))
  |succ j=>exact e2 j x u (by simpa [WA]using hj) (by rw[Xcj (by omega),h2,Xch];simpa using hu)
 | .kv t agg::ps,d,vs,ns,ks,i,0,⟨v,vs',n1,n2,ks',h1,h2,jt,h3,h4⟩,hc,_,_,hp=>by
  subst h1;simp only[WN,Xby,Xep]at hp;obtain⟨e1,e2⟩:=WaK hr ps d.2 vs' n2 ks' (i+1) 0 h4 hc (by cases ps<;>rfl) (Xbp _) (λp gK=>hp p (Xh _ (by simpa using gK)));refine⟨by simp only[WA,Xr];omega,λj x u hj hu=>?_⟩;cases j with
  |zero=>
   simp[WA]at hj hu;subst hj hu;exact WgG hr (hp (i,_) (Xl _ (Xg ..)))
  |succ j=>exact e2 j x u (by simpa [WA]using hj) (by simpa using hu)
theorem Wqk{G G':GH}{wb w:World}{nu rY:Nu}{e:Ty}{xs ys:List e.den}{S S':CS}(h4:OwnL wb (TyRel G wb e) e.size nu xs S)(hown:OwnL w (TyRel G' w e) e.size rY ys S')(hx:nu.hdr=rY.hdr):OwnL w (TyRel G' w e) e.size nu ys S':=by
 unfold Nu.hdr at hx;cases hb:rY.blk with
 |none=>
  cases hb':nu.blk with
  |some b=>simp[hb,hb']at hx
  |none=>
   have k1:=Wcz h4 hb';have k2:=Wcz hown hb;refine⟨by rw[k2,←h4.1,k1],h4.2.1,?_⟩;simp only[hb'];exact k2
 |some b=>
  cases hb':nu.blk with
  |none=>simp[hb,hb']at hx
  |some b'=>
   simp only[hb,hb']at hx;injection hx with x1 x2 x3;injection x1 with x1;injection x1 with x1 x4 _;have e1:=h4.2.1;have e2:=hown.2.1;have:nu=rY:=by
    obtain⟨a1,a2,a3,a4,a5⟩:=nu;obtain⟨b1,b2,b3,b4,b5⟩:=rY;simp only at hb hb' x1 x2 x3 x4 e1 e2;subst hb hb' x1 x2 x3 x4;rw[e1,e2]
   rw[this];exact hown
theorem We7{G G':GH}{wb w:World}:∀(t:Ty) (d0 d:t.den) (us:List Value) (n1 n2:List Pc),TyRel G wb t d0 us n1->TyRel G' w t d us n2->∃n3,TyRel G' w t d us n3/\nus n3=nus n1/\fps n3=fps n2
 | .own e,d0,d,us,n1,n2,⟨pc,h1,h2,h3⟩,⟨dU,g1,g2,g3⟩=>by
  subst h1 g1;have hx:pc.nu.hdr=dU.nu.hdr:=by rw[h2]at g2;simpa using g2
  exact⟨[⟨pc.nu,dU.fp⟩],⟨_,rfl,h2,Wqk h3 g3 hx⟩,rfl,rfl⟩
 | .prod a b,d0,d,us,n1,n2,⟨v1,v2,m1,m2,h1,h2,h3,h4⟩,⟨u1,u2,k1,k2,g1,g2,g3,g4⟩=>by
  have l1:=WE a _ _ _ h3;have l2:=WE a _ _ _ g3;obtain⟨q1,q2⟩:=List.append_inj (h1.symm.trans g1) (by rw[l1,l2]);subst q1 q2 h2 g2;obtain⟨a1,a2,a3,a4⟩:=We7 a _ _ _ _ _ h3 g3;obtain⟨b1,b2,b3,b4⟩:=We7 b _ _ _ _ _ h4 g4;exact⟨a1++b1,⟨_,_,a1,b1,h1,rfl,a2,b2⟩,by unfold nus at a3 b3⊢;rw[Xz,Xz,a3,b3],by unfold fps at a4 b4⊢;rw[Xz,Xz,a4,b4]⟩
 | .int _,d0,d,us,n1,n2,h,g=>by obtain⟨h1,_⟩:=h;obtain⟨g1,g2⟩:=g;subst h1 g1;exact⟨[],⟨rfl,g2⟩,rfl,rfl⟩
 | .bool,d0,d,us,n1,n2,h,g=>by obtain⟨h1,_⟩:=h;obtain⟨g1,g2⟩:=g;subst h1 g1;exact⟨[],⟨rfl,g2⟩,rfl,rfl⟩
 | .str,d0,d,us,n1,n2,h,g=>by obtain⟨h1,_⟩:=h;obtain⟨g1,g2⟩:=g;subst h1 g1;exact⟨[],⟨rfl,g2⟩,rfl,rfl⟩
 | .slice _,d0,d,us,n1,n2,h,g=>by obtain⟨h1,_⟩:=h;obtain⟨g1,g2⟩:=g;subst h1 g1;exact⟨[],⟨rfl,g2⟩,rfl,rfl⟩
theorem WsY{G G':GH}{wb w:World}{t:Ty}{agg:Bool}{d0 d:t.den}{v:Value}{n1 n2:List Pc}(h:WjK G wb t agg d0 v n1)(g:WjK G' w t agg d v n2):∃us n3,TyRel G' w t d us n3/\nus n3=nus n1/\fps n3=fps n2:=by
 unfold WjK at h g;split at h
 .rename_i ha;rw[Wb ha]at g;obtain⟨us,h1,h2⟩:=h;obtain⟨zt,g1,g2⟩:=g;have:us=zt:=by
   rw[h1]at g1;injection g1 with g1;have:=Wk Array.toList g1;simpa using this
  subst this;exact⟨us,We7 _ _ _ _ _ _ h2 g2⟩
 .rename_i ha;rw[Wa ha]at g;exact⟨_,We7 _ _ _ _ _ _ h g⟩
structure OOk(G':GH)(φ:Nat->CS)(objs:Wak)(w:World)(ps:List PTy)(B:OutK (Wgg ps))(ks:List Nu)(kf:List CS)(ms:List Pc):Prop where
 outs:WbI G' w ps B.d ks kf ms
 sepk:Sep kf
 sepm:Sep (fps ms)
 kf:∀S∈kf,CS.le S (FromL φ objs B.kept)
 ms:∀q∈ms,CS.le q.fp (FromL φ objs B.moved)
theorem Wyq(h:HR w0 F G ν φ objs nx w){k1 k2:List CS}{m l:List Nat}(h1:Sep k1)(h2:Sep k2)(g1:∀S∈k1,CS.le S (FromL φ objs m))(g2:∀S∈k2,CS.le S (FromL φ objs l))(hd:∀i∈m,i∉l):Sep (k1++k2):=
 Wou h1 h2 (A:=FromL φ objs m) (B:=FromL φ objs l) g1 g2 (FromL.disj h hd)
theorem WhI{wb:World}{Gb:GH}(hg:GLe G G')(h:HR w0 F G ν φ objs nx w){t:Ty}{ps:List PTy}{id b o:Nat}{cs:List Cell}{dd:t.den}{m l:List Nat}{A:OutK (Wgg ps)}{ks:List Nu}{kf:List CS}{ms:List Pc}
  (hx:CellRel G ν nx (.ptr id 0) (.pointer (some ⟨b,o,none⟩))) (ho:look objs id=some (.box cs)) (g1:Waz t cs objs=some (dd,m,l)) (hl:Lent G' w φ objs l) (hk:(id::A.kept).Nodup) (hm:(m++A.moved).Nodup) (hA:OOk G' φ objs w ps A ks kf ms):
  ∃nn,WfA G' w t dd b o nn/\Sep (rng b o t.size::kf)/\Sep (fps (nn++ms))/\(∀S∈rng b o t.size::kf,CS.le S (FromL φ objs (id::A.kept)))/\(∀q∈nn++ms,CS.le q.fp (FromL φ objs (m++A.moved))):=by
 obtain⟨_,b',zu,kn⟩:=hx;injection kn with kn;injection kn with kn;injection kn with kn lD _;subst kn lD;have aC:Live objs id:=⟨_,ho,by simp⟩;obtain⟨b'',us,ue,hrow,hmem,bz,eG⟩:WcG G ν nx w id (φ id) (.box cs):=h.ob _ _ ho;rw[zu]at ue;injection ue with ue;subst ue;obtain⟨k1,k2⟩:=Xai.1 hk;obtain⟨k3,k4,k5⟩:=Xaj.1 hm;obtain⟨nn,e1,e2,e3,_⟩:=Wal h hg t cs us dd m l bz hl k3 g1;have cH:cs.length=t.size:=by rw[←bz.1];exact WE _ _ _ _ e1
 rw[cH]at hrow eG;have ge:CS.le (rng b ((ν id).off+0) t.size) (FromL φ objs [id]):=λb o hh=>⟨id,by simp,aC,eG b o hh⟩;refine⟨nn,⟨us,hrow,hmem,e1⟩,?_,Wcp h e2 hA.sepm e3 hA.ms (λi hi hj=>k5 i hi i hj rfl),λS hS=>?_,λq hq=>?_⟩
 .exact Wyq h (k1:=[rng b ((ν id).off+0) t.size]) (m:=[id]) (Xbg _ _) hA.sepk (λS hS=>by rw[Xac.1 hS];exact ge) hA.kf (λi hi hj=>k1 (by rw[←Xac.1 hi];exact hj))
 .rcases Xq.1 hS with rfl|hS
  .exactλb o hh=>FromL.mono (λi hi=>by rw[Xac.1 hi];exact Xg ..) b o (ge b o hh)
  .exactλb o hh=>FromL.mono (λi hi=>Xe _ hi) b o (hA.kf S hS b o hh)
 .rcases Xn.1 hq with hq|hq
  .exactλb o hh=>FromL.mono (λi hi=>Xl _ hi) b o (e3 q hq b o hh)
  .exactλb o hh=>FromL.mono (λi hi=>Xh _ hi) b o (hA.ms q hq b o hh)
theorem Wa3{wb:World}{Gb:GH}(hg:GLe G G')(h:HR w0 F G ν φ objs nx w):∀(ps:List PTy) (d:WfC ps) (vs:List Value) (ns:List Pc) (ks:List Nu) (xs:List AVal) (B:OutK (Wgg ps)),Wbu Gb wb ps d vs ns ks->xs.length=vs.length->
  (∀(j:Nat) (x:AVal) (v:Value),xs[j]?=some x->vs[j]?=some v->x= .tup []\/AValRel G ν nx x v)->Lent G' w φ objs B.lent->B.kept.Nodup->B.moved.Nodup->W3 ps xs objs=some B->
  ∃kf ms,OOk G' φ objs w ps B ks kf ms
 | [],d,vs,ns,ks,xs,B,⟨_,_,hk⟩,_,_,_,_,_,hf=>by
  simp only[W3]at hf;injection hf with hf;subst hf;exact⟨[],[],⟨hk,rfl,rfl⟩,List.Pairwise.nil,List.Pairwise.nil,by simp,by simp⟩
 | .v t agg::ps,d,vs,ns,ks,xs,B,⟨v,vs',n1,n2,h1,h2,h3,h4⟩,hlen,hp,hl,hk,hm,hf=>by
  subst h1;simp only[W3]at hf;cases hA:W3 ps xs.tail objs with
  |none=>simp[hA]at hf
  |some A=>
   simp[hA]at hf;subst hf
   match xs,hlen with
   |x::xs,hlen=>
    obtain⟨kf,ms,hO⟩:=Wa3 hg h ps d.2 vs' n2 ks xs A h4 (by simpa using hlen) (λj y u hj hu=>hp (j+1) y u (by simpa using hj) (by simpa using hu)) hl hk hm hA;exact⟨kf,ms,hO.outs,hO.sepk,hO.sepm,hO.kf,hO.ms⟩
 | .rp t::ps,d,vs,ns,ks,xs,B,⟨b,o,us,vs',h1,h2,h3,h4⟩,hlen,hp,hl,hk,hm,hf=>by
  subst h1;simp only[W3]at hf;cases hA:W3 ps xs.tail objs with
  |none=>simp[hA]at hf
  |some A=>
   simp[hA]at hf;subst hf
   match xs,hlen with
   |x::xs,hlen=>
    obtain⟨kf,ms,hO⟩:=Wa3 hg h ps d.2 vs' ns ks xs A h4 (by simpa using hlen) (λj y u hj hu=>hp (j+1) y u (by simpa using hj) (by simpa using hu)) hl hk hm hA;exact⟨kf,ms,hO.outs,hO.sepk,hO.sepm,hO.kf,hO.ms⟩
 | .box t::ps,d,vs,ns,ks,xs,B,⟨b,o,vs',n1,n2,ks',h1,h2,h3,h4,h6⟩,hlen,hp,hl,hk,hm,hf=>by
  subst h1;simp only[W3]at hf;split at hf
  .rename_i id xs;split at hf
   .rename_i cs ho;split at hf
    .rename_i dd m l A g1 g2;injection hf with hf;subst hf;have hx:=((hp 0 _ _ rfl rfl).resolve_left (λe=>by cases e)).1;obtain⟨kf,ms,hO⟩:=Wa3 hg h ps d.2 vs' n2 ks' xs A h6 (by simpa using hlen) (λj y u hj hu=>hp (j+1) y u (by simpa using hj) (by simpa using hu)) (hl.mono λj hj=>Xh _ hj) (Xai.1 hk).2 (Xaj.1 hm).2.1 g2;obtain⟨nn,e1,e2,e3,e4,e5⟩:=WhI (wb:=wb) (Gb:=Gb) hg h hx ho g1 (hl.mono λj hj=>Xl _ hj) hk hm hO;exact⟨_,nn++ms,⟨b,o,ks',kf,nn,ms,h3,rfl,rfl,e1,hO.outs⟩,e2,e3,e4,e5⟩
    .cases hf
   .cases hf
  .cases hf
 | .vj _::_,_,_,_,_,_,_,h,_,_,_,_,_,_=>h.elim
 | .boxal t lf::ps,d,vs,ns,ks,xs,B,⟨b,o,b',pc,vs',n1,n2,ks',h1,h2,h3,h4,h5,h6,h7,h8⟩,hlen,hp,hl,hk,hm,hf=>by
  subst h1;simp only[W3]at hf;split at hf
  .rename_i id y xs;split at hf
   .rename_i cs ho;split at hf
    .rename_i dd m l A g1 g2;injection hf with hf;subst hf;have hx:=((hp 0 _ _ rfl rfl).resolve_left (λe=>by cases e)).1;obtain⟨kf,ms,hO⟩:=Wa3 hg h ps d.2.2 vs' n2 ks' xs A h8 (by simpa using hlen) (λj y u hj hu=>hp (j+2) y u (by simpa using hj) (by simpa using hu)) (hl.mono λj hj=>Xh _ hj) (Xai.1 hk).2 (Xaj.1 hm).2.1 g2;obtain⟨nn,e1,e2,e3,e4,e5⟩:=WhI (wb:=wb) (Gb:=Gb) hg h hx ho g1 (hl.mono λj hj=>Xl _ hj) hk hm hO;exact⟨_,nn++ms,⟨b,o,ks',kf,nn,ms,h3,rfl,rfl,e1,hO.outs⟩,e2,e3,e4,e5⟩
    .cases hf
   .cases hf
  .cases hf
 | .mut e::ps,d,vs,ns,ks,xs,B,⟨pc,vs',n2,ks',h1,h2,h3,h4,h5⟩,hlen,hp,hl,hk,hm,hf=>by
  subst h1;simp only[W3]at hf;split at hf
  .rename_i id xs;split at hf
   .rename_i e' ys ho;split at hf
    .rename_i dd A g1 g2;injection hf with hf;subst hf;obtain⟨dV,hd⟩:=Way g1;subst dV;simp only at hd;subst hd;obtain⟨⟨_,hx⟩,_⟩:=(hp 0 _ _ rfl rfl).resolve_left (λe=>by cases e);have aC:Live objs id:=⟨_,ho,by simp⟩;have hown:OwnL w (TyRel G w e') e'.size (ν id) ys (φ id):=h.ob _ _ ho;have hown':=WcZ hg (Same.refl _ w) (λ_ _ hh=>hh) hown;obtain⟨k1,k2⟩:=Xai.1 hk;obtain⟨kf,ms,hO⟩:=Wa3 hg h ps d.2 vs' n2 ks' xs A h5 (by simpa using hlen) (λj y u hj hu=>hp (j+1) y u (by simpa using hj) (by simpa using hu)) hl k2 hm g2;refine⟨φ id::kf,ms,⟨⟨pc.nu,φ id⟩,ks',kf,h3,rfl,Wqk h4 hown' hx,hO.outs⟩,?_,hO.sepm,λS hS=>?_,hO.ms⟩
     .exact Wyq h (k1:=[φ id]) (m:=[id]) (Xbg _ _) hO.sepk (λS hS=>by rw[Xac.1 hS];exact FromL.one (by simp) aC) hO.kf (λi hi hj=>k1 (by rw[←Xac.1 hi];exact hj))
     .rcases Xq.1 hS with rfl|hS
      .exact FromL.one (Xg ..) aC
      .exactλb o hh=>FromL.mono (λi hi=>Xe _ hi) b o (hO.kf S hS b o hh)
    .cases hf
   .cases hf
  .cases hf
 | .clos g n::ps,d,vs,ns,ks,xs,B,⟨cvs,vs',h1,h2,h3,h4⟩,hlen,hp,hl,hk,hm,hf=>by
  subst h1;simp only[W3]at hf;split at hf
  .rename_i g' caps xs;split at hf
   .rename_i hc;obtain⟨rfl,hcl⟩:=hc;cases hA:W3 ps (Wkt caps++xs) objs with
    |none=>simp[hA]at hf
    |some A=>
     simp[hA]at hf;subst hf;obtain⟨⟨us,qH,uf,xr⟩,_⟩:=(hp 0 _ _ rfl rfl).resolve_left (λe=>by cases e);have jp:us=cvs:=by
      injection qH with _ _ qH;have:=Wk Array.toList qH;simpa using this.symm
     subst jp;obtain⟨kf,ms,hO⟩:=Wa3 hg h ps d (us++vs') ns ks (Wkt caps++xs) A h4 (by simp[Wkt,uf];simpa using hlen) (λj y u hj hu=>by
      rw[Xaw]at hj hu;simp only[Wkt,List.length_map]at hj;rw[uf]at hu;split at hj
      .rename_i hlt;rw[Wb hlt]at hu;rw[Xas]at hj;obtain⟨id,bv,rfl⟩:=Xy.1 hj;obtain⟨q1,q3,q2⟩:=xr _ id u bv hu;exact .inr ⟨⟨q1,q2⟩,q3⟩
      .rename_i hlt;rw[Wa hlt]at hu;exact hp (j-caps.length+1) y u (by simpa using hj) (by simpa using hu)) hl hk hm hA
     exact⟨kf,ms,hO.outs,hO.sepk,hO.sepm,hO.kf,hO.ms⟩
   .cases hf
  .cases hf
 | .kv t agg::ps,d,vs,ns,ks,xs,B,⟨v,vs',n1,n2,ks',h1,h2,jt,h3,h4⟩,hlen,hp,hl,hk,hm,hf=>by
  subst h1;simp only[W3]at hf;split at hf
  .rename_i x xs;split at hf
   .rename_i dd m l A g1 g2;split at hf
    .rename_i gi;injection hf with hf;subst hf;cases hc:cellsOf agg x with
     |none=>simp[hc]at g1
     |some cs=>
      simp[hc]at g1;obtain⟨k1,k2,k3⟩:=Xaj.1 hk;have hx:=(hp 0 _ _ rfl rfl).resolve_left (λe=>by subst e;cases hc);have be:Lent G' w φ objs l:=hl.mono λj hj=>Xl _ hj;obtain⟨_,_,_,_,q4,_⟩:=WlR h hg hx be k1 hc g1;obtain⟨v1,_⟩:=Wmu h hg hx be hc g1 gi;obtain⟨us,n3,r1,r2,r3⟩:=WsY h3 v1;obtain⟨kf,ms,hO⟩:=Wa3 hg h ps d.2 vs' n2 ks' xs A h4 (by simpa using hlen) (λj y u hj hu=>hp (j+1) y u (by simpa using hj) (by simpa using hu)) (hl.mono λj hj=>Xh _ hj) k2 hm g2;have gp:∀S∈fps n3,CS.le S (FromL φ objs m):=λS hS=>by
       rw[r3,Wo7]at hS;obtain⟨i,hi,rfl⟩:=Xw.1 hS;exact FromL.one hi (q4 i hi)
      have gs:Sep (fps n3):=by
       rw[r3,Wo7];refine List.pairwise_map.2 (k1.imp_of_mem λ{i j} hi hj hne=>?_)
       exactλb o h1 h2=>hne (h.inj i j b o (q4 i hi) (q4 j hj) h1 h2)
      refine⟨fps n3++kf,ms,⟨n3,ks',kf,us,by rw[jt,r2],rfl,r1,hO.outs⟩,Wyq h gs hO.sepk gp hO.kf (λi hi hj=>k3 i hi i hj rfl),hO.sepm,λS hS=>?_,hO.ms⟩;rcases Xn.1 hS with hS|hS
      .exactλb o hh=>FromL.mono (λi hi=>Xl _ hi) b o (gp S hS b o hh)
      .exactλb o hh=>FromL.mono (λi hi=>Xh _ hi) b o (hO.kf S hS b o hh)
    .cases hf
   .cases hf
  .cases hf
end
end Go.Sx
namespace Go.Sx
set_option linter.unusedVariables false
set_option linter.unusedSimpArgs false
section
variable{P:Program}{T:Tab}{Γ:Ctx}
theorem Wvq{sg:Sig}{d:WfC sg.ps}{G:GH}{w:World}{vs:List Value}{ns:List Pc}{ks:List Nu}{n:Nat}(hn:Wb5 sg.ps<=n)(eH:Wcx sg.ps=true)(hargs:Wbu G w sg.ps d vs ns ks)(hsep:Sep (fps ns))
  (hfree:∀q∈ns,∀b off,q.fp b off->G b off=none/\b<w.heap.size) (hg:∀b o v,G b o=some v->w.cell? ⟨b,o,none⟩=some v):
  ∃ν,Rel w (Of ns) ⟨n,WN sg.ps 0 0 vs⟩ G G ν {env:=Whc 0 (WU sg.ps d [] 0).1,objs:=(WU sg.ps d [] 0).2.1,nx:=(WU sg.ps d [] 0).2.2}
   {tmps:=vs.toArray++Xef (n-vs.toArray.size) undef,defers:=[]} w:=by
 obtain⟨ν,hν⟩:∃ν:Nat->Nu,ν= λi=>((nus ns)[i]?).getD ⟨none,0,0,0,0⟩:=⟨_,rfl⟩;obtain⟨φ,hφ⟩:∃φ:Nat->CS,φ= λi=>((fps ns)[i]?).getD (λ_ _=>False):=⟨_,rfl⟩;have hAt:At ν φ 0 ns:=λj pc hj=>by
  have e1:(nus ns)[j]?=some pc.nu:=by unfold nus;rw[Xas,hj];rfl
  have e2:(fps ns)[j]?=some pc.fp:=by unfold fps;rw[Xas,hj];rfl
  rw[hν,hφ];simp only[Xbc,e1,e2];exact⟨rfl,rfl⟩
 obtain⟨h1,h2,h3,h4⟩:=Wcs (ν:=ν) (φ:=φ) sg.ps d vs ns ks [] 0 (0+ns.length) eH hargs hAt (Xm _);have tR:=Wdl _ _ _ _ _ hargs;have cx:∀id,Live (WU sg.ps d [] 0).2.1 id->id<ns.length:=λid ⟨ob,ho,_⟩=>by
  rcases h2 id ob ho with⟨_,h,_⟩|h
  .simpa using h
  .cases h
 have ar:∀id b o,φ id b o->∃q,ns[id]?=some q/\(fps ns)[id]?=some q.fp/\q.fp b o:=λid b o hp=>by
  rw[hφ]at hp
  try simp only at hp
  cases hq:ns[id]? with
  |none=>
   have:(fps ns)[id]?=none:=by unfold fps;rw[Xas,hq];rfl
   rw[this]at hp;exact hp.elim
  |some q=>
   have:(fps ns)[id]?=some q.fp:=by unfold fps;rw[Xas,hq];rfl
   rw[this]at hp;exact⟨q,rfl,this,hp⟩
 have xt:∀(i:Nat) (v:Value),vs[i]?=some v->(vs.toArray++Xef (n-vs.toArray.size) undef)[i]?=some v:=λi v hi=>by
  have hlt:=(Xad.1 hi).1;rw[Array.getElem?_append_left (by simpa using hlt)];simpa using hi
 refine⟨ν,rfl,by simp;omega,λp hp=>?_,λi x hx=>?_,⟨φ,?_⟩,λ_ _ _ hh=>hh,λ_ _ _ hh=>.inl hh⟩
 .obtain⟨_,g2⟩:=WS _ _ _ _ p hp;exact xt _ _ (by simpa using g2)
 .simp only at hx;rw[WhF]at hx;simp only[Xbp,Waq,Xdj]at hx;have hlt:=(Xad.1 hx).1;rw[h3]at hlt;have hv:=Xp hlt;refine⟨_,xt i _ hv,?_⟩;have:=h4 i x _ hx hv;simp only[h1];exact this
 .exact{
   g:=hg
   ob:=λid ob ho=>by
    rcases h2 id ob ho with⟨_,_,h⟩|h
    .simp only[h1];exact h
    .cases h
   gf:=λid b o hl hp=>by
    obtain⟨q,g1,_,g2⟩:=ar id b o hp;exact(hfree q (Xax g1) b o g2).1
   inj:=λid bJ b o hl cg hp dC=>by
    obtain⟨q,_,g1,g2⟩:=ar id b o hp;obtain⟨q',_,zv,zw⟩:=ar bJ b o dC;exact Wmn hsep g1 zv g2 zw
   own:=λid b o hl hp=>by
    obtain⟨q,g1,_,g2⟩:=ar id b o hp;exact .inr ⟨q,Xax g1,g2⟩
   lt:=λid hl=>by simp only[h1];have:=cx id hl;omega
   bl:=λid b o hl hp=>by
    obtain⟨q,g1,_,g2⟩:=ar id b o hp;exact(hfree q (Xax g1) b o g2).2
   le:=WLe.refl _ w}
theorem WsT(hT:Wap P T){f:Func}{sg:Sig}{d:WfC sg.ps}{G:GH}{w:World}{vs:List Value}{ns:List Pc}{ks:List Nu}{n:Nat}(eH:Wcx sg.ps=true)(hargs:Wbu G w sg.ps d vs ns ks)
  {st:St} {a:Act} {w':World} {G1:GH} {ν:Nat->Nu} (hr:Rel w (Of ns) ⟨n,WN sg.ps 0 0 vs⟩ G G1 ν st a w') {xs:List AVal} (hx:WeQ T st f.results.toList=some xs)
  {A:Outs (Whi sg.rs)} (hA:Wbh sg.rs xs st.objs=some A) {B:OutK (Wgg sg.ps)} (hB:W3 sg.ps (WA sg.ps 0 0 st) st.objs=some B)
  (aP:WbA (B.kept++(B.moved++A.moved))=true) (lE:Wg8 (A.lent++B.lent) (B.kept++(B.moved++A.moved))=true):
  ∃rv kf ms cD G',(results f a.tmps).run P w'= .ok (Wiw rv) w'/\After sg (B.d,A.d) G w ns ks rv kf ms cD G' w':=by
 have aP:=(Wfc _).1 aP;have lE:=Wnq lE;obtain⟨φ,hφ⟩:=hr.h;have vi:=hφ.addG_le (A.lent++B.lent);have vk:=hφ.addG_w (A.lent++B.lent);have mR:Lent (Wr0 G1 w' (FromL φ st.objs (A.lent++B.lent))) w' φ st.objs (A.lent++B.lent):=λid bv hl=>(WiK _).mono (FromL.one bv hl);obtain⟨k1,k2,k3⟩:=Xaj.1 aP;obtain⟨k4,k5,k6⟩:=Xaj.1 k2;obtain⟨rv,vm,vn,vo⟩:=Wl3 hT hr _ xs hx;obtain⟨cD,q1,q2,q3,q4⟩:=WdS hφ vi sg.rs xs rv A vn vo (mR.mono λi hi=>Xl _ hi) k5 hA;obtain⟨hsl,di⟩:=WaK hr sg.ps d vs ns ks 0 0 hargs eH (by cases sg.ps<;>rfl) (Xbp _) (by simpa using hr.par);obtain⟨kf,ms,hO⟩:=Wa3 vi hφ sg.ps d vs ns ks _ B hargs hsl (λj x v hj hv=>di j x v hj (by simpa using hv)) (mR.mono λi hi=>Xh _ hi) k1 k4 hB;have fm:∀S∈kf++fps (ms++cD),CS.le S (FromL φ st.objs (B.kept++(B.moved++A.moved))):=λS hS=>by
  rcases Xn.1 hS with hS|hS
  .exactλb o hh=>FromL.mono (λi hi=>Xl _ hi) b o (hO.kf S hS b o hh)
  .obtain⟨q,hq,rfl⟩:=Xw.1 hS;rcases Xn.1 hq with hq|hq
   .exactλb o hh=>FromL.mono (λi hi=>Xh _ (Xl _ hi)) b o (hO.ms q hq b o hh)
   .exactλb o hh=>FromL.mono (λi hi=>Xh _ (Xh _ hi)) b o (q3 q hq b o hh)
 refine⟨rv,kf,ms,cD,Wr0 G1 w' (FromL φ st.objs (A.lent++B.lent)),?_,?_⟩
 .show(do let vs←f.results.mapM (WnU a.tmps);pure (if h:vs.size=1 then vs[0]else .tuple vs):Sem Value).run P w'=_;have iZ:(f.results.mapM (WnU a.tmps)).run P w'= .ok rv.toArray w':=by
   rw[Array.mapM_eq_mapM_toList,Sem.run_map,vm];rfl
  rw[Sem.run_bind,iZ];simp only[Result.andThen_ok,Sem.run_pure];congr 1;unfold Wiw
  match rv with
  | []=>rfl
  | [v]=>rfl
  |u::v::l=>simp
 .exact{
   res:=q1
   outs:=hO.outs
   sep:=by
    refine Wyq hφ hO.sepk (Wcp hφ hO.sepm q2 hO.ms q3 (λi hi hj=>k6 i hi i hj rfl)) hO.kf (l:=B.moved++A.moved) (λS hS=>?_) (λi hi hj=>k3 i hi i hj rfl);obtain⟨q,hq,rfl⟩:=Xw.1 hS;rcases Xn.1 hq with hq|hq
    .exactλb o hh=>FromL.mono (λi hi=>Xl _ hi) b o (hO.ms q hq b o hh)
    .exactλb o hh=>FromL.mono (λi hi=>Xh _ hi) b o (q3 q hq b o hh)
   own:=λS hS b off hh=>by
    obtain⟨i,hi,h1,h2⟩:=fm S hS b off hh;refine⟨?_,(hφ.own i b off h1 h2).symm,hφ.bl i b off h1 h2⟩;rw[Wdk (λ⟨j,hj,h3,h4⟩=>by
     have:=hφ.inj i j b off h1 h3 h2 h4;subst this;exact lE _ hj hi)]
    exact hφ.gf i b off h1 h2
   gx:=by
    refine⟨λb o v hv=>vi b o v (hr.gx.le b o v hv),λb off v hv=>?_⟩;by_cases hb:FromL φ st.objs (A.lent++B.lent) b off
    .obtain⟨j,hj,h1,h2⟩:=hb;exact .inr (hφ.own j b off h1 h2)
    .rw[Wdk hb]at hv;exact hr.gx.new b off v hv
   g:=vk
   le:=hφ.le}
theorem WwE(hM:P.follows .mixedOrders=true)(hT:Wap P T)(hΓ:Wfw P Γ){f:Func}{k:FuncId}{c:Code}(hf:P.funcs[k]?=some f)(hb:f.body=some c){sg:Sig}(aG:WdI f.ntmps (Weh sg.ps 0 0) c=true)(eH:Wcx sg.ps=true)
  (hn:Wb5 sg.ps<=f.ntmps) {ann:Nat->List Ghost} (h:∀d o,sg.run d=some o->∃N,den T Γ ann N sg f d some=some o):Good P k sg:=by
 intro d o hrun G w vs ns ks hargs hsep hfree hg;obtain⟨N,gZ⟩:=h d o hrun;unfold den at gZ;simp only[hb]at gZ;obtain⟨ν,ll⟩:=Wvq hn eH hargs hsep hfree hg;split at gZ
 case h_2=>cases gZ
 rename_i c' b st0 gL zx;injection gL with gL;subst gL;obtain⟨rfl,gZ⟩:=WaW gZ;obtain⟨G0',ν0',hr⟩:=WdC _ _ _ _ _ ll zx;refine calls_of_wp hf hb ?_
 suffices hk:∀e,Wtx w (Of ns) ⟨f.ntmps,WN sg.ps 0 0 vs⟩ G (WyE T sg f.results.toList some e) o (bodyPost P f (λe w'=>∃rv kf ms cD G',e= .returned (Wiw rv)/\After sg o G w ns ks rv kf ms cD G' w') e.to)from
  WoJ (nt:=⟨f.ntmps,WN sg.ps 0 0 vs⟩) hM hT hΓ (n:=f.ntmps) rfl (WY sg.ps 0 0 vs) c aG hk _ _ _ _ _ hr gZ
 intro e st a w' G1 ν1 kd hk;have g0:(∃xs,WeQ T st f.results.toList=some xs/\∃A B,Wbh sg.rs xs st.objs=some A/\W3 sg.ps (WA sg.ps 0 0 st) st.objs=some B/\WbA (B.kept++(B.moved++A.moved))=true/\Wg8 (A.lent++B.lent) (B.kept++(B.moved++A.moved))=true/\(B.d,A.d)=o)->
   a.defers= []/\∃v,(results f a.tmps).run P w'= .ok v w'/\∃rv kf ms cD G',Ending.returned v= .returned (Wiw rv)/\After sg o G w ns ks rv kf ms cD G' w':=by
  rintro⟨xs,hx,A,B,hA,hB,h1,h2,rfl⟩;obtain⟨rv,kf,ms,cD,G',h3,h4⟩:=WsT hT (f:=f) eH hargs kd hx hA hB h1 h2;exact⟨kd.defers,_,h3,rv,kf,ms,cD,G',rfl,h4⟩
 have nR:(match WeQ T st f.results.toList with
   |some xs=>match Wbh sg.rs xs st.objs,W3 sg.ps (WA sg.ps 0 0 st) st.objs with
    |some A,some B=>if WbA (B.kept++(B.moved++A.moved))&&Wg8 (A.lent++B.lent) (B.kept++(B.moved++A.moved))then some (B.d,A.d)else none
    |_,_=>none
   |none=>none)=some o->(∃xs,WeQ T st f.results.toList=some xs/\∃A B,Wbh sg.rs xs st.objs=some A/\W3 sg.ps (WA sg.ps 0 0 st) st.objs=some B/\WbA (B.kept++(B.moved++A.moved))=true/\Wg8 (A.lent++B.lent) (B.kept++(B.moved++A.moved))=true/\(B.d,A.d)=o):=λhk=>by
  split at hk
  .rename_i xs hx;split at hk
   .rename_i A B hA hB;obtain⟨hc,hk⟩:=WbT hk;simp only[Xi]at hc;injection hk with hk;exact⟨xs,hx,A,B,hA,hB,hc.1,hc.2,hk⟩
   .cases hk
  .cases hk
 cases e with
 |normal=>exact g0 (nR hk)
 |ret=>exact g0 (nR hk)
 |exit id=>cases hk
end
end Go.Sx
namespace Go.Sx
set_option linter.unusedVariables false
set_option linter.unusedSimpArgs false
def zv1:Value->Value->Bool
 | .int k n,.int k' n'=>decide (k=k')&&decide (n=n')
 | .bool b,.bool b'=>b==b'
 | .string s,.string s'=>match s.data.toList,s'.data.toList with
  | [],[]=>true
  |_,_=>false
 | .slice none 0 0,.slice none 0 0=>true
 | .pointer none,.pointer none=>true
 |_,_=>false
theorem Wut(x y:Value)(h:zv1 x y=true):x=y:=by
 unfold zv1 at h;split at h
 .simp only[Xi,Wh]at h;obtain⟨rfl,rfl⟩:=h;rfl
 .have:=eq_of_beq h;subst this;rfl
 .rename_i s s';split at h
  .rename_i e1 e2;have:s=s':=by
    cases s with|mk a=>cases s' with|mk b=>
    congr 1;apply Array.ext';simp only at e1 e2;rw[e1,e2]
   rw[this]
  .cases h
 .rfl
 .rfl
 .cases h
def Wyj:List Value->List Value->Bool
 | [],[]=>true
 |x::l,y::m=>zv1 x y&&Wyj l m
 |_,_=>false
theorem WnD:∀(l m:List Value),Wyj l m=true->l=m
 | [],[],_=>rfl
 | [],_::_,h=>by cases h
 |_::_,[],h=>by cases h
 |x::l,y::m,h=>by
  simp only[Wyj,Xi]at h;rw[Wut x y h.1,WnD l m h.2]
def Wgm:List Field->List (Nat×TypeId)->Bool
 | [],[]=>true
 |f::l,p::m=>Xbu f.offset p.1&&Xbu f.type p.2&&(f.name != "_")&&Wgm l m
 |_,_=>false
def WsS(P:Program)(T:Tab)(t:TypeId)(te:TE):Bool:=match te.shape with
 | .basic=>!te.agg&&(match te.ty with
  | .int k=>match P.underlying t with|some (.int k')=>decide (k'=k)|_=>false
  | .bool=>match P.underlying t with|some .bool=>true|_=>false
  | .str=>match P.underlying t with|some .string=>true|_=>false
  |_=>false)
 | .slice e=>!te.agg&&(match P.underlying t with|some (.slice e')=>Xbu e' e|_=>false)&&(match look T e with|some dw=>decide (te.ty= .slice dw.ty)|none=>false)
 | .struct fs=>te.agg&&(match P.underlying t with|some (.struct fields)=>Wgm fields.toList fs|_=>false)&& !P.stoodInHeld t&& !P.eqGuardType P.depth t
 | .ptr e=>!te.agg&&(match P.underlying t with|some (.pointer e')=>Xbu e' e|_=>false)
 | .arr n e=>te.agg&&(match P.underlying t with|some (.array n' e')=>Xbu n' n&&Xbu e' e|_=>false)&&(match look T e with|some dw=>decide (dw.ty=te.ty)&&dw.plain|none=>false)
def Wom(P:Program)(t:TypeId)(te:TE):Bool:=match P.info? t with
 |some i=>match i.zero with
  |some z=>Xbu i.size te.size&&Wyj z.cells.toList te.cells&&Nat.ble i.bytes 4096
  |none=>false
 |none=>false
def WnL(P:Program)(T:Tab):Tab->Bool
 | []=>true
 |(t,te)::l=>WsS P T t te&&Wom P t te&&WnL P T l
theorem Wfy:∀(l:List Field) (m:List (Nat×TypeId)),Wgm l m=true→l.map (λf=>(f.offset,f.type))=m∧∀f∈l,f.name≠ "_"
 | [],[],_=>⟨rfl,by simp⟩
 | [],_::_,h=>by cases h
 |_::_,[],h=>by cases h
 |f::l,p::m,h=>by
  simp only[Wgm,Xi,bne_iff_ne,ne_eq]at h;obtain⟨⟨⟨h1,h2⟩,h3⟩,h4⟩:=h;obtain⟨h5,h6⟩:=Wfy l m h4;have h1:f.offset=p.1:=by simpa using h1
  have h2:f.type=p.2:=by simpa using h2
  refine⟨by rw[Xae,h5,h1,h2],λg hg=>?_⟩;rcases Xq.1 hg with hg|hg
  .subst hg;exact h3
  .exact h6 g hg
theorem WoZ{P:Program}{T:Tab}{t:TypeId}{te:TE}(h:WsS P T t te=true)(hi:Wom P t te=true):TEok P T t te:=by
 obtain⟨ty,agg,shape⟩:=te;refine⟨?_,?_⟩
 .unfold WsS at h;cases shape with
  |basic=>
   simp only[Xi,Xar]at h⊢;refine⟨h.1,?_⟩;have h:=h.2;cases ty with
   |int k=>
    simp only at h⊢;split at h
    .rename_i k' hu;simp only[Wh]at h;rw[hu,h]
    .cases h
   |bool=>
    simp only at h⊢;split at h
    .assumption
    .cases h
   |str=>
    simp only at h⊢;split at h
    .assumption
    .cases h
   |slice e=>cases h
   |own e=>cases h
   |prod a b=>cases h
  |slice e=>
   simp only[Xi,Xar]at h⊢;obtain⟨⟨h1,h2⟩,h3⟩:=h;refine⟨h1,?_,?_⟩
   .split at h2
    .rename_i e' hu;rw[hu];have:e'=e:=by simpa using h2
     rw[this]
    .cases h2
   .split at h3
    .rename_i dw hl;exact⟨dw,hl,by simpa using h3⟩
    .cases h3
  |struct fs=>
   simp only[Xi,Xar]at h⊢;obtain⟨⟨⟨h1,h2⟩,h3⟩,h4⟩:=h;refine⟨h1,?_⟩;split at h2
   .rename_i fields hu;obtain⟨h5,h6⟩:=Wfy _ _ h2;exact⟨fields,hu,h5,λf hf=>h6 f (by simpa using hf),h3,h4⟩
   .cases h2
  |ptr e=>
   simp only[Xi,Xar]at h⊢;refine⟨h.1,?_⟩;have h:=h.2;split at h
   .rename_i e' hu;rw[hu];have:e'=e:=by simpa using h
    rw[this]
   .cases h
  |arr n e=>
   simp only[Xi]at h⊢;obtain⟨⟨h1,h2⟩,h3⟩:=h;refine⟨h1,?_,?_⟩
   .split at h2
    .rename_i n' e' hu;simp only[Xi]at h2;have e1:n'=n:=by simpa using h2.1
     have e2:e'=e:=by simpa using h2.2
     rw[hu,e1,e2]
    .cases h2
   .split at h3
    .rename_i dw hl;simp only[Xi,Wh]at h3;refine⟨dw,hl,h3.1,λm f hs=>?_⟩;have:=h3.2;unfold TE.plain at this;rw[hs]at this;cases this
    .cases h3
 .unfold Wom at hi;split at hi
  .rename_i i gz;split at hi
   .rename_i z hz;simp only[Xi]at hi;obtain⟨⟨h1,h2⟩,h3⟩:=hi;exact⟨i,z,gz,by simpa using h1,hz,WnD _ _ h2,Xgn h3⟩
   .cases hi
  .cases hi
theorem Wxv{P:Program}{T:Tab}(h:WnL P T T=true):Wap P T:=by
 have key:∀l,WnL P T l=true->∀t te,look l t=some te->TEok P T t te:=by
  intro l
  induction l with
  |nil=>intro _ t te hl;cases hl
  |cons p l ih=>
   intro hc t te hl;obtain⟨t',dw⟩:=p;simp only[WnL,Xi]at hc;rw[WL]at hl;split at hl
   .rename_i e;subst e;injection hl with hl;subst hl;exact WoZ hc.1.1 hc.1.2
   .exact ih hc.2 t te hl
 exact key T h
theorem Wg{P:Program}:Wfw P []:=λk sg h=>by cases h
theorem Wu4{P:Program}{Γ:Ctx}{k:FuncId}{sg:Sig}(hg:Good P k sg)(hc:WgC P k)(h:Wfw P Γ):Wfw P ((k,sg)::Γ):=λk' zy hl=>by
 simp only[look]at hl;split at hl
 .rename_i e;have:k=k':=by simpa using e
  subst this;injection hl with hl;subst hl;exact⟨hg,hc⟩
 .exact h k' zy hl
def Woh(f:Func):Bool:=f.body.isSome&& !(f.name== "runtime.NumGoroutine")
theorem WcY{P:Program}{k:FuncId}{f:Func}(hf:P.funcs[k]?=some f)(h:Woh f=true):WgC P k:=by
 simp only[Woh,Xi,Xar]at h;refine⟨f,hf,?_,h.2⟩;cases hb:f.body with
 |none=>rw[hb]at h;cases h.1
 |some c=>rfl
def Wog(f:Func)(ps:List PTy):Bool:=match f.body with
 |some c=>WdI f.ntmps (Weh ps 0 0) c&&Nat.ble (Wb5 ps) f.ntmps&&Wcx ps
 |none=>false
theorem Wsd{P:Program}{T:Tab}{Γ:Ctx}(hM:P.follows .mixedOrders=true)(hT:Wap P T)(hΓ:Wfw P Γ){f:Func}{k:FuncId}(hf:P.funcs[k]?=some f){sg:Sig}(aG:Wog f sg.ps=true){ann:Nat->List Ghost}
  (h:∀d o,sg.run d=some o->∃N,den T Γ ann N sg f d some=some o):Good P k sg:=by
 unfold Wog at aG;split at aG
 .rename_i c hb;simp only[Xi]at aG;exact WwE hM hT hΓ hf hb aG.1.1 aG.2 (Xgn aG.1.2) h
 .cases aG
end Go.Sx
namespace Go.Sx
def Wgc:Code->List Code
 | .seq a b=>Wgc a++Wgc b
 | .cond _ a b=>Wgc a++Wgc b
 | .block _ c=>Wgc c
 | .loop c=>c::Wgc c
 |_=>[]
def Wsr(f:Func):Code:=match f.body with
 |some c=>c
 |none=>.skip
def WsC(f:Func)(i:Nat):Code:=(Wgc (Wsr f)).getD i .skip
noncomputable def Wwy{R:Type}(T:Tab)(Γ:Ctx)(ann:Nat->List Ghost)(N:Nat):Code->List Nat->(Ex->St->Option R)->Ex->St->Option R
 | .seq a b,p,k=>match p with
  |0::p=>Wwy T Γ ann N a p λe ae=>match e with
   | .normal=>sx T Γ ann N b ae k
   | .exit id=>k (.exit id) ae
   | .ret=>k .ret ae
  |_::p=>Wwy T Γ ann N b p k
  | []=>k
 | .cond _ x y,p,k=>match p with
  |0::p=>Wwy T Γ ann N x p k
  |_::p=>Wwy T Γ ann N y p k
  | []=>k
 | .block id c,p,k=>match p with
  |_::p=>Wwy T Γ ann N c p λe ae=>match e with
   | .exit bJ=>if bJ=id then k .normal ae else k (.exit bJ) ae
   | .normal=>k .normal ae
   | .ret=>k .ret ae
  | []=>k
 |_,_,k=>k
def WyL{R:Type}(gs:List Ghost)(L:St->(Ex->St->Option R)->Option R)(K:Ex->St->Option R):Ex->St->Option R:=λe st=>match e with
 | .normal=>match Wek gs st with
  |some (c,ae)=>bif c then L ae K else none
  |none=>none
 | .exit id=>K (.exit id) st
 | .ret=>K .ret st
abbrev vI(x:Int):AVal:=.s (.one (.val (.int .i64) x))
abbrev vB(x:Bool):AVal:=.s (.one (.val .bool x))
abbrev vV(t:Ty)(x:t.den):AVal:=.s (.one (.val t x))
abbrev vO(i:Nat):AVal:=.s (.one (.own i))
abbrev vP(i o:Nat):AVal:=.s (.one (.ptr i o))
abbrev Qs(s:Sig):=Wgg s.ps×Whi s.rs
structure Fn where
 F:Func
 a:Nat->List Ghost
 s:Nat->Sig
 c:Nat->Ctx
def WG:Nat->List Ghost:=λ_=>[]
def Wbk:Nat->Ctx:=λ_=>[]
noncomputable def lpM{R:Type}(T:Tab)(Γ:Ctx)(ann:Nat->List Ghost)(N:Nat)(F:Func)(i k n:Nat)(st:St)(K:Ex->St->Option R):Option R:=Wps (Wj1 (ann k) λst k=>sx T Γ ann N (WsC F i) st k) n st K
noncomputable def cxF(T:Tab)(Γ:Ctx)(ann:Nat->List Ghost)(N:Nat)(sg:Sig)(F:Func)(p:List Nat):Ex->St->Option (Qs sg):=Wwy (R:=Qs sg) T Γ ann N (Wsr F) p (WyE T sg F.results.toList some)
noncomputable def cxL{R:Type}(T:Tab)(Γ:Ctx)(ann:Nat->List Ghost)(N:Nat)(F:Func)(i k:Nat)(p:List Nat)(n:Nat)(K:Ex->St->Option R):Ex->St->Option R:=Wwy T Γ ann N (WsC F i) p (WyL (ann k) (lpM T Γ ann N F i k n) K)
end Go.Sx
namespace Go.Sx
open Go.ChangeShapes Go.WideShapes Go.ChangeAt Go.RowKit
set_option linter.unusedVariables false
set_option linter.unusedSimpArgs false
def Wfd:(t:Ty)->t.den->Prop
 | .int k,n=>(Lit.int k n).wf=true
 | .bool,_=>True
 | .str,s=>Xa s<=maxLen
 | .slice e,l=>Xa l<=maxLen/\∀x,List.Mem x l->Wfd e x
 | .own _,_=>False
 | .prod a b,d=>Wfd a d.1/\Wfd b d.2
def Wgl:(t:Ty)->t.den->Nat
 | .int _,_=>1
 | .bool,_=>1
 | .str,s=>Xa s+1
 | .slice e,l=>(List.map (Wgl e) l).sum+1
 | .own _,_=>0
 | .prod a b,d=>Wgl a d.1+Wgl b d.2
structure Bulk{H:Type}(β:DataW H->Nat):Prop where
 lit:∀l,1<=β (.lit l)
 str:∀s,s.length+1<=β (.lit (.string s))
 nil:1<=β .nil
 slice:∀es sp,(es.map β).sum+1<=β (.slice es sp)
 agg:∀ps,(ps.map β).sum<=β (.agg ps)
def WkN(T:Tab):List (Nat×TypeId)->Nat->Option (List Ty)
 | [],_=>some []
 |(o,ft)::fs,off=>match look T ft with
  |some te=>bif Xbu o off&&te.plain then(WkN T fs (off+te.ty.size)).map (te.ty:: ·)else none
  |none=>none
def Wen:List Ty->Ty
 | []=>.bool
 | [t]=>t
 |t::ts=>.prod t (Wen ts)
def Wof(T:Tab):Nat->TypeId->Bool
 |0,_=>false
 |n+1,t=>match look T t with
  |some te=>match te.shape with
   | .basic=>match te.ty with
    | .int _=>true
    | .bool=>true
    | .str=>true
    | .slice _=>false
    | .own _=>false
    | .prod _ _=>false
   | .slice e=>Wof T n e&&(match look T e with|some dw=>dw.plain|none=>false)
   | .struct fs=>fs.all (λf=>Wof T n f.2)&&(match WkN T fs 0 with
    |some (t::ts)=>decide (te.ty=Wen (t::ts))
    |_=>false)
   | .ptr _=>false
   | .arr _ _=>false
  |none=>false
section
variable{P:Program}{T:Tab}{H:Type}{enc:TypeId×Value->H}{β:DataW H->Nat}{w:World}
theorem Wg6{t:TypeId}{te:TE}(h:TEok P T t te):P.cellsOf t=te.size:=by
 obtain⟨i,z,hi,hs,_⟩:=h.info;unfold Program.cellsOf;rw[hi];exact hs
def WiS(w:World):GH:=λb o=>w.cell? ⟨b,o,none⟩
theorem Wuj{b:Nat}{a:Addr}{n:Nat}{cs:List Value}(h:w.cells? b a n=some cs):cs.length=n/\∀(j:Nat) (v:Value),cs[j]?=some v->w.cell? (a.add j)=some v:=by
 unfold World.cells? at h;split at h
 .refine⟨by simpa using mapM_some_length h,λj v hj=>?_⟩;have hlt:j<n:=by
   have:=mapM_some_length h;have h2:=(Xad.1 hj).1;simp at this;omega
  have:=mapM_some_get h j j (by simp[hlt]);rw[this];exact hj
 .cases h
theorem Wpx{e:Ty}{a:Addr}(n:Nat)(hn:0<n):∀(k:Nat) (i0:Nat) (el:Nat->Option (DataW H×List MemPlace)) (f:List Value->Option (DataW H×List MemPlace)),
  (∀cs y,f cs=some y->∃d:e.den,Enc (WiS w) e d cs/\Wfd e d/\Wgl e d<=β y.1)->
  (∀i,i0<=i->i<i0+k->∃y cs,w.cells? 0 (a.add (i*n)) n=some cs/\f cs=some y/\el i=some y)->
  ∃(l:List e.den) (cs:List Value),l.length=k/\EncL (Enc (WiS w) e) l cs/\(∀x∈l,Wfd e x)/\(∀(j:Nat) (v:Value),cs[j]?=some v->w.cell? (a.add (i0*n+j))=some v)/\
   cs.length=k*n/\(l.map (Wgl e)).sum<=((Xde k).map λi=>match el (i0+i)with|some y=>β y.1|none=>0).sum
 |0,i0,el,f,hf,he=>⟨[],[],rfl,rfl,by simp,by simp,by simp,by simp⟩
 |k+1,i0,el,f,hf,he=>by
  obtain⟨y,c1,h1,h2,h3⟩:=he i0 (Xm _) (by omega);obtain⟨d,zA,lG,hd3⟩:=hf _ _ h2;obtain⟨l,cs,g1,g2,g3,g4,g5,g6⟩:=Wpx n hn k (i0+1) el f hf (λi xu mS=>he i (by omega) (by omega));obtain⟨hl,hg⟩:=Wuj h1;refine⟨d::l,c1++cs,by simp[g1],⟨c1,cs,rfl,zA,g2⟩,λx hx=>?_,λj v hj=>?_,?_,?_⟩
  .rcases Xq.1 hx with rfl|hx
   .exact lG
   .exact g3 x hx
  .rw[Xaw]at hj;split at hj
   .have:=hg j v hj;rw[Addr.add_add]at this;exact this
   .rename_i hlt;have:=g4 _ v hj;rw[hl]at this hlt;have e:(i0+1)*n+(j-n)=i0*n+j:=by rw[Xcu];omega
    rw[e]at this;exact this
  .rw[Xs,hl,g5,Xcu];omega
  .rw[List.range_succ_eq_map,Xae,Xae,Xcw,Xcw,Xek];simp only[Xaz,h3];have:((λi=>match el (i0+i)with|some y=>β y.1|none=>0)∘Nat.succ)= λi=>match el (i0+1+i)with|some y=>β y.1|none=>0:=by
    funext i;simp only[Function.comp,Nat.succ_eq_add_one];rw[show i0+(i+1)=i0+1+i by omega]
   rw[this];omega
theorem Wxk{β':DataW H×List MemPlace->Nat}(xs:List (DataW H×List MemPlace)):((Xde xs.length).map λi=>match xs[0+i]? with|some y=>β' y|none=>0).sum=(xs.map β').sum:=by
 congr 1;apply List.ext_getElem
 .simp
 .intro i h1 h2;simp at h1;simp[h1]
theorem WoY{t:Ty}{ts:List Ty}(h:ts≠ []):Wen (t::ts)= .prod t (Wen ts):=by
 cases ts with
 |nil=>exact Wi rfl h
 |cons _ _=>rfl
theorem WkH(hT:Wap P T)(hβ:Bulk β)(f:TypeId->List Value->Option (DataW H×List MemPlace)){cs:List Value}:∀(fs:List (Nat×TypeId)) (off:Nat) (ts:List Ty) (ys:List (DataW H×List MemPlace)),ts≠ []->WkN T fs off=some ts->
  (∀fd∈fs,∀te cs y,look T fd.2=some te->f fd.2 cs=some y->∃d:te.ty.den,Enc (WiS w) te.ty d cs/\Wfd te.ty d/\Wgl te.ty d<=β y.1)->
  ys.length=fs.length->(∀(i:Nat) (fd:Nat×TypeId),fs[i]?=some fd->f fd.2 ((cs.drop fd.1).take (P.cellsOf fd.2))=ys[i]?)->cs.length=off+(Wen ts).size->
  ∃d:(Wen ts).den,Enc (WiS w) (Wen ts) d (cs.drop off)/\Wfd (Wen ts) d/\Wgl (Wen ts) d<=(ys.map λy=>β y.1).sum
 | [],off,ts,ys,hne,iy,_,_,_,_=>by injection iy with iy;exact Wi iy.symm hne
 |(o,ft)::fs,off,ts,ys,hne,iy,hf,hlen,xw,bz=>by
  cases ys with
  |nil=>simp at hlen
  |cons y ys=>
   simp only[WkN]at iy;split at iy
   .rename_i te hl;obtain⟨hc,iy⟩:=WaW iy;simp only[Xi]at hc;have ho:o=off:=by simpa using hc.1
    obtain⟨xx,dW,rfl⟩:=Xy.1 iy;have hsz:P.cellsOf ft=te.ty.size:=by rw[Wg6 (hT _ _ hl),W1 hc.2]
    have h0:=xw 0 (o,ft) rfl;simp only[Xdn,hsz,ho]at h0;obtain⟨d1,e1,e2,e3⟩:=hf (o,ft) (Xg ..) te _ y hl h0;cases ee:fs with
    |nil=>
     subst ee;simp only[WkN]at dW;injection dW with dW;subst dW;have vp:ys= []:=by cases ys with
      |nil=>rfl
      |cons _ _=>simp at hlen
     subst vp;have iD:(cs.drop off).take te.ty.size=cs.drop off:=Xdo (by rw[List.length_drop,bz];simp[Wen]);rw[iD]at e1;exact⟨d1,e1,e2,by rw[Xae,Xbt,Xcw,List.sum_nil,Xaz];exact e3⟩
    |cons g gs=>
     have rZ:xx≠ []:=by
      rw[ee]at dW;obtain⟨o2,ft2⟩:=g;simp only[WkN]at dW;split at dW
      .obtain⟨_,dW⟩:=WaW dW;obtain⟨x,_,rfl⟩:=Xy.1 dW;simp
      .cases dW
     have xy:=WoY (t:=te.ty) rZ;obtain⟨d2,f1,f2,f3⟩:=WkH hT hβ f (cs:=cs) fs (off+te.ty.size) xx ys rZ dW (λfd ir=>hf fd (Xe _ ir)) (by simpa using hlen)
      (λi fd hi=>by have:=xw (i+1) fd (by simpa using hi);simpa using this) (by rw[bz,xy,Ty.size];omega)
     rw[xy];refine⟨(d1,d2),⟨_,_,?_,e1,f1⟩,⟨e2,f2⟩,?_⟩
     .rw[←List.drop_drop];exact(List.take_append_drop _ _).symm
     .simp only[Wgl,Xae,Xcw];omega
   .cases iy
theorem Wlb(hT:Wap P T)(hβ:Bulk β):∀(n fuel:Nat) (t:TypeId) (te:TE) (cs:List Value) (x:DataW H×List MemPlace),Wof T n t=true->look T t=some te->
  DataW.trod enc P w 0 (λ_=>true) true fuel t cs=some x->∃d:te.ty.den,Enc (WiS w) te.ty d cs/\Wfd te.ty d/\Wgl te.ty d<=β x.1
 |0,_,_,_,_,_,h,_,_=>by cases h
 |n+1,fuel,t,te,cs,x,h,hl,hx=>by
  have bB:=hT _ _ hl;simp only[Wof,hl]at h;obtain⟨ty,agg,shape⟩:=te;cases shape with
  |basic=>
   have hu:=bB.und.2;cases ty with
   |int k=>
    obtain⟨m,rfl,rfl,hw⟩:=DataW.trod_int hu hx;exact⟨m,rfl,hw,hβ.lit _⟩
   |bool=>
    obtain⟨b,rfl,rfl⟩:=DataW.trod_bool hu hx;exact⟨b,rfl,trivial,hβ.lit _⟩
   |str=>
    obtain⟨s,rfl,rfl,hs⟩:=DataW.trod_string hu hx;refine⟨s.data.toList,by simp[Enc],?_,hβ.str _⟩;show s.data.toList.length<=maxLen;rw[Array.length_toList];exact hs
   |slice e=>cases h
   |own e=>cases h
   |prod a b=>cases h
  |slice e=>
   simp only[Xi]at h;obtain⟨ha,hu,dw,hle,gw⟩:=bB.und;simp only at gw;subst gw;have hp:dw.plain=true:=by have:=h.2;rw[hle]at this;exact this
   have hsz:P.cellsOf e=dw.ty.size:=by rw[Wg6 (hT _ _ hle),W1 hp]
   rcases DataW.trod_slice hu hx with⟨rfl,rfl⟩|⟨a,len,cap,elems,rest,m,rfl,rfl,rfl,hb,vq,lB,vr,hel,jo,_⟩
   .exact⟨([]:List dw.ty.den),⟨_,rfl,.inl ⟨rfl,rfl⟩⟩,⟨by simp,λx hx=>by cases hx⟩,by simpa [Wgl]using hβ.nil⟩
   .have key:=Wpx (w:=w) (β:=β) (e:=dw.ty) (a:=a) dw.ty.size (WbV _) len 0 (λi=>elems[i]?) (λcs=>DataW.trod enc P w 0 (λ_=>true) true m e cs)
     (λcs y hy=>Wlb hT hβ n m e dw cs y h.1 hle hy) (λi _ hi=>by
      rw[Xbc]at hi;have:=hel i hi;rw[hsz]at this;have hlt:i<elems.length:=by omega
      rw[Xp hlt]at this;obtain⟨cs,h1,h2⟩:=Xbx.1 this;exact⟨elems[i],cs,h1,h2,Xp hlt⟩)
    obtain⟨l,cs,g1,g2,g3,g4,g5,g6⟩:=key;refine⟨l,⟨_,rfl,?_⟩,⟨by rw[g1];omega,g3⟩,?_⟩
    .by_cases h0:len=0
     .subst h0;exact .inr (.inr ⟨a,cap,rfl,Xaa g1⟩)
     .have nH:0<cs.length:=by rw[g5];exact Nat.mul_pos (by omega) (WbV _)
      have r9:=g4 0 _ (Xp nH);have sa:a.spot=none:=by
       rw[Xfi,Xaz]at r9;have:=World.cell?_spot r9;simpa [Addr.add]using this
      obtain⟨b,off,spot⟩:=a;subst sa;refine .inr (.inl ⟨b,off,cap,cs,by rw[g1],by rw[g1];exact vq,lB,g2,λj v hj=>?_⟩);have:=g4 j v hj;rw[Xfi,Xbc,Wa8]at this;exact this
    .have h1:=hβ.slice (elems.map (·.1)) (rest.map (·.1));have h2:((Xde len).map λi=>match elems[0+i]? with|some y=>β y.1|none=>0).sum=(elems.map λy=>β y.1).sum:=by
      rw[←vr];exact Wxk elems
     rw[h2]at g6;rw[Xek]at h1;simp only[Wgl];have h3:(List.map (β∘λx=>x.1) elems)=elems.map λy=>β y.1:=rfl;rw[h3]at h1;show(List.map (Wgl dw.ty) l).sum+1<=_;omega
  |struct fs=>
   simp only[Xi]at h;obtain⟨ha,fields,hu,ee,xz,_⟩:=bB.und;have h2:=h.2;split at h2
   .rename_i t1 ts lN;have gw:ty=Wen (t1::ts):=Wt h2;subst gw;obtain⟨xs,m,rfl,rfl,hcl,iT,nN⟩:=DataW.trod_struct hu hx;have hsz:P.cellsOf t=(Wen (t1::ts)).size:=by rw[Wg6 bB];rfl
    have key:=WkH (w:=w) (P:=P) hT hβ (λt cs=>DataW.trod enc P w 0 (λ_=>true) true m t cs) (cs:=cs) fs 0 (t1::ts) xs (by simp) lN
     (λfd ir te cs y xq hy=>Wlb hT hβ n m fd.2 te cs y (Xag.1 h.1 fd ir) xq hy) (by rw[iT,←ee];simp)
     (λi fd hi=>by
      rw[←ee]at hi;rw[Xas]at hi;obtain⟨fl,gh,he⟩:=Xy.1 hi;subst he;exact nN i fl (by simpa using gh)) (by rw[hcl,hsz,Xbc])
    obtain⟨d,g1,g2,g3⟩:=key;rw[Xby]at g1;refine⟨d,g1,g2,Xco g3 ?_⟩;have:=hβ.agg (xs.map (·.1));rw[Xek]at this;exact this
   .cases h2
  |ptr e=>cases h
  |arr m e=>cases h
theorem WeM{G:GH}{w:World}:∀(t:Ty) (d:t.den) (vs:List Value),Enc G t d vs->TyRel G w t d vs []
 | .int _,_,_,h=>⟨rfl,h⟩
 | .bool,_,_,h=>⟨rfl,h⟩
 | .str,_,_,h=>⟨rfl,h⟩
 | .slice _,_,_,h=>⟨rfl,h⟩
 | .own _,_,_,h=>h.elim
 | .prod a b,d,vs,⟨c1,c2,he,h1,h2⟩=>⟨c1,c2,[],[],he,rfl,WeM a _ _ h1,WeM b _ _ h2⟩
def Wqu:(ps:List PTy)->WfC ps->Prop
 | [],_=>True
 | .v t _::ps,d=>Wfd t d.1/\Wqu ps d.2
 | .box _::_,_=>False
 | .mut _::_,_=>False
 | .clos _ _::_,_=>False
 | .kv _ _::_,_=>False
 | .rp _::_,_=>False
 | .vj _::_,_=>False
 | .boxal _ _::_,_=>False
def Wgq:(ps:List PTy)->WfC ps->Nat
 | [],_=>0
 | .v t _::ps,d=>Wgl t d.1+Wgq ps d.2
 | .box _::_,_=>0
 | .mut _::_,_=>0
 | .clos _ _::_,_=>0
 | .kv _ _::_,_=>0
 | .rp _::_,_=>0
 | .vj _::_,_=>0
 | .boxal _ _::_,_=>0
def Wxr(P:Program)(T:Tab):List TypeId->List PTy->Bool
 | [],[]=>true
 |t::ts,p::ps=>(match p with
  | .v ty agg=>(match look T t with|some te=>decide (te.ty=ty)&&(te.agg==agg)|none=>false)&&Wof T 20 t&&P.readableRec t&&Nat.blt t P.types.size&&Wxr P T ts ps
  | .box _=>false
  | .mut _=>false
  | .clos _ _=>false
  | .kv _ _=>false
  | .rp _=>false
  | .vj _=>false
  | .boxal _ _=>false)
 |_,_=>false
theorem WmC(hT:Wap P T)(hβ:Bulk β):∀(ts:List TypeId) (ps:List PTy) (vs:List Value) (ds:List (DataW H)) (pl:List MemPlace),Wxr P T ts ps=true->DataW.TrodAll enc P w 0 (λ_=>true) true ts vs ds pl->
  (∀(j:Nat) (t:TypeId) (v:Value),ts[j]?=some t->vs[j]?=some v->∃base,Value.okWide P w .any base t v)->
  ∃d:WfC ps,Wbu (WiS w) w ps d vs [] []/\Wqu ps d/\Wgq ps d<=(ds.map β).sum
 | [],[],vs,ds,pl,_,h,_=>by
  obtain⟨rfl,rfl,_⟩:=trodAll_nil h;exact⟨(),⟨rfl,rfl,rfl⟩,trivial,by simp[Wgq]⟩
 | [],_::_,_,_,_,h,_,_=>by cases h
 |_::_,[],_,_,_,h,_,_=>by cases h
 |t::ts,.box _::ps,_,_,_,h,_,_=>by cases h
 |t::ts,.mut _::ps,_,_,_,h,_,_=>by cases h
 |t::ts,.clos _ _::ps,_,_,_,h,_,_=>by cases h
 |t::ts,.kv _ _::ps,_,_,_,h,_,_=>by cases h
 |t::ts,.rp _::ps,_,_,_,h,_,_=>by cases h
 |t::ts,.vj _::ps,_,_,_,h,_,_=>by cases h
 |t::ts,.boxal _ _::ps,_,_,_,h,_,_=>by cases h
 |t::ts,.v ty agg::ps,vs,ds,pl,hp,h,fX=>by
  obtain⟨v,vs',d,sc,p,q,rfl,rfl,rfl,h0,hr⟩:=trodAll_cons h;simp only[Wxr,Xi]at hp;obtain⟨⟨⟨⟨h1,h2⟩,h3⟩,h4⟩,h5⟩:=hp;split at h1
  .rename_i te hl;simp only[Xi]at h1;have e1:te.ty=ty:=Wt h1.1;have e2:te.agg=agg:=eq_of_beq h1.2;subst e1 e2;obtain⟨fuel,hx⟩:=h0;obtain⟨x,cy,xA,eX⟩:=Wlb hT hβ 20 fuel t te _ (d,p) h2 hl hx;obtain⟨base,aG⟩:=fX 0 t v rfl rfl;obtain⟨dd,g1,g2,g3⟩:=WmC hT hβ ts ps vs' sc q h5 hr (λj t v hj hv=>fX (j+1) t v (by simpa using hj) (by simpa using hv));refine⟨(x,dd),⟨v,vs',[],[],rfl,rfl,?_,g1⟩,⟨xA,g2⟩,?_⟩
   .have hu:=(hT _ _ hl).und;unfold WjK;obtain⟨ty,ag,shape⟩:=te;simp only at cy xA eX⊢;have dS:∀u:Value,u.cells= #[u]->u=v->v.cells.toList= [v]:=λu h e=>by rw[←e,h]
    cases shape with
    |basic=>
     obtain⟨ha,hu⟩:=hu;simp only at ha;subst ha;simp only[Xbh,Wau];have:v.cells.toList= [v]:=by
      cases ty with
      |int k=>obtain⟨n,rfl⟩:=okWide_int hu aG;rfl
      |bool=>obtain⟨n,rfl⟩:=okWide_bool hu aG;rfl
      |str=>obtain⟨n,rfl⟩:=okWide_string hu aG;rfl
      |slice e=>cases hu
      |own e=>cases hu
      |prod a b=>cases hu
     rw[this]at cy;exact WeM _ _ _ cy
    |slice e=>
     obtain⟨ha,hu,_⟩:=hu;simp only at ha;subst ha;simp only[Xbh,Wau];obtain⟨a,l,c,rfl⟩:=okWide_slice hu aG;exact WeM _ _ _ cy
    |struct fs=>
     obtain⟨ha,fields,hu,_⟩:=hu;simp only at ha;subst ha;simp only[Waq];obtain⟨cs,rfl,_⟩:=okWide_struct hu aG;exact⟨cs.toList,by simp,WeM _ _ _ cy⟩
    |ptr e=>simp only[Wof,hl]at h2;cases h2
    |arr m e=>simp only[Wof,hl]at h2;cases h2
   .have eX:Wgl te.ty x<=β d:=eX;simp only[Wgq,Xae,Xcw];omega
  .cases h1
theorem Wn1:∀(ts:List TypeId) (vs:List Value) (ds:List (DataW H)) (pl:List MemPlace),DataW.TrodAll enc P w 0 (λ_=>true) true ts vs ds pl->ds.length=ts.length
 | [],vs,ds,pl,h=>by obtain⟨_,rfl,_⟩:=trodAll_nil h;rfl
 |t::ts,vs,ds,pl,h=>by
  obtain⟨v,vs',d,sc,p,q,rfl,rfl,rfl,h0,hr⟩:=trodAll_cons h;simp[Wn1 ts vs' sc q hr]
theorem Wnl(iE:laidOutB P=true){W W':World}(hb:Below W.heap.size W W'){sp:Nat->Bool}:∀(ts:List TypeId) (ps:List PTy) (vs:List Value) (ds:List (DataW H)) (pl:List MemPlace),Wxr P T ts ps=true->
  DataW.TrodAll enc P W 0 (λ_=>true) true ts vs ds pl->(∀p∈pl,p.block<W.heap.size)->(∀p∈pl,sp p.block=true)->DataW.TrodAll enc P W' 0 sp true ts vs ds pl
 | [],ps,vs,ds,pl,_,h,_,_=>by
  obtain⟨rfl,rfl,rfl⟩:=trodAll_nil h;exact trodAll_mk0
 |t::ts,[],_,_,_,h,_,_,_=>by cases h
 |t::ts,.box _::ps,_,_,_,h,_,_,_=>by cases h
 |t::ts,.mut _::ps,_,_,_,h,_,_,_=>by cases h
 |t::ts,.clos _ _::ps,_,_,_,h,_,_,_=>by cases h
 |t::ts,.kv _ _::ps,_,_,_,h,_,_,_=>by cases h
 |t::ts,.rp _::ps,_,_,_,h,_,_,_=>by cases h
 |t::ts,.vj _::ps,_,_,_,h,_,_,_=>by cases h
 |t::ts,.boxal _ _::ps,_,_,_,h,_,_,_=>by cases h
 |t::ts,.v ty agg::ps,vs,ds,pl,hp,h,hlt,jo=>by
  obtain⟨v,vs',d,sc,p,q,rfl,rfl,rfl,h0,hr⟩:=trodAll_cons h;simp only[Wxr,Xi]at hp;obtain⟨⟨⟨⟨h1,h2⟩,h3⟩,h4⟩,h5⟩:=hp;have hrow:t<P.types.size:=by rw[Xhp]at h4;exact h4
  exact⟨p,q,WideElems.Trod_stays iE h3 hrow h0 (λx hx=>hb.same (hlt x (Xl _ hx))) (λx hx=>jo x (Xl _ hx)),
   Wnl iE hb ts ps vs' sc q h5 hr (λx hx=>hlt x (Xh _ hx)) (λx hx=>jo x (Xh _ hx)),rfl⟩
theorem Wvn{f:Func}{s:ChangeSpec}{apart fresh fF again:Bool}{W W':World}{args:Array Value}{v:Value}{ds gs:List (DataW H)}{before pa pv:List MemPlace}
  (hW:DataW.Whole enc P f.params.toList s.vars apart W args.toList ds gs before)
  (gT:∀(b:Nat) (sp:Nat->Bool) (hd:Bool),DataW.TrodAll enc P W' b sp hd f.resultTypes.toList (v.resultList f.resultTypes.size) (s.fn H (ds++gs)).results [])
  (hargs:∀sp:Nat->Bool,(∀p∈before,sp p.block=true)->DataW.TrodAll enc P W' 0 sp true f.params.toList args.toList (s.fn H (ds++gs)).args pa)
  (mT:∀sp:Nat->Bool,(∀p∈before,sp p.block=true)->DataW.TrodVars enc P W' sp s.vars (s.fn H (ds++gs)).vars pv)
  (ch:before=pa++pv) (hk:W.keptBut W' (· ∈before)) (xB:∀a,a.block<W.heap.size->W'.frozen? a=W.frozen? a)
  (aG:∀(j:Nat) (t:TypeId) (r:Value),f.resultTypes[j]?=some t->(v.resultList f.resultTypes.size)[j]?=some r->Value.okWide P W' .any 0 t r):
  s.post enc P f apart fresh fF again W args v W':=by
 have gd:∀p∈before,(λb=>decide (b<W.heap.size)) p.block=true:=λp hp=>by simpa using hW.lt p hp
 refine⟨ds,gs,before,[],pa,pv,hW,gT _ _ _,hargs _ gd,mT _ gd,World.keptBut_mono (λp hp=>⟨hp,?_⟩) hk,λ_=>?_⟩
 .rw[ch,Xn]at hp;exact Or.inr hp
 .have hlt:=hW.lt;obtain⟨_,_,_,_,_,hz,hn⟩:=hW;refine⟨aG,_,_,([]++pa)++pv,⟨[]++pa,pv,trodAll_append (hargs _ (λ_ _=>rfl)) (gT _ _ _),mT _ (λ_ _=>rfl),rfl,?_,?_⟩,?_⟩
  .intro b off hp;have dC:MemPlace.cell b off∈before:=by rw[ch];simpa using hp
   rw[xB ⟨b,off,none⟩ (hlt _ dC)];exact hz b off dC
  .intro ha;have:=hn ha;rw[ch]at this;simpa using this
  .intro p hp _;rw[ch];simpa using hp
theorem law_row(hT:Wap P T)(iE:laidOutB P=true){f:Func}{k:FuncId}{s:ChangeSpec}(di:s.vars= [])(hs:∀ds:List (DataW H),ds.length=f.params.toList.length->s.fn H ds={results:=[.lit (.bool true)],args:=ds})
  {ps:List PTy} (ch:Wxr P T f.params.toList ps=true) {tb:TypeId} (gT:f.resultTypes= #[tb]) (xC:P.underlying tb=some .bool) {run:Nat->WfC ps->Option (Wgg ps×Whi [.v .bool false])}
  (kc:∀N,Good P k (Sig.of ps [.v .bool false] (run N))) (hβ:Bulk β) {ok:List (DataW H)->Prop} {M:Nat->Prop} (se:∀ds m,ok ds->m<=(ds.map β).sum->M m)
  (vt:∀d:WfC ps,Wqu ps d->M (Wgq ps d)->∃N o,run N d=some (o,(true,()))) {apart fresh fF again:Bool}
  (W:World) (base:Nat) (args:Array Value) (ds gs:List (DataW H)) (before:List MemPlace)
  (fX:∀(j:Nat) t v,f.params[j]?=some t->args[j]?=some v->Value.okWide P W .any base t v)
  (hW:DataW.Whole enc P f.params.toList s.vars apart W args.toList ds gs before) (hk:ok ds):
  Calls P k args W λe W'=>∃v,e= .returned v/\s.post enc P f apart fresh fF again W args v W':=by
 have hW':=hW;have hlt:=hW.lt;obtain⟨p,q,hA,hV,xD,xB,aP⟩:=hW;rw[di]at hV;obtain⟨vu,hq⟩:=trodVars_none hV;subst vu hq;rw[Xdb]at xD;subst xD;obtain⟨d,h1,h2,h3⟩:=WmC (w:=W) hT hβ f.params.toList ps args.toList ds before ch hA (λj t v hj hv=>⟨base,fX j t v (by simpa using hj) (by simpa using hv)⟩);obtain⟨N,o,ho⟩:=vt d h2 (se ds _ hk h3);have hc:=kc N d (o,(true,())) ho (WiS W) W args.toList [] [] h1 List.Pairwise.nil (by simp) (λb o v hv=>hv);have hargs:args.toList.toArray=args:=by simp
 rw[hargs]at hc;refine hc.mono λe W' ⟨rv,kf,ms,cD,G',he,ha⟩=>?_;have hb:Below W.heap.size W W':=⟨ha.le.os,ha.le.tape,ha.le.output,ha.le.size,λb hb=>ha.le.whole b hb (λo ⟨q,hq,_⟩=>by simp at hq)⟩;obtain⟨v,vs',n1,n2,e1,e2,e3,e4⟩:=ha.res;obtain⟨e5,_⟩:=e4;subst e5;have hv:v= .bool true:=by
  unfold WjK at e3;simp only[Xbh,Wau]at e3;have:=e3.2;simpa [Enc]using this
 subst hv;have jv:Wiw rv= .bool true:=by rw[e1];rfl
 rw[jv]at he;refine⟨.bool true,he,?_⟩;have hlen:=Wn1 _ _ _ _ hA;have vv:=hs (ds++ []) (by rw[Xdb];exact hlen);refine Wvn (pa:=before) (pv:=[]) hW' ?_ ?_ ?_ (by simp) (hb.frame _) (λa ha=>hb.frozen ha) (ok_one gT rfl (okWide_bool_mk xC _))
 .intro b sp hd;rw[vv,gT];exact trodAll_cons_mk (shut_bool xC _) trodAll_mk0
 .intro sp jo;rw[vv,Xdb];exact Wnl iE hb _ _ _ _ _ ch hA hlt jo
 .intro sp jo;rw[vv,di];rfl
end
end Go.Sx
namespace Go.Sx
set_option linter.unusedVariables false
def sortInts(xs:List Int):List Int:=xs.mergeSort λx y=>decide (x<=y)
def Zor(N:Nat)(xs:List Int):Option ((List Int×Unit)×Unit):=bif decide (xs.length<4611686018427387904)then some ((sortInts xs,()),())else none
theorem sortInt_some{N:Nat}{xs:List Int}{o:(List Int×Unit)×Unit}(h:Zor N xs=some o):xs.length<4611686018427387904/\o=((sortInts xs,()),()):=by
 unfold Zor at h;by_cases h':xs.length<4611686018427387904
 .rw[show decide (xs.length<4611686018427387904)=true by simpa using h']at h;simp only[We]at h;injection h with h;exact⟨h',h.symm⟩
 .rw[show decide (xs.length<4611686018427387904)=false by simpa using h']at h;cases h
end Go.Sx
namespace Go.Sx
set_option linter.unusedVariables false
def WlF{α:Type}(r:α->α->Bool):List α->Bool
 | []=>true
 |x::l=>l.all (r x)&&WlF r l
def lessBy{α:Type}(cf:α->α->Int)(x y:α):Bool:=decide (cf x y<0)
def apart{α:Type}(cf:α->α->Int)(x y:α):Bool:=lessBy cf x y||lessBy cf y x
def sortBy{α:Type}(cf:α->α->Int)(xs:List α):List α:=xs.mergeSort λx y=>!lessBy cf y x
def Zn6{α:Type}(rng:α->Bool)(cf:α->α->Int)(N:Nat)(xs:List α):Option ((List α×Unit)×Unit):=
 bif xs.all rng&&(WlF (apart cf) xs&&decide (xs.length<4611686018427387904))then some ((sortBy cf xs,()),())else none
structure SwoOn{α:Type}(rng:α->Bool)(cf:α->α->Int):Prop where
 irr:∀x,rng x=true->¬cf x x<0
 tr:∀x y z,rng x=true->rng y=true->rng z=true->cf x y<0->cf y z<0->cf x z<0
 nt:∀x y z,rng x=true->rng y=true->rng z=true->¬cf x y<0->¬cf y z<0->¬cf x z<0
theorem sortBy_some{α:Type}{rng:α->Bool}{cf:α->α->Int}{N:Nat}{xs:List α}{o:(List α×Unit)×Unit}(h:Zn6 rng cf N xs=some o):
  (∀x∈xs,rng x=true)/\WlF (apart cf) xs=true/\xs.length<4611686018427387904/\o=((sortBy cf xs,()),()):=by
 unfold Zn6 at h;cases hb:xs.all rng&&(WlF (apart cf) xs&&decide (xs.length<4611686018427387904))
 .rw[hb]at h;cases h
 .rw[hb]at h;simp only[We]at h;injection h with h;simp only[Xi,Wh]at hb;exact⟨Xag.1 hb.1,hb.2.1,hb.2.2,h.symm⟩
theorem pairs_get{α:Type}{r:α->α->Bool}:∀{l:List α},WlF r l=true->∀(i j:Nat) (hi:i<l.length) (hj:j<l.length),i<j->r l[i] l[j]=true
 | [],_,i,_,hi,_,_=>by simp at hi
 |x::l,h,0,j+1,hi,hj,hij=>by
  simp only[WlF,Xi]at h;exact Xag.1 h.1 _ (List.getElem_mem _)
 |x::l,h,i+1,j+1,hi,hj,hij=>by
  simp only[WlF,Xi]at h;simpa using pairs_get h.2 i j (by simpa using hi) (by simpa using hj) (by omega)
def Wv4(k:Int):Bool:=decide (-1000000000<=k)&&decide (k<=1000000000)
def WxP(a:Int×Int×Int):Bool:=Wv4 a.1
def cfE(a b:Int×Int×Int):Int:=a.1-b.1
def cfW(a b:Int×Int×List (Int×Int)):Int:=a.1-b.1
def Wwp(a:Int×Int×Int):Bool:=Wv4 a.1&&Wv4 a.2.1
def cfH(a b:Int×Int×Int):Int:=bif a.2.1==b.2.1 then a.1-b.1 else a.2.1-b.2.1
theorem Whe{k:Int}(h:Wv4 k=true):-1000000000<=k/\k<=1000000000:=by unfold Wv4 at h;simpa using h
theorem Wy9:SwoOn WxP cfE:=⟨λx _=>by unfold cfE;omega,λx y z _ _ _=>by unfold cfE;omega,λx y z _ _ _=>by unfold cfE;omega⟩
theorem Wcf{a b:Int×Int×Int}:cfH a b<0↔(a.2.1<b.2.1\/(a.2.1=b.2.1/\a.1<b.1)):=by
 unfold cfH;by_cases h:a.2.1=b.2.1
 .have:(a.2.1==b.2.1)=true:=by simpa using h
  rw[this];simp only[We];omega
 .have:(a.2.1==b.2.1)=false:=by simpa using h
  rw[this];simp only[Wc];omega
theorem Wyh{a b:Int×Int×Int}(h:(a.2.1 !=b.2.1)=false):a.1-b.1=cfH a b:=by
 have h:a.2.1=b.2.1:=bne_eq_false_iff_eq.1 h;unfold cfH;rw[beq_iff_eq.2 h];rfl
theorem Wx2{a b:Int×Int×Int}(h:(a.2.1 !=b.2.1)=true):a.2.1-b.2.1=cfH a b:=by
 have h:a.2.1≠b.2.1:=bne_iff_ne.1 h;unfold cfH;rw[beq_eq_false_iff_ne.2 h];rfl
theorem Wy5:SwoOn Wwp cfH:=⟨λx _=>by rw[Wcf];omega,λx y z _ _ _=>by rw[Wcf,Wcf,Wcf];omega,λx y z _ _ _=>by rw[Wcf,Wcf,Wcf];omega⟩
end Go.Sx
