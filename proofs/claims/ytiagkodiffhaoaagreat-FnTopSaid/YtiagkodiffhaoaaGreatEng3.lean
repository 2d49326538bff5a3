/- The abstract machine, part 3: a reflective interpreter of the program's code over data, with its soundness over the model. -/
import Derived.Test.YtiagkodiffhaoaaGreatEng2
open List renaming nil_append->p4,cons_append->hZ,nodup_cons->dH,map_cons->bo,mem_cons->Xr,mem_map->Xy,map_map->H3,map_id->Xgx,map_congr_left->vk,append_of_mem->Sq,mem_cons_of_mem->Xe,filter_cons->io,mem_cons_self->Xg,append_nil->rb,mem_append_left->Xn,nodup_append->gI,filter_append->vn,prefix_append->Xho,map_append->Xw,mem_filter->fc,mem_append_right->Xk,mem_append->Xo,map_nil->d6,all_eq_true->cS,range->bJ,mem_range->HV,mem_erase_of_ne->Xhh,length_erase_of_mem->Xgo,length_pos_of_mem->Xgy,length_range->Xfb,length_cons->Xv,getElem?_cons_succ->Xgv,length_append->bX,getD_eq_getElem?_getD->Xs,getElem?_append->ko,getElem?_cons_zero->H0,getElem?_eq_some_iff->iW,getElem?_append_right->HL,getElem?_tail->yi,mapM_cons->H5,eq_nil_of_length_eq_zero->eY,pairwise_singleton->ye,mem_singleton->dq,take_of_length_le->nm,getElem?_eq_getElem->Xq,drop_zero->HQ,tail_cons->L6,getElem?_map->hV,mem_of_getElem?->nl,map->AN,sum_cons->sO
open Bool renaming and_eq_true->Xl,not_eq_true'->hU,false_eq_true->my
open Option renaming bind_eq_some_iff->mx,bind_some->Xd,map_eq_some_iff->im
open Nat renaming zero_add->d4,sub_self->AL,le_refl->Xj,zero_le->jI,sub_zero->vu,beq->fG,le_trans->mA,add_zero->gJ,add_sub_cancel_left->AJ,le_of_ble_eq_true->Xhd,add_mul->o5,zero_mul->H4
open Array renaming getElem?_eq_some_iff->D3,getD_eq_getD_getElem?->D5,replicate->Ef
namespace Go.Sx
set_option linter.defProp false
set_option linter.unusedVariables false
set_option linter.unusedSimpArgs false
def O4{a:Type}{x}:∀{f c b d:List a},(f++x::b).Nodup->f++x::b=c++x::d->f=c
 | [],[],_,_,_,_=>rfl
 | [],y::c,b,d,e,h=>by
  simp only[p4,hZ,List.cons.injEq]at h;obtain⟨rfl,h⟩:=h;rw[p4,dH]at e;exact Wh (by rw[h];simp) e.1
 |y::f,[],b,d,e,h=>by
  simp only[p4,hZ,List.cons.injEq]at h;obtain⟨rfl,h⟩:=h;rw[hZ,dH]at e;exact Wh Δ e.1
 |y::f,z::c,b,d,e,h=>by
  simp only[hZ,List.cons.injEq]at h;obtain⟨rfl,h⟩:=h;rw[hZ,dH]at e;rw[O4 e.2 h]
def ce(a:Array Oper)(i:Nat):Bool:=match a[i]? with
 |some o=>cz o
 |none=>false
def Rel.same{k}{F}{l}{m G}{j}{g a}{f}{w}(h:Rel k F l m G j g f w)
  (d:∀t,look a.env t=look g.env t) (e:a.objs=g.objs) (b:a.nx=g.nx):Rel k F l m G j a f w:=
 ⟨h.defers,h.ntm,h.par,λi x c=>by rw[d]at c;rw[b];exact h.env i x c,by rw[e,b];exact h.h,h.gx⟩
def WzG:∀(c:List Rc),(c.map (·.i)).Nodup->∃a:Nat->Rc,∀ρ∈c,a ρ.i=ρ
 | [],_=>⟨λi=>⟨i,.tup [],[],0,[],false⟩,Δ⟩
 |ρ::c,h=>by
  rw[bo,dH]at h;obtain⟨a,d⟩:=WzG c h.2;refine⟨λi=>if i=ρ.i then ρ else a i,λx b=>?_⟩;rcases Xr.1 b with rfl|b
  .simp
  .simp only;rw[Wa (λe=>h.1 (by rw[<-e];exact Xy.2 ⟨x,b,rfl⟩))];exact d x b
section
variable{u:World}{F:CS}{z:Slots}{X:GH}{P:Program}{T:Tab}{Γ:Ctx}{A:List (Nat×An)}{K:Array Oper}{Q:Exit->Act->World->Prop}
def WvE(hT:bv P T)(hΓ:ji P Γ)(hd:∀o∈K,∀d,o.dst=some d->z.Ok d){l L:List Nat}(J:Order K l)(V:Order K L)(fY:Lg K)
  (jp:∀(i) (o) (t),K[i]?=some o->t∈rO K o->∀j,jY K j=some t->j=i\/hN (kQ K.toList []) j i=true\/hN (kQ K.toList []) i j=true)
  (hσ:l.filter (ce K)=L.filter (ce K)) {rs:List Rc} {k an} (kz:rs.map (·.i)=L) (mZ:zg T Γ A K rs k an) (df:rs.Pairwise (OB (kQ K.toList [])))
  (hK:∀a w G r,Rel u F z X G r an a w->Q .normal a w) {a} {w} {G} {r} (hr:Rel u F z X G r k a w):wpOps P K Q l a w:=by
 have bu:(rs.map (·.i)).Nodup:=by rw[kz];exact V.nodup
 obtain⟨v,bC⟩:=WzG rs bu;have D:L.map v=rs:=by
  rw[<-kz,H3]
  conv=>rhs;rw[<-Xgx rs]
  exact vk λρ f=>bC ρ f
 have ll:∀i,i∈l↔i∈L:=λi=>by rw[<-J.all,V.all]
 have n:∀i∈L,(v i).i=i/\v i∈rs:=λi b=>by
  rw[<-kz]at b;obtain⟨ρ,f,rfl⟩:=Xy.1 b;rw[bC ρ f];exact⟨rfl,f⟩
 have gD:∀i∈L,∃N post o H W,L=N++i::post/\zg T Γ A K (N.map v) k H/\StepTo T Γ A K (v i) o H W:=λi b=>by
  obtain⟨N,post,e⟩:=Sq b;have:rs=N.map v++v i::post.map v:=by rw[<-D,e];simp
  rw[this]at mZ;obtain⟨o,H,W,h1,M⟩:=VD _ _ _ _ _ mZ;exact⟨N,post,o,H,W,e,h1,M⟩
 have jK:∀i∈L,(v i).mv=ce K i:=λi b=>by
  obtain⟨N,post,o,H,W,e,h1,M⟩:=gD i b;rw[M.isM];have:=M.at_;rw[(n i b).1]at this;unfold ce;rw[this]
 have O:∀(p:List Nat),(∀i∈p,i∈L)->(p.map v).filter (·.mv)=(p.filter (ce K)).map v:=by
  intro p
  induction p with
  |nil=>intro _;rfl
  |cons i p ih=>
   intro h;have:=ih λj c=>h j (Xe _ c);rw[bo,io,io,jK i (h i (Xg ..))];split
   .rw[bo,this]
   .exact this
 have re:∀(p:List Nat),(∀i∈p,i∈L)->(p.map v).map (·.i)=p:=by
  intro p h;rw[H3]
  conv=>rhs;rw[<-Xgx p]
  exact vk λi b=>(n i (h i b)).1
 have eH:∀(p:List Nat),(∀i∈p,i∈L)->∀i∈L,(v i∈p.map v↔i∈p):=λp hp i b=>by
  constructor
  .intro h;obtain⟨j,c,e⟩:=Xy.1 h;have:j=i:=by rw[<-(n j (hp j c)).1,<-(n i b).1,e]
   rw[<-this];exact c
  .exactλh=>Xy.2 ⟨i,h,rfl⟩
 have qb:∀i j N post,L=N++i::post->j∈post->OB (kQ K.toList []) (v i) (v j):=λi j N post e c=>by
  have:rs=N.map v++v i::post.map v:=by rw[<-D,e];simp
  rw[this,List.pairwise_append]at df;exact(List.pairwise_cons.1 df.2.1).1 _ (Xy.2 ⟨j,c,rfl⟩)
 suffices main:∀(s p:List Nat),l=p++s->∀(W:St) (a:Act) (w:World) (G:GH) (r:Nat->Nu),Rel u F z X G r W a w->
   (∀t,look W.env t=nd K (p.map v) (look k.env) t)->(W.objs,W.nx)=gt (p.map v) (k.objs,k.nx)->wpOps P K Q s a w from
  main l [] rfl k a w G r hr (λ_=>rfl) rfl
 intro s
 induction s with
 |nil=>
  intro p e W a w G r ky he B;rw[rb]at e;subst e;obtain⟨f1,f2⟩:=Pk _ _ _ mZ;have Z:∀i∈l,i∈L:=λi b=>(ll i).1 b;refine hK a w G r (ky.same (λt=>?_) ?_ ?_)
  .rw[f1,he];refine VH fY bu (by rw[re l Z];exact J.nodup) λρ _=>?_;constructor
   .intro f;have b:ρ.i∈L:=by rw[<-kz];exact Xy.2 ⟨ρ,f,rfl⟩
    rw[<-bC ρ f];exact(eH l Z ρ.i b).2 ((ll _).2 b)
   .intro f;obtain⟨i,b,rfl⟩:=Xy.1 f;exact(n i (Z i b)).2
  .have:gt (l.map v) (k.objs,k.nx)=gt rs (k.objs,k.nx):=by
    rw[zy,O l Z,hσ,<-O L (λi b=>b),<-zy,D]
   rw[this,<-f2]at B;exact(Wq (·.1) B).symm
  .have:gt (l.map v) (k.objs,k.nx)=gt rs (k.objs,k.nx):=by
    rw[zy,O l Z,hσ,<-O L (λi b=>b),<-zy,D]
   rw[this,<-f2]at B;exact(Wq (·.2) B).symm
 |cons i s ih=>
  intro p e W a w G r ky he B;have R:i∈L:=(ll i).1 (by rw[e];simp);have uD:∀j∈p,j∈L:=λj c=>(ll j).1 (by rw[e];exact Xn _ c);obtain⟨N,post,o,H,BQ,C,h1,M⟩:=gD i R;have lm:∀j∈N,j∈L:=λj c=>by rw[C];exact Xn _ c
  have tj:K[i]?=some o:=by have:=M.at_;rw[(n i R).1]at this;exact this
  obtain⟨g1,g2⟩:=Pk _ _ _ h1;have oU:=J.nodup;have oV:=V.nodup;rw[e]at oU;rw[C]at oV;have U:i∉p:=λh=>(gI.1 oU).2.2 i h i (Xg ..) rfl;have ln:i∉N:=λh=>(gI.1 oV).2.2 i h i (Xg ..) rfl;have rf:∀t∈rO K o,look W.env t=look H.env t:=λt ht=>by
   rw[he,g1];refine VH fY (by rw[re p uD];exact(gI.1 oU).1) (by rw[re N lm];exact(gI.1 oV).1) λρ E=>?_;have qa5:∀j∈L,jY K j=some t->(j∈p↔j∈N):=λj c xn=>by
    rcases jp i o t tj ht j xn with rfl|g|g
    .exact⟨λh=>Wh h U,λh=>Wh h ln⟩
    .by_cases m0:j=i
     .subst m0;exact⟨λh=>Wh h U,λh=>Wh h ln⟩
     .exact⟨λ_=>V.bef' C g m0,λ_=>J.bef' e g m0⟩
    .exact⟨λh=>Wh (J.bef e g h) U,λh=>Wh (V.bef C g h) ln⟩
   constructor
   .intro f;obtain⟨j,c,rfl⟩:=Xy.1 f;have uE:=uD j c;rw[(n j uE).1]at E;exact Xy.2 ⟨j,(qa5 j uE E).1 c,rfl⟩
   .intro f;obtain⟨j,c,rfl⟩:=Xy.1 f;have uE:=lm j c;rw[(n j uE).1]at E;exact Xy.2 ⟨j,(qa5 j uE E).2 c,rfl⟩
  have qc:gt (p.map v) (k.objs,k.nx)=gt ((p.filter (ce K)).map v) (k.objs,k.nx):=by rw[zy,O p uD]
  have qd:gt (N.map v) (k.objs,k.nx)=gt ((N.filter (ce K)).map v) (k.objs,k.nx):=by rw[zy,O N lm]
  obtain⟨BR,h3⟩:=M.move (a:=W) rf (λfS=>by
   have tm:ce K i=true:=by rw[<-jK i R];exact fS
   have:p.filter (ce K)=N.filter (ce K):=by
    have q:=hσ;rw[e,C,vn,vn,io,io,Wb tm,Wb tm]at q;refine O4 ?_ q;have:=J.nodup.filter (ce K);rw[e,vn,io,Wb tm]at this;exact this
   rw[qc,this,<-qd,<-g2]at B;exact⟨Wq (·.1) B,Wq (·.2) B⟩) (λkr id cr=>by
   have q:(p.filter (ce K))<+:l.filter (ce K):=by rw[e,vn];exact Xho _ _
   have q2:(N.filter (ce K))<+:l.filter (ce K):=by rw[hσ,C,vn];exact Xho _ _
   have xj:W.objs=(gt ((p.filter (ce K)).map v) (k.objs,k.nx)).1:=by rw[<-qc,<-B]
   have wD:H.objs=(gt ((N.filter (ce K)).map v) (k.objs,k.nx)).1:=by rw[<-qd,<-g2]
   rw[xj,wD];rcases List.prefix_or_prefix_of_prefix q q2 with⟨qa4,I⟩|⟨qa4,I⟩
   .
    rw[<-I,Xw,JB];refine(PL _ _ λρ f qa6=>?_).symm;obtain⟨m,S,rfl⟩:=Xy.1 f;have kA:m∈N:=(fc.1 (by rw[<-I];exact Xk _ S:m∈N.filter (ce K))).1;have rh:m∉p:=λaA=>by
     have xG:ce K m=true:=(fc.1 (by rw[<-I];exact Xk _ S:m∈N.filter (ce K))).2;have Y:(N.filter (ce K)).Nodup:=(gI.1 oV).1.filter _;rw[<-I]at Y;exact(gI.1 Y).2.2 m (fc.2 ⟨aA,xG⟩) m S rfl
    obtain⟨qa1,qa2,eu⟩:=Sq kA;have hf:=qb m i qa1 (qa2++i::post) (by rw[C,eu];simp) Δ;rcases hf.2 qa6 kr with g|g
    .rw[(n m (lm m kA)).1,(n i R).1]at g;exact Wh (J.bef' e g (λhc=>ln (hc▸kA))) rh
    .exact g id cr
   .rw[<-I,Xw,JB];refine PL _ _ λρ f qa6=>?_;obtain⟨m,S,rfl⟩:=Xy.1 f;have Au:m∈p.filter (ce K):=by rw[<-I];exact Xk _ S
    have oW:m∈p:=(fc.1 Au).1;have rh:m∉N:=λaA=>by
     have xG:ce K m=true:=(fc.1 Au).2;have Y:(p.filter (ce K)).Nodup:=(gI.1 oU).1.filter _;rw[<-I]at Y;exact(gI.1 Y).2.2 m (fc.2 ⟨aA,xG⟩) m S rfl
    have Av:=uD m oW;have ri:m∈post:=by
     rw[C]at Av;rcases Xo.1 Av with h|h
     .exact Wh h rh
     .rcases Xr.1 h with h|h
      .exact Wh (h▸oW) U
      .exact h
    have hf:=qb i m N post C ri;rcases hf.1 kr qa6 with g|g
    .rw[(n m (uD m oW)).1,(n i R).1]at g;exact Wh (J.bef e g oW) U
    .exact g id cr)
  have BS:∀d,o.dst=some d->z.Ok d:=hd o (Array.mem_of_getElem? tj);have wI:=Wzu (F:=F) (e:=X) (c:=u) hT hΓ BS (Q:=Q) (k:=some) (r:=BR) (K:=wpOps P K Q s) (λBT a' w' G' qa3 hr4 h4=>by
   injection h4 with h4;subst h4;refine ih (p++ [i]) (by rw[e];simp) BT a' w' G' qa3 hr4 (λt=>?_) ?_
   .rw[h3.env];have hv:nd K ((p++ [i]).map v) (look k.env) t=if jY K i=some t then some (v i).v else nd K (p.map v) (look k.env) t:=by
     rw[Xw];have gen:∀(x:List Rc) (y:Rc) (e:Nat->Option AVal),nd K (x++ [y]) e t=if jY K y.i=some t then some y.v else nd K x e t:=by
      intro x
      induction x with
      |nil=>intro y e;rfl
      |cons qa0 x ih=>intro y e;rw[hZ,nd,ih];rfl
     rw[List.map_singleton,gen,(n i R).1]
    rw[hv,he];have:jY K i=o.dst:=by unfold jY;rw[tj];rfl
    rw[this]
   .rw[Xw,JB,<-B];simp only[bo,d6,gt];rw[h3.objs,h3.nx];split<;>rfl) ky h3.run
  rw[wpOps_cons];unfold wpOp;rw[tj];simp only;split
  .rename_i hw;rw[Wb hw]at wI;exact .inl wI
  .rename_i hw;rw[Wa hw]at wI;exact wI
end
def V7:∀{l:List (Nat×Nat)},iE (l.map (·.1))=true->∀p∈l,∀q∈l,p.1=q.1->p=q
 | [],_,p,d,_,_,_=>by cases d
 |x::l,h,p,d,q,f,e=>by
  have c:=(JK _).1 h;simp only[bo,iE,Xl]at h;rw[bo,dH]at c;rcases Xr.1 d with b|b
  .rcases Xr.1 f with a|a
   .rw[b,a]
   .exact Wh (Xy.2 ⟨q,a,by rw[<-e,b]⟩) c.1
  .rcases Xr.1 f with a|a
   .exact Wh (Xy.2 ⟨p,b,by rw[e,a]⟩) c.1
   .exact V7 h.2 p b q a e
def VN:∀(l) (n k) (o:Oper) (d:Nat),l[k]?=some o->o.dst=some d->(d,n+k)∈xN l n
 | [],_,k,o,d,h,_=>by simp at h
 |x::l,n,k,o,d,h,hd=>by
  cases k with
  |zero=>
   simp at h;subst h;simp only[xN,hd];exact Xg ..
  |succ k=>
   have:=VN l (n+1) k o d (by simpa using h) hd;have e:n+(k+1)=n+1+k:=Ω
   rw[e];simp only[xN];split
   .exact Xe _ this
   .exact this
def UR{a}{B}{D}:∀(l) (n),Lf a B D l n=true->∀(k) (o),l[k]?=some o->∀t∈rO a o,∀p∈D,p.1=t->
  p.2=n+k\/hN B p.2 (n+k)=true\/hN B (n+k) p.2=true
 | [],_,_,k,o,h=>by simp at h
 |x::l,n,h,k,o,hk=>by
  simp only[Lf,Xl]at h;cases k with
  |zero=>
   simp at hk;subst hk;intro t b p c e;have:=cS.1 (cS.1 h.1 t b) p c;simp only[Bool.or_eq_true,hU]at this;rcases this with((h1|h1)|h1)|h1
   .rw[e]at h1;simp at h1
   .exact .inl (by simpa using h1)
   .exact .inr (.inl h1)
   .exact .inr (.inr h1)
  |succ k=>
   have:=UR l (n+1) h.2 k o (by simpa using hk);have e:n+(k+1)=n+1+k:=Ω
   rw[e];exact this
structure RegOk(a:Array Oper):Prop where
 back:∀(k:Nat) (o:Oper),a[k]?=some o->∀d∈lr o,d<k
 one:Lg a
 slots:∀(i:Nat) (o:Oper) (t:Nat),a[i]?=some o->t∈rO a o->∀j,jY a j=some t->j=i\/hN (kQ a.toList []) j i=true\/hN (kQ a.toList []) i j=true
def PE{a}{j t:Nat}(h:jY a j=some t):(t,j)∈xN a.toList 0:=by
 unfold jY at h;obtain⟨o,b,c⟩:=mx.1 h;have:=VN a.toList 0 j o t (by simpa using b) c;rw[d4]at this;exact this
def Wtg{a}(h:Ot a (kQ a.toList [])=true):RegOk a:=by
 simp only[Ot,Xl]at h;obtain⟨⟨c,d⟩,f⟩:=h;refine⟨λk o b e g=>?_,λi j t l n=>?_,λi o t b m j n=>?_⟩
 .have:=XA (a:=a) a.toList 0 c k o (by simpa using b) e g;omega
 .have:=V7 d _ (PE l) _ (PE n) rfl;exact Wq (·.2) this
 .have:=UR a.toList 0 f i o (by simpa using b) t m _ (PE n) rfl;simpa using this
def VF{a}:∀(l done),sq a l done=true->done.Nodup->(∀i∈done,i<a.size)->
  (done++l).Nodup/\(∀i∈done++l,i<a.size)/\(done++l).length=a.size/\(∀p i s,l=p++i::s->∀o,a[i]?=some o->∀d∈lr o,d∈done++p)
 | [],done,h,g,ab=>by
  simp only[sq]at h;exact⟨by simpa using g,by simpa using ab,by simpa using h,λp i s e=>by simp at e⟩
 |x::l,done,h,g,ab=>by
  simp only[sq,Xl,hU]at h;obtain⟨⟨k,f⟩,u⟩:=h;have w:x∉done:=λv=>by rw[(nN x done).2 v]at k;cases k
  cases ho:a[x]? with
  |none=>rw[ho]at f;cases f
  |some o=>
   rw[ho]at f;have z:x<a.size:=(D3.1 ho).1;obtain⟨n,q,r,t⟩:=VF l (x::done) u (dH.2 ⟨w,g⟩) (λi b=>by
    rcases Xr.1 b with rfl|b
    .exact z
    .exact ab i b)
   have j:List.Perm (x::done++l) (done++x::l):=by simpa using(List.perm_middle (a:=x) (l₁:=done) (l₂:=l)).symm
   refine⟨j.nodup_iff.1 n,λi b=>q i (j.mem_iff.2 b),by rw[<-j.length_eq];exact r,λp i s e A c d m=>?_⟩;cases p with
   |nil=>
    simp only[p4,List.cons.injEq]at e;obtain⟨rfl,_⟩:=e;rw[ho]at c;injection c with c;subst c;have:=cS.1 f d m;simpa using(nN d done).1 this
   |cons y p=>
    simp only[hZ,List.cons.injEq]at e;obtain⟨rfl,e⟩:=e;have:=t p i s e A c d m;simp only[hZ,Xr,Xo]at this|-;rcases this with h|h|h
    .exact .inr (.inl h)
    .exact .inl h
    .exact .inr (.inr h)
def WqY{l:List Nat}{n}(s:l.Nodup)(o:∀i∈l,i<n)(t:l.length=n):∀i,i<n->i∈l:=by
 intro i r;refine Classical.byContradiction λh=>?_;have p:(i::l).Nodup:=dH.2 ⟨h,s⟩;have q:∀j∈i::l,j∈bJ n:=λj c=>by
  rw[HV];rcases Xr.1 c with rfl|c
  .exact r
  .exact o j c
 have d:∀(a b:List Nat),a.Nodup->(∀x∈a,x∈b)->a.length<=b.length:=by
  intro a
  induction a with
  |nil=>intro b _ _;simp
  |cons x a ih=>
   intro b f k;rw[dH]at f;have m:x∈b:=k x (Xg ..);have:=ih (b.erase x) f.2 λy g=>(Xhh (λe=>f.1 (by rw[<-e];exact g))).2 (k y (Xe _ g));rw[Xgo m]at this;have u:=Xgy m;simp;omega
 have:=d _ _ p q;rw[Xfb,Xv]at this;omega
def WqO{a}{l}(h:sq a l []=true):Order a l:=by
 obtain⟨k,b,c,f⟩:=VF l [] h List.nodup_nil Δ;rw[p4]at k b c;exact⟨k,λi=>⟨WqY k b c i,b i⟩,λp i s e o j d g=>by simpa using f p i s e o j d g⟩
def V6:∀(l) (n i),i∈xD l n↔n<=i/\∃o,l[i-n]?=some o/\cz o=true
 | [],n,i=>by simp[xD]
 |o::l,n,i=>by
  have g:=V6 l (n+1) i;have j:(n<=i/\∃a,(o::l)[i-n]?=some a/\cz a=true)↔(i=n/\cz o=true)\/(n+1<=i/\∃a,l[i-(n+1)]?=some a/\cz a=true):=by
   by_cases d:i=n
   .subst d;constructor
    .rintro⟨_,a,b,c⟩;rw[AL]at b;injection b with b;subst b;exact .inl ⟨rfl,c⟩
    .rintro(⟨_,h⟩|⟨h,_⟩)
     .exact⟨Xj _,o,by rw[AL];rfl,h⟩
     .omega
   .constructor
    .rintro⟨f,a,b,c⟩;have e:i-n=(i-(n+1))+1:=Ω
     rw[e,Xgv]at b;exact .inr ⟨Ω,a,b,c⟩
    .rintro(⟨h,_⟩|⟨f,a,b,c⟩)
     .exact Wh h d
     .have e:i-n=(i-(n+1))+1:=Ω
      exact⟨Ω,a,by rw[e,Xgv];exact b,c⟩
  rw[j,<-g];simp only[xD];cases hm:cz o with
  |true=>simp
  |false=>simp
def WpY{a}{i}:i∈xD a.toList 0↔ce a i=true:=by
 rw[V6];unfold ce;simp only[jI,true_and,vu,Array.getElem?_toList];cases a[i]? with
 |none=>simp
 |some o=>simp
def ZQ{B}:∀(σ rem) (n),σ.length<=n->σ.Nodup->(∀i,i∈rem↔i∈σ)->(∀p m s,σ=p++m::s->∀u∈m::s,hN B u m=false)->σ∈zn B n rem
 | [],rem,n,d,c,b,hb=>by
  have:rem= []:=List.eq_nil_iff_forall_not_mem.2 λi l=>by have:=(b i).1 l;cases this
  subst this;cases n<;>simp[zn]
 |m::s,rem,0,d,_,_,_=>by simp at d
 |m::s,rem,n+1,d,c,b,hb=>by
  have g:m∈rem:=(b m).2 (Xg ..);rw[dH]at c;cases lQ:rem with
  |nil=>rw[lQ]at g;cases g
  |cons x a=>
   rw[<-lQ];have r:zn B (n+1) rem=(rem.filter λm=>rem.all λu=>!hN B u m).flatMap λm=>(zn B n (rem.filter λx=>!fG x m)).map (m:: ·):=by rw[lQ];rfl
   rw[r];refine List.mem_flatMap.2 ⟨m,fc.2 ⟨g,cS.2 λu o=>?_⟩,Xy.2 ⟨s,?_,rfl⟩⟩
   .rw[hb [] m s rfl u ((b u).1 o)];rfl
   .refine ZQ s _ n (by simpa using d) c.2 (λi=>?_) (λp q t e=>hb (m::p) q t (by rw[e];rfl));rw[fc,b,Xr];constructor
    .rintro⟨f,k⟩;rcases f with rfl|f
     .simp at k
     .exact f
    .intro h;refine⟨.inr h,?_⟩;have j:i≠m:=λe=>c.1 (e▸h);cases dc:fG i m with
     |false=>rfl
     |true=>exact Wh (Nat.eq_of_beq_eq_true dc) j
def Wzn:∀(l m),eqN l m=true->l=m
 | [],[],_=>rfl
 | [],_::_,h=>by cases h
 |_::_,[],h=>by cases h
 |i::l,j::m,h=>by
  simp only[eqN,Xl]at h;have:i=j:=by simpa using h.1
  rw[this,Wzn l m h.2]
def Wxh{a}{c b}{r:a}(h:dL c b=some r):c=some r/\b=some r:=by
 unfold dL at h;split at h
 .rename_i e;exact⟨h,e▸h⟩
 .cases h
section
variable{w0:World}{F:CS}{y:Slots}{G0:GH}{P:Program}{T:Tab}{z:Ctx}{A:List (Nat×An)}{R:Type}{r:R}
def ZY{a}{B}{e}{k}:∀(l),F3 T z A a B e k l=some r->∀σ∈l,∃L,sq a L []=true/\L.filter (λi=>gc i σ)=σ/\rdx T z A a B L [] [] e k=some r
 | [],_,σ,hσ=>by cases hσ
 |τ::l,h,σ,hσ=>by
  have one:uW (Le a.toList B a.size [] τ) (λL=>bif sq a L []&&eqN (L.filter λi=>gc i τ) τ then rdx T z A a B L [] [] e k else none)=some r->∃L,sq a L []=true/\L.filter (λi=>gc i τ)=τ/\rdx T z A a B L [] [] e k=some r:=λh=>by
   rw[GB]at h;obtain⟨d,h⟩:=lB h;simp only[Xl]at d;exact⟨_,d.1,Wzn _ _ d.2,h⟩
  cases l with
  |nil=>
   simp only[F3]at h;rcases Xr.1 hσ with rfl|hσ
   .exact one h
   .cases hσ
  |cons x l=>
   have h:dL (uW (Le a.toList B a.size [] τ) (λL=>bif sq a L []&&eqN (L.filter λi=>gc i τ) τ then rdx T z A a B L [] [] e k else none)) (F3 T z A a B e k (x::l))=some r:=h;obtain⟨b,c⟩:=Wxh h;rcases Xr.1 hσ with rfl|hσ
   .exact one b
   .exact ZY (x::l) c σ hσ
def Wyr(hM:P.follows .mixedOrders=true)(hT:bv P T)(hΓ:ji P z){id}{s:Array Oper}(C:∀o∈s,∀d,o.dst=some d->y.Ok d){k}{Q}(hK:qM w0 F y G0 k r (Q .normal)):
  qM w0 F y G0 (λst=>Oc T z A s st k) r ((Code.region id s true).wp P Q):=λst a w G ν q h=>by
 simp only[Oc,Yg]at h;obtain⟨rk,h⟩:=lB h;have B:=Wtg rk;refine wp_region_draw λt=>?_;rw[hM];have f:Order s (Region.schedule true s t):=Wlt B.back;generalize Region.schedule true s t=l at f;have hσ:l.filter (ce s)∈zn (kQ s.toList []) s.size (xD s.toList 0):=by
  refine ZQ _ _ _ ?_ (f.nodup.filter _) (λi=>?_) (λp m qa0 e n kB=>?_)
  .refine mA (List.length_filter_le _ _) ?_;have U:l.length<=(bJ s.size).length:=by
    have R:∀(a b:List Nat),a.Nodup->(∀x∈a,x∈b)->a.length<=b.length:=by
     intro a
     induction a with
     |nil=>intro b _ _;simp
     |cons x a ih=>
      intro b S Z;rw[dH]at S;have uF:x∈b:=Z x (Xg ..);have:=ih (b.erase x) S.2 λqa1 Y=>(Xhh (λe=>S.1 (by rw[<-e];exact Y))).2 (Z qa1 (Xe _ Y));rw[Xgo uF]at this;have dg:=Xgy uF;simp;omega
    exact R _ _ f.nodup λx X=>HV.2 ((f.all x).2 X)
   rw[Xfb]at U;exact U
  .rw[WpY,fc];constructor
   .intro h;refine⟨(f.all i).1 ?_,h⟩;unfold ce at h;split at h
    .rename_i o J;exact(D3.1 J).1
    .cases h
   .exactλh=>h.2
  .cases hb:hN (kQ s.toList []) n m with
   |false=>rfl
   |true=>
    exfalso;have kC:m∈l:=(fc.1 (by rw[e];simp:m∈l.filter (ce s))).1;obtain⟨u,v,M⟩:=Sq kC;have I:n∈u++ [m]:=f.bef (p:=u++ [m]) (s:=v) (by rw[M];simp) hb Δ;have xH:ce s m=true:=(fc.1 (by rw[e];simp:m∈l.filter (ce s))).2;have K:=f.nodup.filter (ce s);have e2:l.filter (ce s)=u.filter (ce s)++m::v.filter (ce s):=by rw[M,vn,io,Wb xH]
    have BU:p=u.filter (ce s):=by
     refine O4 (b:=qa0) (d:=v.filter (ce s)) (x:=m) ?_ ?_
     .rw[<-e];exact K
     .rw[<-e,e2]
    rcases Xr.1 kB with rfl|hm's
    .
     have:=f.bef (p:=u++ [n]) (s:=v) (by rw[M];simp) hb Δ;have bQ:Hu s (λj=>j∈u\/(j=n/\False)):=λi o J D d C=>by
      rcases D with D|⟨_,O⟩
      .exact .inl (f.closed (p:=u) (s:=n::v) M i o J D d C)
      .exact O.elim
     have qa2:∀(j i:Nat),hN (kQ s.toList []) j i=true->j<i:=λj i m0=>by
      have rn:Hu s (λx=>x<i\/(x=i)):=λx o J X d C=>by
       have:d<x:=B.back x o J d C;omega
      refine Classical.byContradiction λhn=>?_;have ab:∀(l:List Oper) (c:List (List Nat)),(∀(k:Nat) (o:Oper),l[k]?=some o->s[c.length+k]?=some o)->(∀i,∀j∈c.getD i [],j<i)->∀i,∀j∈(kQ l c).getD i [],j<i:=by
       intro l
       induction l with
       |nil=>intro c _ h;exact h
       |cons o l ih=>
        intro c f h;refine ih _ (λk o' E=>?_) (λi j g=>?_)
        .have:=f (k+1) o' (by simpa using E);rw[bX];have e:c.length+(k+1)=c.length+ [u6 c (lr o) []].length+k:=Φ
         rw[<-e];exact this
        .rw[Xs,ko]at g;split at g
         .exact h i j (by rw[Xs];exact g)
         .by_cases he:i=c.length
          .subst he;simp only[AL,H0,Option.getD_some]at g;rcases(PU _ _).1 g with⟨k,E,N⟩|g
           .have oX:k<c.length:=B.back c.length o (f 0 o Δ) k E;rcases N with rfl|N
            .exact oX
            .have:=h k j N;omega
           .cases g
          .have:[u6 c (lr o) []][i-c.length]?=none:=List.getElem?_eq_none Φ;rw[this]at g;cases g
      exact hn (ab s.toList [] (λk o E=>by simpa using E) (λi j g=>by simp at g) i j ((nN _ _).1 m0))
     have:=qa2 n n hb;omega
    .
     have H:n∈p:=by
      rw[BU];rcases Xo.1 I with h|h
      .refine fc.2 ⟨h,?_⟩;exact(fc.1 (by rw[e];simp[hm's]:n∈l.filter (ce s))).2
      .simp at h;subst h;rw[e]at K;have:=(dH.1 (gI.1 K).2.1).1;exact Wh hm's this
     rw[e]at K;exact(gI.1 K).2.2 n H n (Xe _ hm's) rfl
 obtain⟨L,g1,g2,g3⟩:=ZY _ h _ hσ;have V:=WqO g1;obtain⟨rs,an,q1,q2,q3,q4,_,_⟩:=QI _ _ _ _ g3;have O:l.filter (ce s)=L.filter (ce s):=by
  rw[<-g2];refine List.filter_congr λi D=>?_;cases W:ce s i with
  |true=>exact(nN _ _).2 (fc.2 ⟨(f.all i).1 ((V.all i).2 D),W⟩)
  |false=>
   cases he:gc i (l.filter (ce s))with
   |false=>rfl
   |true=>
    have:=(fc.1 ((nN _ _).1 he)).2;rw[W]at this;cases this
 have bj:Rel w0 F y G0 G ν st a {w with drawn:=w.drawn+1}:=⟨q.defers,q.ntm,q.par,q.env,?_,q.gx⟩
 .exact WvE hT hΓ C f V B.one B.slots O q1 q2 q4 (λa w G ν q=>hK an a w G ν q q3) bj
 .exact q.h.drew
end
section
variable{a:World}{F:CS}{b:Slots}{c:GH}{P:Program}{T:Tab}{d:Ctx}{A:List (Nat×An)}{R:Type}{r:R}
def AF(q:P.follows .mixedOrders=true)(j:bv P T)(l:ji P d){n}{kept}(s:b.n=n)(t:∀p∈b.kept,p.1∈kept){ann}{N}:∀(W),oC n kept W=true->∀{k} {Q},
  (∀e,qM a F b c (k e) r (Q e.to))->qM a F b c (λM=>sx T d ann N W M k) r (W.wp P Q)
 | .skip,_,k,Q,hK=>λM L w G O f h=>wp_skip (hK .normal M L w G O f h)
 | .exit id,_,k,Q,hK=>λM L w G O f h=>wp_exit (hK (.exit id) M L w G O f h)
 | .ret,_,k,Q,hK=>λM L w G O f h=>wp_ret (hK .ret M L w G O f h)
 | .region id S draw,i,k,Q,hK=>λM L w G O f h=>by
  have H:qM a F b c (λX=>match pw (ann id) X with|some (W,dj)=>bif W then k .normal dj else none|none=>none) r (Q .normal):=λX D Y V I u g=>by
   simp only at g;split at g
   .rename_i W dj hg;obtain⟨rfl,g⟩:=lB g;obtain⟨C,J,z⟩:=Gs _ _ _ _ _ u hg;exact hK .normal _ _ _ _ _ z g
   .cases g
  have E:∀o∈S,∀Z,o.dst=some Z->b.Ok Z:=λo A=>WqF s t (cS.1 i o (by simpa using A));cases draw with
  |true=>exact Wyr q j l E H M L w G O f h
  |false=>exact wp_region_list (Wzw j l S.toList (λo A=>E o (by simpa using A)) H M L w G O f h)
 | .seq x y,i,k,Q,hK=>λM L w G O f h=>by
  simp only[oC,Xl]at i;refine wp_seq (AF q j l s t x i.1 (Q:=Exit.then (y.wp P Q) Q) (λe=>?_) M L w G O f h);cases e with
  |normal=>exact AF q j l s t y i.2 hK
  |exit id=>exact hK (.exit id)
  |ret=>exact hK .ret
 | .cond W x y,i,k,Q,hK=>λM L w G O f h=>by
  simp only[oC,Xl]at i;simp only[sx]at h;split at h
  .rename_i U hb;cases hv:ev M W with
   |none=>simp[hv]at hb
   |some v=>
    simp only[hv,Xd]at hb;have K:=Rk v _ U (W2 f W v hv) hb;refine wp_cond K ?_;cases U with
    |true=>exact AF q j l s t x i.1 hK M L w G O f h
    |false=>exact AF q j l s t y i.2 hK M L w G O f h
  .cases h
 | .block id W,i,k,Q,hK=>λM L w G O f h=>by
  simp only[oC]at i;refine wp_block (AF q j l s t W i (Q:=Exit.inBlock id Q) (λe=>?_) M L w G O f h);cases e with
  |normal=>exact hK .normal
  |exit cH=>
   intro X D Y V I u g;simp only[Ex.to,Exit.inBlock];split
   .rename_i he;simp only[he,gp]at g;exact hK .normal _ _ _ _ _ u g
   .rename_i he;simp only[he,jN]at g;exact hK (.exit cH) _ _ _ _ _ u g
  |ret=>exact hK .ret
 | .loop W,i,k,Q,hK=>λM L w G O f h=>by
  simp only[oC]at i;refine wp_loop_rounds N ?_;have B:∀(m:Nat),qM a F b c (λM=>AI (DQ (ann (Al W)) λM k=>sx T d ann N W M k) m M k) r (Code.rounds P W Q m):=by
   intro m
   induction m with
   |zero=>intro M L w G O f h;cases h
   |succ m ih=>
    intro M L w G O f h;rw[rounds_succ];have h:sx T d ann N W M (λe X=>match e with
     | .normal=>match pw (ann (Al W)) X with
      |some (U,dj)=>bif U then AI (DQ (ann (Al W)) λM k=>sx T d ann N W M k) m dj k else none
      |none=>none
     | .exit id=>k (.exit id) X
     | .ret=>k .ret X)=some r:=by
     rw[<-h];simp only[AI,DQ];congr 1
    refine AF q j l s t W i (Q:=Exit.then (Code.rounds P W Q m) Q) (λe=>?_) M L w G O f h;cases e with
    |normal=>
     intro X D Y V I u g;simp only at g;split at g
     .rename_i U dj hg;obtain⟨rfl,g⟩:=lB g;obtain⟨C,J,z⟩:=Gs _ _ _ _ _ u hg;exact ih _ _ _ _ _ z g
     .cases g
    |exit id=>exact hK (.exit id)
    |ret=>exact hK .ret
  have h:(match pw (ann (Al W)) M with
   |some (U,X)=>bif U then AI (DQ (ann (Al W)) λM k=>sx T d ann N W M k) N X k else none
   |none=>none)=some r:=h
  split at h
  .rename_i U X hg;obtain⟨rfl,h⟩:=lB h;obtain⟨C,J,z⟩:=Gs _ _ _ _ _ f hg;exact B N _ _ _ _ _ z h
  .cases h
 | .scope ..,_,k,Q,hK=>λM L w G O f h=>by cases h
 | .label ..,_,k,Q,hK=>λM L w G O f h=>by cases h
 | .goto ..,_,k,Q,hK=>λM L w G O f h=>by cases h
 | .rangeFunc ..,_,k,Q,hK=>λM L w G O f h=>by cases h
 | .refuse ..,_,k,Q,hK=>λM L w G O f h=>by cases h
end
section
variable{w0:World}{F:CS}{e:Slots}{g G G':GH}{S:Nat->Nu}{V:Nat->CS}{Z:ai}{Y v:Nat}{b c:St}{a:Act}{w d:World}{P:Program}{T:Tab}{f:Ctx}
def Vg:∀(a) (j i),look (Dt j a) i=if j<=i then a[i-j]? else none
 | [],j,i=>by simp[Dt,look]
 |x::a,j,i=>by
  simp only[Dt];rw[WZ,Vg a (j+1) i];by_cases h:j=i
  .subst h;simp
  .by_cases h2:j<=i
   .have h3:j+1<=i:=Ω
    rw[Wa h,Wb h3,Wb h2,show i-j=(i-(j+1))+1 by omega];rfl
   .rw[Wa h,Wa h2,Wa Ω]
def XB:∀(l),HK (iM l)=l
 | []=>rfl
 |i::l=>by
  show i::HK (iM l)=i::l;rw[XB l]
def V0:∀(ps) (d) (Z) (Y n),DM ps n=true->∃a,a.length=n/\(W3 ps d Z Y).1.take n=iM a
 |_,_,_,_,0,_=>⟨[],rfl,rfl⟩
 | [],_,_,_,_+1,h=>by cases h
 | .v _ _::_,_,_,_,_+1,h=>by cases h
 | .mut _::_,_,_,_,_+1,h=>by cases h
 | .clos _ _::_,_,_,_,_+1,h=>by cases h
 | .rp _::_,_,_,_,_+1,h=>by cases h
 | .vj _::_,_,_,_,_+1,h=>by cases h
 | .boxal _ _::_,_,_,_,_+1,h=>by cases h
 | .box t::ps,d,Z,Y,n+1,h=>by
  obtain⟨a,b,c⟩:=V0 ps d.2 ((Y,.box (unfold t d.1 (Y+1)).1)::((unfold t d.1 (Y+1)).2.1++Z)) (unfold t d.1 (Y+1)).2.2 n h;refine⟨Y::a,by simp[b],?_⟩;simp only[W3,List.take_succ_cons,c];rfl
def zB:∀(ps) (d) (Q) (r) (I) (Z) (Y v),lC ps=true->mc G w ps d Q r I->At S V Y r->Y+r.length<=v->
  (W3 ps d Z Y).2.2=Y+r.length/\
  (∀i q,look (W3 ps d Z Y).2.1 i=some q->(Y<=i/\i<Y+r.length/\gy G S v w i (V i) q)\/look Z i=some q)/\
  (W3 ps d Z Y).1.length=Q.length/\∀(j:Nat) (x) (qa4),(W3 ps d Z Y).1[j]?=some x->Q[j]?=some qa4->AValRel G S v x qa4
 | [],d,Q,r,I,Z,Y,v,_,⟨k,p,N⟩,_,_=>by
  subst k p;exact⟨rfl,λi q h=>.inr h,rfl,λj x qa4 h=>by simp[W3]at h⟩
 | .v t agg::ps,d,Q,r,I,Z,Y,v,A,⟨qa4,B,n1,l,k,p,N,K⟩,m,hx=>by
  subst p;obtain⟨O,qT⟩:=Wxl N;have P:=pi _ _ _ _ qT;have L:(n1++l).length=t.owns+l.length:=by rw[bX,P]
  obtain⟨_,X⟩:=pf t d.1 Y O n1 qT m.left;obtain⟨D,E,F,C⟩:=zB ps d.2 B l I ((unfold t d.1 Y).2.1++Z) (Y+t.owns) v A K (m.right P) Ω;simp only[W3,pl];refine⟨by rw[D,L];omega,λi q R=>?_,by rw[k];simp[F],λj x u f a=>?_⟩
  .rcases E i q R with⟨J,M,y⟩|g
   .exact .inl ⟨Ω,Ω,y⟩
   .rcases tT g with g|g
    .obtain⟨J,M,e,xs,rfl,y⟩:=X i q g;exact .inl ⟨J,Ω,y⟩
    .exact .inr g
  .rw[k]at a;cases j with
   |zero=>simp at f a;subst f a;exact ZP N m.left Ω
   |succ j=>exact C j x u (by simpa using f) (by simpa using a)
 | .box t::ps,d,Q,r,I,Z,Y,v,A,⟨b,o,B,n1,l,U,k,p,N,⟨O,ae,qa1,W⟩,h6⟩,m,hx=>by
  subst p;have P:=pi _ _ _ _ W;have L:((⟨fA b o,rng b o t.size⟩:Pc)::(n1++l)).length=1+t.owns+l.length:=by rw[Xv,bX,P];omega
  obtain⟨c,H⟩:S Y=fA b o/\V Y=rng b o t.size:=by have:=m 0 _ rfl;simpa using this
  have z:At S V (Y+1) (n1++l):=m.right (d:=[⟨fA b o,rng b o t.size⟩]) rfl;obtain⟨c1,X⟩:=pf t d.1 (Y+1) O n1 W z.left;have qa3:=zw t d.1 (Y+1);obtain⟨D,E,F,C⟩:=zB ps d.2 B l U ((Y,.box (unfold t d.1 (Y+1)).1)::((unfold t d.1 (Y+1)).2.1++Z)) (Y+1+t.owns) v A h6 (z.right P) Ω;simp only[W3,pl];refine⟨by rw[D,L];omega,λi q R=>?_,by rw[k];simp[F],λj x u f a=>?_⟩
  .rcases E i q R with⟨J,M,y⟩|g
   .exact .inl ⟨Ω,Ω,y⟩
   .rw[WZ]at g;split at g
    .rename_i e;subst e;injection g with g;subst g;exact .inl ⟨Xj _,Ω,b,O,by rw[c];rfl,by rw[c,qa3];exact ae,by rw[c];exact qa1,c1 v Ω,by rw[c,qa3,H];exactλ_ _ hh=>hh⟩
    .rcases tT g with g|g
     .obtain⟨J,M,e,xs,rfl,y⟩:=X i q g;exact .inl ⟨Ω,Ω,y⟩
     .exact .inr g
  .rw[k]at a;cases j with
   |zero=>
    simp at f a;subst f a;exact⟨⟨Ω,b,by rw[c];rfl,by rw[c];rfl⟩,rfl⟩
   |succ j=>exact C j x u (by simpa using f) (by simpa using a)
 | .vj _::_,_,_,_,_,_,_,_,_,h,_,_=>h.elim
 | .boxal t lf::ps,d,Q,r,I,Z,Y,v,A,⟨b,o,b',T,B,n1,l,U,k,p,N,⟨O,ae,qa1,W⟩,K,h5,h7,h6⟩,m,hx=>by
  subst p;have P:=pi _ _ _ _ W;have L:((⟨fA b o,rng b o t.size⟩:Pc)::(n1++l)).length=1+t.owns+l.length:=by rw[Xv,bX,P];omega
  obtain⟨c,H⟩:S Y=fA b o/\V Y=rng b o t.size:=by have:=m 0 _ rfl;simpa using this
  have z:At S V (Y+1) (n1++l):=m.right (d:=[⟨fA b o,rng b o t.size⟩]) rfl;obtain⟨c1,X⟩:=pf t d.1 (Y+1) O n1 W z.left;have qa3:=zw t d.1 (Y+1);have uH:lf<n1.length:=(iW.1 K).1;have qa0:S (Y+1+lf)=T.nu:=(z.left lf T K).1;obtain⟨D,E,F,C⟩:=zB ps d.2.2 B l U ((Y,.box (unfold t d.1 (Y+1)).1)::((unfold t d.1 (Y+1)).2.1++Z)) (Y+1+t.owns) v A h6 (z.right P) Ω;simp only[W3,pl];refine⟨by rw[D,L];omega,λi q R=>?_,by rw[k];simp[F],λj x u f a=>?_⟩
  .rcases E i q R with⟨J,M,y⟩|g
   .exact .inl ⟨Ω,Ω,y⟩
   .rw[WZ]at g;split at g
    .rename_i e;subst e;injection g with g;subst g;exact .inl ⟨Xj _,Ω,b,O,by rw[c];rfl,by rw[c,qa3];exact ae,by rw[c];exact qa1,c1 v Ω,by rw[c,qa3,H];exactλ_ _ hh=>hh⟩
    .rcases tT g with g|g
     .obtain⟨J,M,e,xs,rfl,y⟩:=X i q g;exact .inl ⟨Ω,Ω,y⟩
     .exact .inr g
  .rw[k]at a
   match j with
   |0=>
    simp at f a;subst f a;exact⟨⟨Ω,b,by rw[c];rfl,by rw[c];rfl⟩,rfl⟩
   |1=>
    simp at f a;subst f a;exact⟨⟨Ω,by rw[qa0];exact h7,b',by rw[qa0];exact h5,by rw[qa0];rfl⟩,rfl⟩
   |j+2=>exact C j x u (by simpa using f) (by simpa using a)
 | .rp t::ps,d,Q,r,I,Z,Y,v,A,⟨b,o,O,B,k,p,N,K⟩,m,hx=>by
  obtain⟨D,E,F,C⟩:=zB ps d.2 B r I Z Y v A K m hx;simp only[W3];refine⟨D,E,by rw[k];simp[F],λj x u f a=>?_⟩;rw[k]at a;cases j with
  |zero=>
   simp at f a;subst f a;exact⟨⟨b,o,O,by rw[gJ],p,N⟩,rfl⟩
  |succ j=>exact C j x u (by simpa using f) (by simpa using a)
 | .mut e::ps,d,Q,r,I,Z,Y,v,A,⟨T,B,l,U,k,p,N,K,h5⟩,m,hx=>by
  subst p;have L:(T::l).length=1+l.length:=by rw[Xv];omega
  obtain⟨c,H⟩:S Y=T.nu/\V Y=T.fp:=by have:=m 0 _ rfl;simpa using this
  obtain⟨D,E,F,C⟩:=zB ps d.2 B l U ((Y,.arr e d.1)::Z) (Y+1) v A h5 (m.right (d:=[T]) rfl) Ω;simp only[W3];refine⟨by rw[D,L];omega,λi q R=>?_,by rw[k];simp[F],λj x u f a=>?_⟩
  .rcases E i q R with⟨J,M,y⟩|g
   .exact .inl ⟨Ω,Ω,y⟩
   .rw[WZ]at g;split at g
    .rename_i e;subst e;injection g with g;subst g;refine .inl ⟨Xj _,Ω,?_⟩;show az w (WL G w _) _ (S Y) d.1 (V Y);rw[c,H];exact K
    .exact .inr g
  .rw[k]at a;cases j with
   |zero=>
    simp at f a;subst f a;exact⟨⟨Ω,by rw[c]⟩,He _⟩
   |succ j=>exact C j x u (by simpa using f) (by simpa using a)
 | .clos g n::ps,d,Q,r,I,Z,Y,v,A,⟨qa2,B,k,p,N,K⟩,m,hx=>by
  simp only[lC,Xl]at A;obtain⟨D,E,F,C⟩:=zB ps d (qa2++B) r I Z Y v A.2 K m hx;obtain⟨ids,J,M⟩:=V0 ps d Z Y n A.1;simp only[W3];rw[M,XB];have L:(W3 ps d Z Y).1.length=n+B.length:=by rw[F,bX,p]
  have kD:∀(j i:Nat),ids[j]?=some i->(W3 ps d Z Y).1[j]?=some (AVal.s (.one (.ptr i 0))):=λj i f=>by
   have s:j<n:=by rw[<-J];exact(iW.1 f).1
   have:((W3 ps d Z Y).1.take n)[j]?=some (.s (.one (.ptr i 0))):=by rw[M];simp[iM,f]
   rw[List.getElem?_take,Wb s]at this;exact this
  refine⟨D,E,by rw[k];simp[L],λj x u f a=>?_⟩;rw[k]at a;cases j with
  |zero=>
   simp at f a;subst f a;refine⟨⟨qa2,rfl,by rw[p,J],λj i u f a=>?_⟩,rfl⟩;have s:j<qa2.length:=(iW.1 a).1;obtain⟨⟨q1,q2⟩,q3⟩:=C j _ u (kD j i f) (by rw[List.getElem?_append_left s];exact a);exact⟨q1,q3,q2⟩
  |succ j=>
   have br:(W3 ps d Z Y).1[n+j]?=some x:=by
    rw[<-List.getElem?_drop];simpa using f
   exact C (n+j) x u br (by rw[HL Ω,p,AJ];simpa using a)
def zM:∀(ps) (d) (c) (i) (f),mc G w ps d c i f->c.length<=kJ ps
 | [],d,c,i,f,⟨a,_,_⟩=>by rw[a];exact Xj _
 | .v t agg::ps,d,c,i,f,⟨v,j,s,m,a,k,l,C⟩=>by rw[a,Xv];have:=zM ps _ _ _ _ C;simp only[kJ];omega
 | .box t::ps,d,c,i,f,⟨b,o,j,s,m,p,a,k,l,C,r⟩=>by rw[a,Xv];have:=zM ps _ _ _ _ r;simp only[kJ];omega
 | .mut e::ps,d,c,i,f,⟨y,j,m,p,a,k,l,C,q⟩=>by rw[a,Xv];have:=zM ps _ _ _ _ q;simp only[kJ];omega
 | .clos g n::ps,d,c,i,f,⟨u,j,a,k,l,C⟩=>by rw[a,Xv];have:=zM ps _ _ _ _ C;simp at this;simp only[kJ];omega
 | .rp t::ps,d,c,i,f,⟨b,o,B,j,a,k,l,C⟩=>by rw[a,Xv];have:=zM ps _ _ _ _ C;simp only[kJ];omega
 | .vj _::_,_,_,_,_,h=>h.elim
 | .boxal t lf::ps,d,c,i,f,⟨b,o,z,y,j,s,m,p,a,k,l,C,q,r,A,x⟩=>by rw[a,Xv,Xv];have:=zM ps _ _ _ _ x;simp only[kJ];omega
def DU(i:Nat)(a:List Value):List (Nat×Value):=match a with
 |v::_=>[(i,v)]
 | []=>[]
def WW:List PTy->Nat->Nat->List Value->List (Nat×Value)
 | [],_,_,_=>[]
 |_::ps,i,k+1,a=>WW ps i k a
 | .v _ _::ps,i,0,a=>WW ps (i+1) 0 a.tail
 | .box _::ps,i,0,a=>DU i a++WW ps (i+1) 0 a.tail
 | .mut _::ps,i,0,a=>DU i a++WW ps (i+1) 0 a.tail
 | .clos _ n::ps,i,0,a=>DU i a++WW ps (i+1) n a.tail
 | .rp _::ps,i,0,a=>WW ps (i+1) 0 a.tail
 | .vj _::ps,i,0,a=>WW ps (i+1) 0 a.tail
 | .boxal _ _::ps,i,0,a=>DU i a++WW ps (i+2) 0 a.tail.tail
def wU{i}{a}{p}(h:p∈DU i a):p.1=i/\a[0]?=some p.2:=by
 unfold DU at h;split at h
 .simp at h;subst h;exact⟨rfl,rfl⟩
 .cases h
def lV:∀(ps) (i k) (a),∀p∈WW ps i k a,p.1∈qq ps i k
 | [],_,_,_,p,h=>by simp[WW]at h
 | .v _ _::ps,i,k+1,a,p,h=>lV ps i k a p h
 | .box _::ps,i,k+1,a,p,h=>lV ps i k a p h
 | .mut _::ps,i,k+1,a,p,h=>lV ps i k a p h
 | .clos _ _::ps,i,k+1,a,p,h=>lV ps i k a p h
 | .v _ _::ps,i,0,a,p,h=>lV ps (i+1) 0 a.tail p h
 | .box _::ps,i,0,a,p,h=>by
  simp only[WW]at h;rcases Xo.1 h with h|h
  .rw[(wU h).1];exact Xg ..
  .exact Xe _ (lV ps (i+1) 0 a.tail p h)
 | .mut _::ps,i,0,a,p,h=>by
  simp only[WW]at h;rcases Xo.1 h with h|h
  .rw[(wU h).1];exact Xg ..
  .exact Xe _ (lV ps (i+1) 0 a.tail p h)
 | .clos _ n::ps,i,0,a,p,h=>by
  simp only[WW]at h;rcases Xo.1 h with h|h
  .rw[(wU h).1];exact Xg ..
  .exact Xe _ (lV ps (i+1) n a.tail p h)
 | .rp _::ps,i,k+1,a,p,h=>lV ps i k a p h
 | .rp _::ps,i,0,a,p,h=>lV ps (i+1) 0 a.tail p h
 | .vj _::ps,i,k+1,a,p,h=>lV ps i k a p h
 | .vj _::ps,i,0,a,p,h=>lV ps (i+1) 0 a.tail p h
 | .boxal _ _::ps,i,k+1,a,p,h=>lV ps i k a p h
 | .boxal _ _::ps,i,0,a,p,h=>by
  simp only[WW]at h;rcases Xo.1 h with h|h
  .rw[(wU h).1];exact Xg ..
  .exact Xe _ (lV ps (i+2) 0 a.tail.tail p h)
def W5:∀(ps) (i k) (c),∀p∈WW ps i k c,i<=p.1/\c[p.1-i]?=some p.2
 | [],_,_,_,p,h=>by simp[WW]at h
 | .v _ _::ps,i,k+1,c,p,h=>W5 ps i k c p h
 | .box _::ps,i,k+1,c,p,h=>W5 ps i k c p h
 | .mut _::ps,i,k+1,c,p,h=>W5 ps i k c p h
 | .clos _ _::ps,i,k+1,c,p,h=>W5 ps i k c p h
 | .v _ _::ps,i,0,c,p,h=>by
  obtain⟨b,a⟩:=W5 ps (i+1) 0 c.tail p h;refine⟨Ω,?_⟩;rw[show p.1-i=(p.1-(i+1))+1 by omega,<-yi];exact a
 | .box _::ps,i,0,c,p,h=>by
  simp only[WW]at h;rcases Xo.1 h with h|h
  .obtain⟨b,a⟩:=wU h;rw[b];exact⟨Xj _,by rw[AL];exact a⟩
  .obtain⟨b,a⟩:=W5 ps (i+1) 0 c.tail p h;refine⟨Ω,?_⟩;rw[show p.1-i=(p.1-(i+1))+1 by omega,<-yi];exact a
 | .mut _::ps,i,0,c,p,h=>by
  simp only[WW]at h;rcases Xo.1 h with h|h
  .obtain⟨b,a⟩:=wU h;rw[b];exact⟨Xj _,by rw[AL];exact a⟩
  .obtain⟨b,a⟩:=W5 ps (i+1) 0 c.tail p h;refine⟨Ω,?_⟩;rw[show p.1-i=(p.1-(i+1))+1 by omega,<-yi];exact a
 | .clos _ n::ps,i,0,c,p,h=>by
  simp only[WW]at h;rcases Xo.1 h with h|h
  .obtain⟨b,a⟩:=wU h;rw[b];exact⟨Xj _,by rw[AL];exact a⟩
  .obtain⟨b,a⟩:=W5 ps (i+1) n c.tail p h;refine⟨Ω,?_⟩;rw[show p.1-i=(p.1-(i+1))+1 by omega,<-yi];exact a
 | .rp _::ps,i,k+1,c,p,h=>W5 ps i k c p h
 | .rp _::ps,i,0,c,p,h=>by
  obtain⟨b,a⟩:=W5 ps (i+1) 0 c.tail p h;refine⟨Ω,?_⟩;rw[show p.1-i=(p.1-(i+1))+1 by omega,<-yi];exact a
 | .vj _::ps,i,k+1,c,p,h=>W5 ps i k c p h
 | .vj _::ps,i,0,c,p,h=>by
  obtain⟨b,a⟩:=W5 ps (i+1) 0 c.tail p h;refine⟨Ω,?_⟩;rw[show p.1-i=(p.1-(i+1))+1 by omega,<-yi];exact a
 | .boxal _ _::ps,i,k+1,c,p,h=>W5 ps i k c p h
 | .boxal _ _::ps,i,0,c,p,h=>by
  simp only[WW]at h;rcases Xo.1 h with h|h
  .obtain⟨b,a⟩:=wU h;rw[b];exact⟨Xj _,by rw[AL];exact a⟩
  .obtain⟨b,a⟩:=W5 ps (i+2) 0 c.tail.tail p h;refine⟨Ω,?_⟩;rw[show p.1-i=(p.1-(i+2))+1+1 by omega,<-yi,<-yi];exact a
def Hq(a:Array Value):ResultVar->Sem Value
 | .tmp t=>pure (a.getD t undef)
 | .cell b t=>do loadVar t (<-asAddr (a.getD b undef))
def QD(m:bv P T)(f:Rel w0 F e g G S b a w):∀(l) (c),qr T b l=some c->
  ∃D:List Value,(l.mapM (Hq a.tmps)).run P w= .ok D w/\D.length=c.length/\
   ∀(j:Nat) (x) (v),c[j]?=some x->D[j]?=some v->AValRel G S b.nx x v
 | [],c,h=>by
  simp only[qr]at h;injection h with h;subst h;exact⟨[],Δ,rfl,λj x v d=>by simp at d⟩
 | .tmp t::l,c,h=>by
  simp only[qr]at h;split at h
  .rename_i x wF h1 h2;injection h with h;subst h;obtain⟨D,E,i,k⟩:=QD m f l wF h2;obtain⟨v,o,r⟩:=f.env t x h1;refine⟨v::D,?_,by simp[i],λj y u d C=>?_⟩
   .have bG:a.tmps.getD t undef=v:=by simp[D5,o]
    simp only[H5,Sem.run_bind,Hq,Sem.run_pure,Result.andThen_ok,E,bG]
   .cases j with
    |zero=>simp at d C;subst d C;exact r
    |succ j=>exact k j y u (by simpa using d) (by simpa using C)
  .cases h
 | .cell B t::l,c,h=>by
  simp only[qr]at h;split at h
  .rename_i x wF h1 h2;injection h with h;subst h;obtain⟨D,E,i,k⟩:=QD m f l wF h2;cases hb:look b.env B with
   |none=>simp[hb]at h1
   |some y=>
    simp only[hb,Xd]at h1;obtain⟨v,o,r⟩:=f.env B y hb;obtain⟨u,C,A⟩:=UU m f.h r h1;refine⟨u::D,?_,by simp[i],λj z q d n=>?_⟩
    .have bG:a.tmps.getD B undef=v:=by simp[D5,o]
     unfold Instr.loadAt at C;rw[Sem.run_bind]at C;obtain⟨p,rfl⟩:∃p,v= .pointer (some p):=by
      unfold Instr.sureAddr at C;split at C
      .exact⟨_,rfl⟩
      .simp[stuck]at C
     simp only[Instr.sureAddr,Sem.run_pure,Result.andThen_ok]at C;have s:(asAddr (.pointer (some p))).run P w= .ok p w:=rfl;simp only[H5,Sem.run_bind,Hq,Sem.run_pure,Result.andThen_ok,bG,s,C,E]
    .cases j with
     |zero=>simp at d n;subst d n;exact A
     |succ j=>exact k j z q (by simpa using d) (by simpa using n)
  .cases h
def JF(h:HR w0 F G S V Z Y w)(H:GLe G G'):∀(rs) (U) (W) (A),W.length=U.length->
  (∀(j:Nat) (x) (v),U[j]?=some x->W[j]?=some v->AValRel G S Y x v)->Lent G' w V Z A.lent->A.moved.Nodup->kI rs U Z=some A->
  ∃qa6,uU G' w rs A.d W qa6/\Sep (fps qa6)/\(∀q∈qa6,CS.le q.fp (FromL V Z A.moved))/\(∀i∈A.moved,Live Z i)
 | [],U,W,A,g,z,s,C,c=>by
  simp only[kI]at c;split at c
  .injection c with c;subst c;have jD:W= []:=eY (by simpa using g);exact⟨[],⟨jD,rfl⟩,List.Pairwise.nil,Δ,Δ⟩
  .cases c
 | .v t agg::rs,U,W,A,g,z,s,C,c=>by
  simp only[kI]at c;split at c
  .rename_i x U;split at c
   .rename_i d m l A' h1 h2;injection c with c;subst c
    match W,g with
    |v::W,g=>
     cases hc:cellsOf agg x with
     |none=>simp[hc]at h1
     |some X=>
      simp[hc]at h1;obtain⟨O,P,Q⟩:=gI.1 C;obtain⟨n1,E,I,p,J,_⟩:=WvH h H (z 0 x v rfl rfl) (s.mono (λi a=>Xn _ a)) O hc h1;obtain⟨B,K,L,r,M⟩:=JF h H rs U W A' (by simpa using g) (λj y u k N=>z (j+1) y u (by simpa using k) (by simpa using N)) (s.mono (λi a=>Xk _ a)) P h2;refine⟨n1++B,⟨v,W,n1,B,rfl,rfl,E,K⟩,uC h I L p r (λi a k=>Q i a i k rfl),λq e=>?_,λi a=>?_⟩
      .rcases Xo.1 e with e|e
       .exactλb o f=>FromL.mono (λi a=>Xn _ a) b o (p q e b o f)
       .exactλb o f=>FromL.mono (λi a=>Xk _ a) b o (r q e b o f)
      .rcases Xo.1 a with a|a
       .exact J i a
       .exact M i a
   .cases c
  .cases c
 | .box t::rs,U,W,A,g,z,s,C,c=>by
  simp only[kI]at c;split at c
  .rename_i id U;split at c
   .rename_i X qa5;split at c
    .rename_i d m l A' h1 h2;injection c with c;subst c
     match W,g with
     |v::W,g=>
      obtain⟨k0,O⟩:=dH.1 C;obtain⟨P,Q,k4⟩:=gI.1 O;obtain⟨⟨_,b,qa2,rfl⟩,_⟩:=z 0 _ v rfl rfl;have qa1:Live Z id:=⟨_,qa5,Δ⟩;obtain⟨b'',n,R,ae,qa0,D,T⟩:gy G S Y w id (V id) (.box X):=h.ob _ _ qa5;rw[qa2]at R;injection R with R;subst R;obtain⟨n1,E,I,p,J,_⟩:=lS h H t X n d m l D (s.mono (λi a=>Xn _ a)) P h1;have qa3:X.length=t.size:=by rw[<-D.1];exact WV _ _ _ _ E
      obtain⟨B,K,L,r,M⟩:=JF h H rs U W A' (by simpa using g) (λj y u k N=>z (j+1) y u (by simpa using k) (by simpa using N)) (s.mono (λi a=>Xk _ a)) Q h2;rw[qa3]at ae T;refine⟨⟨fA b ((S id).off+0),rng b ((S id).off+0) t.size⟩::(n1++B),⟨b,(S id).off+0,W,n1,B,rfl,rfl,⟨n,ae,qa0,E⟩,K⟩,?_,λq e=>?_,λi a=>?_⟩
      .refine uC h (h:=[⟨fA b ((S id).off+0),rng b ((S id).off+0) t.size⟩]) (m:=[id]) (l:=m++A'.moved) (ye _ _) (uC h I L p r (λi a k=>k4 i a i k rfl)) (λq e=>?_) (λq e=>?_) (λi a k=>k0 (by rw[<-dq.1 a];exact k))
       .rw[dq.1 e];exactλb o f=>⟨id,Δ,qa1,T b o f⟩
       .rcases Xo.1 e with e|e
        .exactλb o f=>FromL.mono (λi a=>Xn _ a) b o (p q e b o f)
        .exactλb o f=>FromL.mono (λi a=>Xk _ a) b o (r q e b o f)
      .rcases Xr.1 e with rfl|e
       .exactλb o f=>⟨id,Δ,qa1,T b o f⟩
       .rcases Xo.1 e with e|e
        .exactλb o f=>FromL.mono (λi a=>Xe _ (Xn _ a)) b o (p q e b o f)
        .exactλb o f=>FromL.mono (λi a=>Xe _ (Xk _ a)) b o (r q e b o f)
      .rcases Xr.1 a with rfl|a
       .exact qa1
       .rcases Xo.1 a with a|a
        .exact J i a
        .exact M i a
    .cases c
   .cases c
  .cases c
 | .mut _::_,_,_,_,_,_,_,_,h=>by simp only[kI]at h;cases h
 | .clos _ _::_,_,_,_,_,_,_,_,h=>by simp only[kI]at h;cases h
 | .rp _::_,_,_,_,_,_,_,_,h=>by simp only[kI]at h;cases h
 | .vj t::rs,U,W,A,g,z,s,C,c=>by
  simp only[kI]at c;split at c
  .rename_i X U;split at c
   .rename_i bQ;split at c
    .rename_i d m l A' h1 h2;injection c with c;subst c
     match W,g with
     |v::W,g=>
      obtain⟨O,P,Q⟩:=gI.1 C;obtain⟨n,rfl,D⟩:=z 0 _ v rfl rfl;obtain⟨n1,E,I,p,J,_⟩:=lS h H t (X.take t.size) (n.take t.size) d m l (D.take t.size) (s.mono (λi a=>Xn _ a)) O h1;obtain⟨B,K,L,r,M⟩:=JF h H rs U W A' (by simpa using g) (λj y u k N=>z (j+1) y u (by simpa using k) (by simpa using N)) (s.mono (λi a=>Xk _ a)) P h2;have qa3:n.length=t.size+1:=by rw[D.1,bQ]
      have qa4:t.size<n.length:=Ω
      have e0:n=n.take t.size++ [n[t.size]]:=by
       rw[<-List.take_succ_eq_append_getElem qa4,nm Ω]
      have ho:=(D.2 t.size (X[t.size]'Ω) n[t.size] (Xq Ω) (Xq qa4)).2;refine⟨n1++B,⟨n.take t.size,n[t.size],W,n1,B,by rw[<-e0],ho,rfl,E,K⟩,uC h I L p r (λi a k=>Q i a i k rfl),λq e=>?_,λi a=>?_⟩
      .rcases Xo.1 e with e|e
       .exactλb o f=>FromL.mono (λi a=>Xn _ a) b o (p q e b o f)
       .exactλb o f=>FromL.mono (λi a=>Xk _ a) b o (r q e b o f)
      .rcases Xo.1 a with a|a
       .exact J i a
       .exact M i a
    .cases c
   .cases c
  .cases c
 | .boxal _ _::_,_,_,_,_,_,_,_,h=>by simp only[kI]at h;cases h
def Wq3{p}{ps}{k}(h:DM (p::ps) (k+1)=true):(∃t,p= .box t)/\DM ps k=true:=by
 cases p with
 |box t=>exact⟨⟨t,rfl⟩,h⟩
 |_=>cases h
def KU(d:Rel w0 F e g G S b a w){i}{u}(c:a.tmps[i]?=some u):(look b.env i).getD (.tup [])= .tup []\/AValRel G S b.nx ((look b.env i).getD (.tup [])) u:=by
 cases he:look b.env i with
 |none=>exact .inl rfl
 |some y=>
  obtain⟨v,f,h⟩:=d.env i y he;rw[c]at f;injection f with f;subst f;exact .inr h
def wJ{wb}{Gb}(y:Rel w0 F e g G S b a w):∀(ps) (d) (Z) (z) (s) (i k),mc Gb wb ps d Z z s->lC ps=true->DM ps k=true->k<=Z.length->
  (∀p∈WW ps i k (Z.drop k),a.tmps[p.1]?=some p.2)->(WQ ps i k b).length+k=Z.length/\
  ∀(j) (x) (v),(WQ ps i k b)[j]?=some x->Z[k+j]?=some v->x= .tup []\/AValRel G S b.nx x v
 | [],d,Z,z,s,i,k,⟨l,_,_⟩,_,_,L,_=>by
  subst l;have:k=0:=by simpa using L
  subst this;exact⟨rfl,λj x v c=>by simp[WQ]at c⟩
 |p::ps,d,Z,z,s,i,k+1,h,m,R,L,hp=>by
  obtain⟨⟨t,rfl⟩,P⟩:=Wq3 R;obtain⟨X,o,q,M,C,E,l,A,I,B,J⟩:=h;subst l;have Y:lC ps=true:=m;obtain⟨H,r⟩:=wJ y ps d.2 q C E i k J Y P (by simpa using L) (by simpa [WW]using hp);refine⟨by simp only[WQ,Xv];omega,λj x v c O=>r j x v (by simpa [WQ]using c) ?_⟩;rw[show k+1+j=(k+j)+1 by omega]at O;simpa using O
 | .v t agg::ps,d,Z,z,s,i,0,⟨v,q,M,C,l,A,I,B⟩,m,_,_,hp=>by
  subst l;obtain⟨H,r⟩:=wJ y ps d.2 q C s (i+1) 0 B m (by cases ps<;>rfl) (jI _) (by simpa [WW]using hp);refine⟨by simp only[WQ,Xv];omega,λj x u c f=>?_⟩;cases j with
  |zero=>simp[WQ]at c;exact .inl c.symm
  |succ j=>exact r j x u (by simpa [WQ]using c) (by simpa using f)
 | .rp t::ps,d,Z,z,s,i,0,⟨X,o,W,q,l,A,I,B⟩,m,_,_,hp=>by
  subst l;obtain⟨H,r⟩:=wJ y ps d.2 q z s (i+1) 0 B m (by cases ps<;>rfl) (jI _) (by simpa [WW]using hp);refine⟨by simp only[WQ,Xv];omega,λj x u c f=>?_⟩;cases j with
  |zero=>simp[WQ]at c;exact .inl c.symm
  |succ j=>exact r j x u (by simpa [WQ]using c) (by simpa using f)
 | .box t::ps,d,Z,z,s,i,0,⟨X,o,q,M,C,E,l,A,I,B,J⟩,m,_,_,hp=>by
  subst l;simp only[WW,HQ,L6]at hp;obtain⟨H,r⟩:=wJ y ps d.2 q C E (i+1) 0 J m (by cases ps<;>rfl) (jI _) (λp D=>hp p (Xk _ (by simpa using D)));refine⟨by simp only[WQ,Xv];omega,λj x u c f=>?_⟩;cases j with
  |zero=>
   simp[WQ]at c f;subst c f;exact KU y (hp (i,_) (Xn _ (Xg ..)))
  |succ j=>exact r j x u (by simpa [WQ]using c) (by simpa using f)
 | .vj _::_,_,_,_,_,_,_,h,_,_,_,_=>h.elim
 | .boxal t lf::ps,d,Z,z,s,i,0,⟨X,o,U,T,q,M,C,E,l,A,I,B,N,J,V,Q⟩,m,_,_,hp=>by
  subst l;simp only[WW,HQ,L6]at hp;obtain⟨H,r⟩:=wJ y ps d.2.2 q C E (i+2) 0 Q m (by cases ps<;>rfl) (jI _) (λp D=>hp p (Xk _ (by simpa using D)));refine⟨by simp only[WQ,Xv];omega,λj x u c f=>?_⟩
  match j with
  |0=>
   simp[WQ]at c f;subst c f;exact KU y (hp (i,_) (Xn _ (Xg ..)))
  |1=>simp[WQ]at c;exact .inl c.symm
  |j+2=>exact r j x u (by simpa [WQ]using c) (by simpa using f)
 | .mut qa0::ps,d,Z,z,s,i,0,⟨T,q,C,E,l,A,I,B,N⟩,m,_,_,hp=>by
  subst l;simp only[WW,HQ,L6]at hp;obtain⟨H,r⟩:=wJ y ps d.2 q C E (i+1) 0 N m (by cases ps<;>rfl) (jI _) (λp D=>hp p (Xk _ (by simpa using D)));refine⟨by simp only[WQ,Xv];omega,λj x u c f=>?_⟩;cases j with
  |zero=>
   simp[WQ]at c f;subst c f;exact KU y (hp (i,_) (Xn _ (Xg ..)))
  |succ j=>exact r j x u (by simpa [WQ]using c) (by simpa using f)
 | .clos qa1 n::ps,d,Z,z,s,i,0,⟨K,q,l,A,I,B⟩,m,_,_,hp=>by
  subst l;simp only[lC,Xl]at m;simp only[WW,HQ,L6]at hp;obtain⟨H,r⟩:=wJ y ps d (K++q) z s (i+1) n B m.2 m.1 (by simp[A]) (λp D=>hp p (Xk _ (by rw[List.drop_left' A]at D;exact D)));refine⟨by simp only[WQ,Xv];simp at H;omega,λj x u c f=>?_⟩;cases j with
  |zero=>
   simp[WQ]at c f;subst c f;exact KU y (hp (i,_) (Xn _ (Xg ..)))
  |succ j=>exact r j x u (by simpa [WQ]using c) (by rw[HL Ω,A,AJ];simpa using f)
def WyX{G G'}{h w}{c nu'}{e}{z ys}{S B}(d:az h (WL G h e) e.size c z S)(f:az w (WL G' w e) e.size nu' ys B)(y:c.hdr=nu'.hdr):az w (WL G' w e) e.size c ys B:=by
 unfold Nu.hdr at y;cases hb:nu'.blk with
 |none=>
  cases dc:c.blk with
  |some b=>simp[hb,dc]at y
  |none=>
   have m:=zz d dc;have i:=zz f hb;refine⟨by rw[i,<-d.1,m],d.2.1,?_⟩;simp only[dc];exact i
 |some b=>
  cases dc:c.blk with
  |none=>simp[hb,dc]at y
  |some b'=>
   simp only[hb,dc]at y;injection y with a j k;injection a with a;injection a with a l _;have g:=d.2.1;have A:=f.2.1;have:c=nu':=by
    obtain⟨n,o,p,q,r⟩:=c;obtain⟨s,t,u,v,x⟩:=nu';simp only at hb dc a j k l g A;subst hb dc a j k l;rw[g,A]
   rw[this];exact f
structure OOk(G':GH)(V:Nat->CS)(Z:ai)(w:World)(ps:List PTy)(B:OutK (hQ ps))(ks:List Nu)(kf:List CS)(ms:List Pc):Prop where
 outs:m6 G' w ps B.d ks kf ms
 sepk:Sep kf
 sepm:Sep (fps ms)
 kf:∀S∈kf,CS.le S (FromL V Z B.kept)
 ms:∀q∈ms,CS.le q.fp (FromL V Z B.moved)
def OK(h:HR w0 F G S V Z Y w){g k2}{m l}(c:Sep g)(d:Sep k2)(a:∀f∈g,CS.le f (FromL V Z m))(b:∀f∈k2,CS.le f (FromL V Z l))(e:∀i∈m,i∉l):Sep (g++k2):=
 Rl c d (A:=FromL V Z m) (B:=FromL V Z l) a b (FromL.disj h e)
def UQ{R:World}{Gb:GH}(J:GLe G G')(h:HR w0 F G S V Z Y w){t}{ps}{id b o}{c}{dd}{m l}{A}{ks}{kf}{D}
  (N:CellRel G S Y (.ptr id 0) (.pointer (some ⟨b,o,none⟩))) (v:look Z id=some (.box c)) (I:d9 t c Z=some (dd,m,l)) (L:Lent G' w V Z l) (K:(id::A.kept).Nodup) (M:(m++A.moved).Nodup) (e:OOk G' V Z w ps A ks kf D):
  ∃j,rT G' w t dd b o j/\Sep (rng b o t.size::kf)/\Sep (fps (j++D))/\(∀X∈rng b o t.size::kf,CS.le X (FromL V Z (id::A.kept)))/\(∀q∈j++D,CS.le q.fp (FromL V Z (m++A.moved))):=by
 obtain⟨_,qa1,z,d⟩:=N;injection d with d;injection d with d;injection d with d Q _;subst d Q;have C:Live Z id:=⟨_,v,Δ⟩;obtain⟨qa0,y,k,ae,B,p,u⟩:gy G S Y w id (V id) (.box c):=h.ob _ _ v;rw[z]at k;injection k with k;subst k;obtain⟨k1,T⟩:=dH.1 K;obtain⟨O,U,P⟩:=gI.1 M;obtain⟨j,r,E,s,_⟩:=lS h J t c y dd m l p L O I;have H:c.length=t.size:=by rw[<-p.1];exact WV _ _ _ _ r
 rw[H]at ae u;have x:CS.le (rng b ((S id).off+0) t.size) (FromL V Z [id]):=λb o W=>⟨id,Δ,C,u b o W⟩;refine⟨j,⟨y,ae,B,r⟩,?_,uC h E e.sepm s e.ms (λi a n=>P i a i n rfl),λX f=>?_,λq g=>?_⟩
 .exact OK h (g:=[rng b ((S id).off+0) t.size]) (m:=[id]) (ye _ _) e.sepk (λX f=>by rw[dq.1 f];exact x) e.kf (λi a n=>k1 (by rw[<-dq.1 a];exact n))
 .rcases Xr.1 f with rfl|f
  .exactλb o W=>FromL.mono (λi a=>by rw[dq.1 a];exact Xg ..) b o (x b o W)
  .exactλb o W=>FromL.mono (λi a=>Xe _ a) b o (e.kf X f b o W)
 .rcases Xo.1 g with g|g
  .exactλb o W=>FromL.mono (λi a=>Xn _ a) b o (s q g b o W)
  .exactλb o W=>FromL.mono (λi a=>Xk _ a) b o (e.ms q g b o W)
def zq{wb}{Gb}(L:GLe G G')(h:HR w0 F G S V Z Y w):∀(ps) (d) (i) (J) (E) (g) (B),mc Gb wb ps d i J E->g.length=i.length->
  (∀(j:Nat) (x) (v),g[j]?=some x->i[j]?=some v->x= .tup []\/AValRel G S Y x v)->Lent G' w V Z B.lent->B.kept.Nodup->B.moved.Nodup->hG ps g Z=some B->
  ∃z s,OOk G' V Z w ps B E z s
 | [],d,i,J,E,g,B,⟨_,_,q⟩,_,_,_,_,_,a=>by
  simp only[hG]at a;injection a with a;subst a;exact⟨[],[],⟨q,rfl,rfl⟩,List.Pairwise.nil,List.Pairwise.nil,Δ,Δ⟩
 | .v t agg::ps,d,i,J,E,g,B,⟨v,H,n1,O,I,Q,N,K⟩,p,r,C,q,D,a=>by
  subst I;simp only[hG]at a;cases hA:hG ps g.tail Z with
  |none=>simp[hA]at a
  |some A=>
   simp[hA]at a;subst a
   match g,p with
   |x::g,p=>
    obtain⟨z,s,c⟩:=zq L h ps d.2 H O E g A K (by simpa using p) (λj y u f k=>r (j+1) y u (by simpa using f) (by simpa using k)) C q D hA;exact⟨z,s,c.outs,c.sepk,c.sepm,c.kf,c.ms⟩
 | .rp t::ps,d,i,J,E,g,B,⟨b,o,us,H,I,Q,N,K⟩,p,r,C,q,D,a=>by
  subst I;simp only[hG]at a;cases hA:hG ps g.tail Z with
  |none=>simp[hA]at a
  |some A=>
   simp[hA]at a;subst a
   match g,p with
   |x::g,p=>
    obtain⟨z,s,c⟩:=zq L h ps d.2 H J E g A K (by simpa using p) (λj y u f k=>r (j+1) y u (by simpa using f) (by simpa using k)) C q D hA;exact⟨z,s,c.outs,c.sepk,c.sepm,c.kf,c.ms⟩
 | .box t::ps,d,i,J,E,g,B,⟨b,o,H,n1,O,M,I,Q,N,K,h6⟩,p,r,C,q,D,a=>by
  subst I;simp only[hG]at a;split at a
  .rename_i id g;split at a
   .rename_i cs P;split at a
    .rename_i dd m l A g1 g2;injection a with a;subst a;have T:=((r 0 _ _ rfl rfl).resolve_left (λe=>by cases e)).1;obtain⟨z,s,c⟩:=zq L h ps d.2 H O M g A h6 (by simpa using p) (λj y u f k=>r (j+1) y u (by simpa using f) (by simpa using k)) (C.mono λj f=>Xk _ f) (dH.1 q).2 (gI.1 D).2.1 g2;obtain⟨U,qa5,W,X,qa3,qa0⟩:=UQ (R:=wb) (Gb:=Gb) L h T P g1 (C.mono λj f=>Xn _ f) q D c;exact⟨_,U++s,⟨b,o,M,z,U,s,N,rfl,rfl,qa5,c.outs⟩,W,X,qa3,qa0⟩
    .cases a
   .cases a
  .cases a
 | .vj _::_,_,_,_,_,_,_,h,_,_,_,_,_,_=>h.elim
 | .boxal t lf::ps,d,i,J,E,g,B,⟨b,o,b',pc,H,n1,O,M,I,Q,N,K,h5,h6,h7,h8⟩,p,r,C,q,D,a=>by
  subst I;simp only[hG]at a;split at a
  .rename_i id y g;split at a
   .rename_i cs P;split at a
    .rename_i dd m l A g1 g2;injection a with a;subst a;have T:=((r 0 _ _ rfl rfl).resolve_left (λe=>by cases e)).1;obtain⟨z,s,c⟩:=zq L h ps d.2.2 H O M g A h8 (by simpa using p) (λj y u f k=>r (j+2) y u (by simpa using f) (by simpa using k)) (C.mono λj f=>Xk _ f) (dH.1 q).2 (gI.1 D).2.1 g2;obtain⟨U,qa5,W,X,qa3,qa0⟩:=UQ (R:=wb) (Gb:=Gb) L h T P g1 (C.mono λj f=>Xn _ f) q D c;exact⟨_,U++s,⟨b,o,M,z,U,s,N,rfl,rfl,qa5,c.outs⟩,W,X,qa3,qa0⟩
    .cases a
   .cases a
  .cases a
 | .mut e::ps,d,i,J,E,g,B,⟨pc,H,O,M,I,Q,N,K,h5⟩,p,r,C,q,D,a=>by
  subst I;simp only[hG]at a;split at a
  .rename_i id g;split at a
   .rename_i e' ys P;split at a
    .rename_i dd A g1 g2;injection a with a;subst a;obtain⟨gg,hd⟩:=pg g1;subst gg;simp only at hd;subst hd;obtain⟨⟨_,T⟩,_⟩:=(r 0 _ _ rfl rfl).resolve_left (λe=>by cases e);have aQ:Live Z id:=⟨_,P,Δ⟩;have aF:az w (WL G w e') e'.size (S id) ys (V id):=h.ob _ _ P;have it:=Db L (Same.refl _ w) (λ_ _ hh=>hh) aF;obtain⟨k1,k2⟩:=dH.1 q;obtain⟨z,s,c⟩:=zq L h ps d.2 H O M g A h5 (by simpa using p) (λj y u f k=>r (j+1) y u (by simpa using f) (by simpa using k)) C k2 D g2;refine⟨V id::z,s,⟨⟨pc.nu,V id⟩,M,z,N,rfl,WyX K it T,c.outs⟩,?_,c.sepm,λqa1 R=>?_,c.ms⟩
     .exact OK h (g:=[V id]) (m:=[id]) (ye _ _) c.sepk (λqa1 R=>by rw[dq.1 R];exact FromL.one Δ aQ) c.kf (λqa4 hi f=>k1 (by rw[<-dq.1 hi];exact f))
     .rcases Xr.1 R with rfl|R
      .exact FromL.one (Xg ..) aQ
      .exactλb o hh=>FromL.mono (λqa4 hi=>Xe _ hi) b o (c.kf qa1 R b o hh)
    .cases a
   .cases a
  .cases a
 | .clos qa2 n::ps,d,i,J,E,g,B,⟨cvs,H,I,Q,N,K⟩,p,r,C,q,D,a=>by
  subst I;simp only[hG]at a;split at a
  .rename_i g' caps g;split at a
   .rename_i hc;obtain⟨rfl,bQ⟩:=hc;cases hA:hG ps (iM caps++g) Z with
    |none=>simp[hA]at a
    |some A=>
     simp[hA]at a;subst a;obtain⟨⟨us,tp,uI,Aw⟩,_⟩:=(r 0 _ _ rfl rfl).resolve_left (λe=>by cases e);have qT:us=cvs:=by
      injection tp with _ _ tp;have:=Wq Array.toList tp;simpa using this.symm
     subst qT;obtain⟨z,s,c⟩:=zq L h ps d (us++H) J E (iM caps++g) A K (by simp[iM,uI];simpa using p) (λj y u f k=>by
      rw[ko]at f k;simp only[iM,List.length_map]at f;rw[uI]at k;split at f
      .rename_i ab;rw[Wb ab]at k;rw[hV]at f;obtain⟨id,cr,rfl⟩:=im.1 f;obtain⟨q1,q3,q2⟩:=Aw _ id u cr k;exact .inr ⟨⟨q1,q2⟩,q3⟩
      .rename_i ab;rw[Wa ab]at k;exact r (j-caps.length+1) y u (by simpa using f) (by simpa using k)) C q D hA
     exact⟨z,s,c.outs,c.sepk,c.sepm,c.kf,c.ms⟩
   .cases a
  .cases a
end
section
variable{P:Program}{T:Tab}{Γ:Ctx}
def WxM{f:Sig}{d}{G}{w}{Y}{ns}{ks}{n}(qa1:kJ f.ps<=n)(W:lC f.ps=true)(C:mc G w f.ps d Y ns ks)(X:Sep (fps ns))
  (D:∀q∈ns,∀b s,q.fp b s->G b s=none/\b<w.heap.size) (U:∀b o v,G b o=some v->w.cell? ⟨b,o,none⟩=some v):
  ∃g,Rel w (Of ns) ⟨n,WW f.ps 0 0 Y⟩ G G g {env:=Dt 0 (W3 f.ps d [] 0).1,objs:=(W3 f.ps d [] 0).2.1,nx:=(W3 f.ps d [] 0).2.2}
   {tmps:=Y.toArray++Ef (n-Y.toArray.size) undef,defers:=[]} w:=by
 obtain⟨g,V⟩:∃g:Nat->Nu,g= λi=>((nus ns)[i]?).getD ⟨none,0,0,0,0⟩:=⟨_,rfl⟩;obtain⟨Z,J⟩:∃Z:Nat->CS,Z= λi=>((fps ns)[i]?).getD (λ_ _=>False):=⟨_,rfl⟩;have y:At g Z 0 ns:=λj K H=>by
  have P:(nus ns)[j]?=some K.nu:=by unfold nus;rw[hV,H];rfl
  have Q:(fps ns)[j]?=some K.fp:=by unfold fps;rw[hV,H];rfl
  rw[V,J];simp only[d4,P,Q];exact⟨rfl,rfl⟩
 obtain⟨u,E,S,T⟩:=zB (S:=g) (V:=Z) f.ps d Y ns ks [] 0 (0+ns.length) W C y (Xj _);have qO:=zM _ _ _ _ _ C;have O:∀a,Live (W3 f.ps d [] 0).2.1 a->a<ns.length:=λa ⟨ob,A,_⟩=>by
  rcases E a ob A with⟨_,h,_⟩|h
  .simpa using h
  .cases h
 have l:∀a b o,Z a b o->∃q,ns[a]?=some q/\(fps ns)[a]?=some q.fp/\q.fp b o:=λa b o c=>by
  rw[J]at c
  try simp only at c
  cases hq:ns[a]? with
  |none=>
   have:(fps ns)[a]?=none:=by unfold fps;rw[hV,hq];rfl
   rw[this]at c;exact c.elim
  |some q=>
   have:(fps ns)[a]?=some q.fp:=by unfold fps;rw[hV,hq];rfl
   rw[this]at c;exact⟨q,rfl,this,c⟩
 have B:∀(i:Nat) (v:Value),Y[i]?=some v->(Y.toArray++Ef (n-Y.toArray.size) undef)[i]?=some v:=λi v F=>by
  have t:=(iW.1 F).1;rw[Array.getElem?_append_left (by simpa using t)];simpa using F
 refine⟨g,rfl,Φ,λp c=>?_,λi x r=>?_,⟨Z,?_⟩,λ_ _ _ z=>z,λ_ _ _ z=>.inl z⟩
 .obtain⟨_,e⟩:=W5 _ _ _ _ p c;exact B _ _ (by simpa using e)
 .simp only at r;rw[Vg]at r;simp only[jI,gp,vu]at r;have t:=(iW.1 r).1;rw[S]at t;have I:=Xq t;refine⟨_,B i _ I,?_⟩;have:=T i x _ r I;simp only[u];exact this
 .exact{
   g:=U
   ob:=λa ob A=>by
    rcases E a ob A with⟨_,_,h⟩|h
    .simp only[u];exact h
    .cases h
   gf:=λa b o m c=>by
    obtain⟨q,k,_,e⟩:=l a b o c;exact(D q (nl k) b o e).1
   inj:=λa N b o m qa0 c R=>by
    obtain⟨q,_,k,e⟩:=l a b o c;obtain⟨q',_,L,M⟩:=l N b o R;exact Lk X k L e M
   own:=λa b o m c=>by
    obtain⟨q,k,_,e⟩:=l a b o c;exact .inr ⟨q,nl k,e⟩
   lt:=λa m=>by simp only[u];have:=O a m;omega
   bl:=λa b o m c=>by
    obtain⟨q,k,_,e⟩:=l a b o c;exact(D q (nl k) b o e).2
   le:=WLe.refl _ w}
def Wuz(W:bv P T){f}{sg}{d}{G}{w}{l}{ns}{ks}{qa3}(iz:lC sg.ps=true)(M:mc G w sg.ps d l ns ks)
  {g} {a} {n} {G1} {ν} (C:Rel w (Of ns) ⟨qa3,WW sg.ps 0 0 l⟩ G G1 ν g a n) {h} (Y:qr T g f.results.toList=some h)
  {A} (U:kI sg.rs h g.objs=some A) {B} (V:hG sg.ps (WQ sg.ps 0 0 g) g.objs=some B)
  (I:iE (B.kept++(B.moved++A.moved))=true) (J:oT (A.lent++B.lent) (B.kept++(B.moved++A.moved))=true):
  ∃x F H E G',(results f a.tmps).run P n= .ok (Az x) n/\After sg (B.d,A.d) G w ns ks x F H E G' n:=by
 have I:=(JK _).1 I;have J:=Yo J;obtain⟨u,k⟩:=C.h;have L:=k.addG_le (A.lent++B.lent);have xJ:=k.addG_w (A.lent++B.lent);have O:Lent (pD G1 n (FromL u g.objs (A.lent++B.lent))) n u g.objs (A.lent++B.lent):=λid Q X=>(PO _).mono (FromL.one Q X);obtain⟨k1,k2,k3⟩:=gI.1 I;obtain⟨k4,k5,k6⟩:=gI.1 k2;obtain⟨x,xK,xL,xM⟩:=QD W C _ h Y;obtain⟨E,q1,q2,K,q4⟩:=JF k L sg.rs h x A xL xM (O.mono λi c=>Xn _ c) k5 U;obtain⟨jp,R⟩:=wJ C sg.ps d l ns ks 0 0 M iz (by cases sg.ps<;>rfl) (jI _) (by simpa using C.par);obtain⟨F,H,s⟩:=zq L k sg.ps d l ns ks _ B M jp (λj qa4 v t D=>R j qa4 v t (by simpa using D)) (O.mono λi c=>Xk _ c) k1 k4 V;have Z:∀S∈F++fps (H++E),CS.le S (FromL u g.objs (B.kept++(B.moved++A.moved))):=λS r=>by
  rcases Xo.1 r with r|r
  .exactλb o m=>FromL.mono (λi c=>Xn _ c) b o (s.kf S r b o m)
  .obtain⟨q,p,rfl⟩:=Xy.1 r;rcases Xo.1 p with p|p
   .exactλb o m=>FromL.mono (λi c=>Xk _ (Xn _ c)) b o (s.ms q p b o m)
   .exactλb o m=>FromL.mono (λi c=>Xk _ (Xk _ c)) b o (K q p b o m)
 refine⟨x,F,H,E,pD G1 n (FromL u g.objs (A.lent++B.lent)),?_,?_⟩
 .show(do let l<-f.results.mapM (Hq a.tmps);pure (if qa0:l.size=1 then l[0]else .tuple l):Sem Value).run P n=_;have kz:(f.results.mapM (Hq a.tmps)).run P n= .ok x.toArray n:=by
   rw[Array.mapM_eq_mapM_toList,Sem.run_map,xK];rfl
  rw[Sem.run_bind,kz];simp only[Result.andThen_ok,Sem.run_pure];congr 1;unfold Az
  match x with
  | []=>rfl
  | [v]=>rfl
  |qa2::v::qa1=>simp
 .exact{
   res:=q1
   outs:=s.outs
   sep:=by
    refine OK k s.sepk (uC k s.sepm q2 s.ms K (λi c t=>k6 i c i t rfl)) s.kf (l:=B.moved++A.moved) (λS r=>?_) (λi c t=>k3 i c i t rfl);obtain⟨q,p,rfl⟩:=Xy.1 r;rcases Xo.1 p with p|p
    .exactλb o m=>FromL.mono (λi c=>Xn _ c) b o (s.ms q p b o m)
    .exactλb o m=>FromL.mono (λi c=>Xk _ c) b o (K q p b o m)
   own:=λS r b e m=>by
    obtain⟨i,c,y,z⟩:=Z S r b e m;refine⟨?_,(k.own i b e y z).symm,k.bl i b e y z⟩;rw[wS (λ⟨j,t,h3,h4⟩=>by
     have:=k.inj i j b e y h3 z h4;subst this;exact J _ t c)]
    exact k.gf i b e y z
   gx:=by
    refine⟨λb o v D=>L b o v (C.gx.le b o v D),λb e v D=>?_⟩;by_cases N:FromL u g.objs (A.lent++B.lent) b e
    .obtain⟨j,t,y,z⟩:=N;exact .inr (k.own j b e y z)
    .rw[wS N]at D;exact C.gx.new b e v D
   g:=xJ
   le:=k.le}
def WAR(X:P.follows .mixedOrders=true)(D:bv P T)(hΓ:ji P Γ){f}{k}{c}(Y:P.funcs[k]?=some f)(E:f.body=some c){sg}(O:oC f.ntmps (qq sg.ps 0 0) c=true)(F:lC sg.ps=true)
  (hn:kJ sg.ps<=f.ntmps) {ann} (qa1:∀d o,sg.run d=some o->∃N,den T Γ ann N sg f d some=some o):zl P k sg:=by
 intro d o Q G w z y I C lR R Z;obtain⟨N,j⟩:=qa1 d o Q;unfold den at j;simp only[E]at j;obtain⟨ν,iX⟩:=WxM hn F C lR R Z;split at j
 case h_2=>cases j
 rename_i c' qa0 st0 x L;injection x with x;subst x;obtain⟨rfl,j⟩:=lB j;obtain⟨M,ν0',hr⟩:=Gs _ _ _ _ _ iX L;refine calls_of_wp Y E ?_
 suffices g:∀e,qM w (Of y) ⟨f.ntmps,WW sg.ps 0 0 z⟩ G (Oy T sg f.results.toList some e) o (bodyPost P f (λe h=>∃l p q m b,e= .returned (Az l)/\After sg o G w y I l p q m b h) e.to)from
  AF (b:=⟨f.ntmps,WW sg.ps 0 0 z⟩) X D hΓ (n:=f.ntmps) rfl (lV sg.ps 0 0 z) c O g _ _ _ _ _ hr j
 intro e n a h G1 ν1 J g;have H:(∃i,qr T n f.results.toList=some i/\∃A B,kI sg.rs i n.objs=some A/\hG sg.ps (WQ sg.ps 0 0 n) n.objs=some B/\iE (B.kept++(B.moved++A.moved))=true/\oT (A.lent++B.lent) (B.kept++(B.moved++A.moved))=true/\(B.d,A.d)=o)->
   a.defers= []/\∃v,(results f a.tmps).run P h= .ok v h/\∃l p q m b,Ending.returned v= .returned (Az l)/\After sg o G w y I l p q m b h:=by
  rintro⟨i,u,A,B,r,s,S,U,rfl⟩;obtain⟨l,p,q,m,b,V,W⟩:=Wuz D (f:=f) F C J u r s S U;exact⟨J.defers,_,V,l,p,q,m,b,rfl,W⟩
 have K:(match qr T n f.results.toList with
   |some i=>match kI sg.rs i n.objs,hG sg.ps (WQ sg.ps 0 0 n) n.objs with
    |some A,some B=>if iE (B.kept++(B.moved++A.moved))&&oT (A.lent++B.lent) (B.kept++(B.moved++A.moved))then some (B.d,A.d)else none
    |_,_=>none
   |none=>none)=some o->(∃i,qr T n f.results.toList=some i/\∃A B,kI sg.rs i n.objs=some A/\hG sg.ps (WQ sg.ps 0 0 n) n.objs=some B/\iE (B.kept++(B.moved++A.moved))=true/\oT (A.lent++B.lent) (B.kept++(B.moved++A.moved))=true/\(B.d,A.d)=o):=λg=>by
  split at g
  .rename_i i u;split at g
   .rename_i A B r s;obtain⟨t,g⟩:=mY g;simp only[Xl]at t;injection g with g;exact⟨i,u,A,B,r,s,t.1,t.2,g⟩
   .cases g
  .cases g
 cases e with
 |normal=>exact H (K g)
 |ret=>exact H (K g)
 |exit id=>cases g
end
def zv1:Value->Value->Bool
 | .int k n,.int k' a=>decide (k=k')&&decide (n=a)
 | .bool b,.bool b'=>b==b'
 | .string s,.string s'=>match s.data.toList,s'.data.toList with
  | [],[]=>true
  |_,_=>false
 | .slice none 0 0,.slice none 0 0=>true
 | .pointer none,.pointer none=>true
 |_,_=>false
def WyZ(x y)(h:zv1 x y=true):x=y:=by
 unfold zv1 at h;split at h
 .simp only[Xl,Wg]at h;obtain⟨rfl,rfl⟩:=h;rfl
 .have:=eq_of_beq h;subst this;rfl
 .rename_i s s';split at h
  .rename_i e1 e2;have:s=s':=by
    cases s with|mk a=>cases s' with|mk b=>
    congr 1;apply Array.ext';simp only at e1 e2;rw[e1,e2]
   rw[this]
  .cases h
 .rfl
 .rfl
 .cases h
def IP:List Value->List Value->Bool
 | [],[]=>true
 |x::l,y::m=>zv1 x y&&IP l m
 |_,_=>false
def Yp:∀(l m),IP l m=true->l=m
 | [],[],_=>rfl
 | [],_::_,h=>by cases h
 |_::_,[],h=>by cases h
 |x::l,y::m,h=>by
  simp only[IP,Xl]at h;rw[WyZ x y h.1,Yp l m h.2]
def JU:List Field->List (Nat×TypeId)->Bool
 | [],[]=>true
 |f::l,p::m=>fG f.offset p.1&&fG f.type p.2&&(f.name != "_")&&JU l m
 |_,_=>false
def Si(P:Program)(T:Tab)(t:TypeId)(b:TE):Bool:=match b.shape with
 | .basic=>!b.agg&&(match b.ty with
  | .int k=>match P.underlying t with|some (.int k')=>decide (k'=k)|_=>false
  | .bool=>match P.underlying t with|some .bool=>true|_=>false
  |_=>false)
 | .slice e=>!b.agg&&(match P.underlying t with|some (.slice e')=>fG e' e|_=>false)&&(match look T e with|some fm=>decide (b.ty= .slice fm.ty)|none=>false)
 | .struct fs=>b.agg&&(match P.underlying t with|some (.struct fields)=>JU fields.toList fs|_=>false)&& !P.stoodInHeld t&& !P.eqGuardType P.depth t
 | .ptr e=>!b.agg&&(match P.underlying t with|some (.pointer e')=>fG e' e|_=>false)
 | .arr n e=>b.agg&&(match P.underlying t with|some (.array a e')=>fG a n&&fG e' e|_=>false)&&(match look T e with|some fm=>decide (fm.ty=b.ty)&&fm.plain|none=>false)
def Rf(P:Program)(t:TypeId)(a:TE):Bool:=match P.info? t with
 |some i=>match i.zero with
  |some z=>fG i.size a.size&&IP z.cells.toList a.cells&&Nat.ble i.bytes 4096
  |none=>false
 |none=>false
def Hz(P:Program)(T:Tab):Tab->Bool
 | []=>true
 |(t,te)::l=>Si P T t te&&Rf P t te&&Hz P T l
def Uo:∀(l) (m),JU l m=true->l.map (λf=>(f.offset,f.type))=m∧∀f∈l,f.name≠ "_"
 | [],[],_=>⟨rfl,Δ⟩
 | [],_::_,h=>by cases h
 |_::_,[],h=>by cases h
 |f::l,p::m,h=>by
  simp only[JU,Xl,bne_iff_ne,ne_eq]at h;obtain⟨⟨⟨b,c⟩,d⟩,e⟩:=h;obtain⟨i,j⟩:=Uo l m e;have b:f.offset=p.1:=by simpa using b
  have c:f.type=p.2:=by simpa using c
  refine⟨by rw[bo,i,b,c],λg a=>?_⟩;rcases Xr.1 a with a|a
  .subst a;exact d
  .exact j g a
def Wq8{P}{T}{t}{te}(h:Si P T t te=true)(E:Rf P t te=true):TEok P T t te:=by
 obtain⟨C,q,shape⟩:=te;refine⟨?_,?_⟩
 .unfold Si at h;cases shape with
  |basic=>
   simp only[Xl,hU]at h|-;refine⟨h.1,?_⟩;have h:=h.2;cases C with
   |int k=>
    simp only at h|-;split at h
    .rename_i k' j;simp only[Wg]at h;rw[j,h]
    .cases h
   |bool=>
    simp only at h|-;split at h
    .assumption
    .cases h
   |slice e=>cases h
   |own e=>cases h
   |prod a b=>cases h
  |slice e=>
   simp only[Xl,hU]at h|-;obtain⟨⟨l,D⟩,d⟩:=h;refine⟨l,?_,?_⟩
   .split at D
    .rename_i e' j;rw[j];have:e'=e:=by simpa using D
     rw[this]
    .cases D
   .split at d
    .rename_i o p;exact⟨o,p,by simpa using d⟩
    .cases d
  |struct fs=>
   simp only[Xl,hU]at h|-;obtain⟨⟨⟨l,D⟩,d⟩,v⟩:=h;refine⟨l,?_⟩;split at D
   .rename_i g j;obtain⟨w,x⟩:=Uo _ _ D;exact⟨g,j,w,λf y=>x f (by simpa using y),d,v⟩
   .cases D
  |ptr e=>
   simp only[Xl,hU]at h|-;refine⟨h.1,?_⟩;have h:=h.2;split at h
   .rename_i e' j;rw[j];have:e'=e:=by simpa using h
    rw[this]
   .cases h
  |arr n e=>
   simp only[Xl]at h|-;obtain⟨⟨l,D⟩,d⟩:=h;refine⟨l,?_,?_⟩
   .split at D
    .rename_i c e' j;simp only[Xl]at D;have r:c=n:=by simpa using D.1
     have s:e'=e:=by simpa using D.2
     rw[j,r,s]
    .cases D
   .split at d
    .rename_i o p;simp only[Xl,Wg]at d;refine⟨o,p,d.1,λm f A=>?_⟩;have:=d.2;unfold TE.plain at this;rw[A]at this;cases this
    .cases d
 .unfold Rf at E;split at E
  .rename_i i u;split at E
   .rename_i z B;simp only[Xl]at E;obtain⟨⟨l,D⟩,d⟩:=E;exact⟨i,z,u,by simpa using l,B,Yp _ _ D,Xhd d⟩
   .cases E
  .cases E
def WCm{P}{T}(h:Hz P T T=true):bv P T:=by
 have c:∀l,Hz P T l=true->∀t te,look l t=some te->TEok P T t te:=by
  intro l
  induction l with
  |nil=>intro _ t te a;cases a
  |cons p l ih=>
   intro b t te a;obtain⟨f,d⟩:=p;simp only[Hz,Xl]at b;rw[WZ]at a;split at a
   .rename_i e;subst e;injection a with a;subst a;exact Wq8 b.1.1 b.1.2
   .exact ih b.2 t te a
 exact c T h
def Wwb{P}:ji P []:=λk a h=>by cases h
def WyE{P}{a}{k}{sg}(d:zl P k sg)(c:G5 P k)(h:ji P a):ji P ((k,sg)::a):=λk' b f=>by
 simp only[look]at f;split at f
 .rename_i e;have:k=k':=by simpa using e
  subst this;injection f with f;subst f;exact⟨d,c⟩
 .exact h k' b f
def sj(f:Func):Bool:=f.body.isSome&& !(f.name== "runtime.NumGoroutine")
def CQ{P}{k}{f}(a:P.funcs[k]?=some f)(h:sj f=true):G5 P k:=by
 simp only[sj,Xl,hU]at h;refine⟨f,a,?_,h.2⟩;cases hb:f.body with
 |none=>rw[hb]at h;cases h.1
 |some c=>rfl
def Ho(f:Func)(a:List PTy):Bool:=match f.body with
 |some c=>oC f.ntmps (qq a 0 0) c&&Nat.ble (kJ a) f.ntmps&&lC a
 |none=>false
def Wt5{P}{T}{a}(b:P.follows .mixedOrders=true)(e:bv P T)(i:ji P a){f}{k}(g:P.funcs[k]?=some f){sg}(j:Ho f sg.ps=true){ann}
  (h:∀d o,sg.run d=some o->∃N,den T a ann N sg f d some=some o):zl P k sg:=by
 unfold Ho at j;split at j
 .rename_i c hb;simp only[Xl]at j;exact WAR b e i g hb j.1.1 j.2 (Xhd j.1.2) h
 .cases j
def zW:Code->List Code
 | .seq a b=>zW a++zW b
 | .cond _ a b=>zW a++zW b
 | .block _ c=>zW c
 | .loop c=>c::zW c
 |_=>[]
def Wxo(f:Func):Code:=match f.body with
 |some c=>c
 |none=>.skip
def Wuu(f:Func)(i:Nat):Code:=(zW (Wxo f)).getD i .skip
noncomputable def zm{R:Type}(T:Tab)(a:Ctx)(d:Nat->List Ghost)(N:Nat):Code->List Nat->(Ex->St->Option R)->Ex->St->Option R
 | .seq f b,p,k=>match p with
  |0::p=>zm T a d N f p λe g=>match e with
   | .normal=>sx T a d N b g k
   | .exit id=>k (.exit id) g
   | .ret=>k .ret g
  |_::p=>zm T a d N b p k
  | []=>k
 | .cond _ x y,p,k=>match p with
  |0::p=>zm T a d N x p k
  |_::p=>zm T a d N y p k
  | []=>k
 | .block id c,p,k=>match p with
  |_::p=>zm T a d N c p λe g=>match e with
   | .exit cH=>if cH=id then k .normal g else k (.exit cH) g
   | .normal=>k .normal g
   | .ret=>k .ret g
  | []=>k
 |_,_,k=>k
def WDg{R:Type}(b:List Ghost)(L:St->(Ex->St->Option R)->Option R)(K:Ex->St->Option R):Ex->St->Option R:=λe d=>match e with
 | .normal=>match pw b d with
  |some (c,a)=>bif c then L a K else none
  |none=>none
 | .exit id=>K (.exit id) d
 | .ret=>K .ret d
abbrev vI(x:Int):AVal:=.s (.one (.val (.int .i64) x))
abbrev vB(x:Bool):AVal:=.s (.one (.val .bool x))
abbrev vV(t:Ty)(x:t.den):AVal:=.s (.one (.val t x))
abbrev vO(i:Nat):AVal:=.s (.one (.own i))
abbrev vP(i o:Nat):AVal:=.s (.one (.ptr i o))
abbrev Qs(s:Sig):=hQ s.ps×iO s.rs
structure Fn where
 F:Func
 a:Nat->List Ghost
 s:Nat->Sig
 c:Nat->Ctx
def WG:Nat->List Ghost:=λ_=>[]
def cg:Nat->Ctx:=λ_=>[]
noncomputable def lpM{R:Type}(T:Tab)(a:Ctx)(b:Nat->List Ghost)(N:Nat)(F:Func)(i k n:Nat)(c:St)(K:Ex->St->Option R):Option R:=AI (DQ (b k) λc k=>sx T a b N (Wuu F i) c k) n c K
noncomputable def cxF(T:Tab)(a:Ctx)(c:Nat->List Ghost)(N:Nat)(b:Sig)(F:Func)(p:List Nat):Ex->St->Option (Qs b):=zm (R:=Qs b) T a c N (Wxo F) p (Oy T b F.results.toList some)
noncomputable def cxL{R:Type}(T:Tab)(a:Ctx)(b:Nat->List Ghost)(N:Nat)(F:Func)(i k:Nat)(p:List Nat)(n:Nat)(K:Ex->St->Option R):Ex->St->Option R:=zm T a b N (Wuu F i) p (WDg (b k) (lpM T a b N F i k n) K)
section
open Go.ChangeShapes Go.WideShapes Go.ChangeAt Go.RowKit
def uS:(t:Ty)->t.den->Prop
 | .int k,n=>(Lit.int k n).wf=true
 | .bool,_=>True
 | .slice e,l=>List.length l<=maxLen/\∀x,List.Mem x l->uS e x
 | .own _,_=>False
 | .prod a b,d=>uS a d.1/\uS b d.2
def na:(t:Ty)->t.den->Nat
 | .int _,_=>1
 | .bool,_=>1
 | .slice e,l=>(AN (na e) l).sum+1
 | .own _,_=>0
 | .prod a b,d=>na a d.1+na b d.2
structure Bulk{H:Type}(a:DataW H->Nat):Prop where
 lit:∀l,1<=a (.lit l)
 nil:1<=a .nil
 slice:∀es sp,(es.map a).sum+1<=a (.slice es sp)
 agg:∀ps,(ps.map a).sum<=a (.agg ps)
def DO(T:Tab):List (Nat×TypeId)->Nat->Option (List Ty)
 | [],_=>some []
 |(o,ft)::fs,a=>match look T ft with
  |some te=>bif fG o a&&te.plain then(DO T fs (a+te.ty.size)).map (te.ty:: ·)else none
  |none=>none
def pB:List Ty->Ty
 | []=>.bool
 | [t]=>t
 |t::ts=>.prod t (pB ts)
def AG(T:Tab):Nat->TypeId->Bool
 |0,_=>false
 |n+1,t=>match look T t with
  |some te=>match te.shape with
   | .basic=>match te.ty with
    | .int _=>true
    | .bool=>true
    | .slice _=>false
    | .own _=>false
    | .prod _ _=>false
   | .slice e=>AG T n e&&(match look T e with|some fm=>fm.plain|none=>false)
   | .struct fs=>fs.all (λf=>AG T n f.2)&&(match DO T fs 0 with
    |some (t::ts)=>decide (te.ty=pB (t::ts))
    |_=>false)
   | .ptr _=>false
   | .arr _ _=>false
  |none=>false
section
variable{P:Program}{T:Tab}{H:Type}{enc:TypeId×Value->H}{Y:DataW H->Nat}{w:World}
def Pr{t}{te}(h:TEok P T t te):P.cellsOf t=te.size:=by
 obtain⟨i,z,a,b,_⟩:=h.info;unfold Program.cellsOf;rw[a];exact b
def AA(w:World):GH:=λb o=>w.cell? ⟨b,o,none⟩
def Wu5{b}{f}{n}{a}(h:w.cells? b f n=some a):a.length=n/\∀(j) (v),a[j]?=some v->w.cell? (f.add j)=some v:=by
 unfold World.cells? at h;split at h
 .refine⟨by simpa using mapM_some_length h,λj v c=>?_⟩;have d:j<n:=by
   have:=mapM_some_length h;have e:=(iW.1 c).1;simp at this;omega
  have:=mapM_some_get h j j (by simp[d]);rw[this];exact c
 .cases h
def YG{e}{a:Addr}(n)(F:0<n):∀(k) (L) (c:Nat->Option (DataW H×List MemPlace)) (f:List Value->Option (DataW H×List MemPlace)),
  (∀b y,f b=some y->∃d:e.den,Enc (AA w) e d b/\uS e d/\na e d<=Y y.1)->
  (∀i,L<=i->i<L+k->∃y b,w.cells? 0 (a.add (i*n)) n=some b/\f b=some y/\c i=some y)->
  ∃(l:List e.den) (b:List Value),l.length=k/\da (Enc (AA w) e) l b/\(∀x∈l,uS e x)/\(∀(j) (v),b[j]?=some v->w.cell? (a.add (L*n+j))=some v)/\
   b.length=k*n/\(l.map (na e)).sum<=((bJ k).map λi=>match c (L+i)with|some y=>Y y.1|none=>0).sum
 |0,L,c,f,h,he=>⟨[],[],rfl,rfl,Δ,Δ,Δ,Δ⟩
 |k+1,L,c,f,h,he=>by
  obtain⟨y,o,A,B,C⟩:=he L (Xj _) Ω;obtain⟨d,q,G,D⟩:=h _ _ B;obtain⟨l,b,r,s,t,u,z,J⟩:=YG n F k (L+1) c f h (λi I K=>he i Ω Ω);obtain⟨p,E⟩:=Wu5 A;refine⟨d::l,o++b,by simp[r],⟨o,b,rfl,q,s⟩,λx m=>?_,λj v g=>?_,?_,?_⟩
  .rcases Xr.1 m with rfl|m
   .exact G
   .exact t x m
  .rw[ko]at g;split at g
   .have:=E j v g;rw[Addr.add_add]at this;exact this
   .rename_i ab;have:=u _ v g;rw[p]at this ab;have e:(L+1)*n+(j-n)=L*n+j:=by rw[o5];omega
    rw[e]at this;exact this
  .rw[bX,p,z,o5];omega
  .rw[List.range_succ_eq_map,bo,bo,sO,sO,H3];simp only[gJ,C];have:((λi=>match c (L+i)with|some y=>Y y.1|none=>0)∘Nat.succ)= λi=>match c (L+1+i)with|some y=>Y y.1|none=>0:=by
    funext i;simp only[Function.comp,Nat.succ_eq_add_one];rw[show L+(i+1)=L+1+i by omega]
   rw[this];omega
def WAQ{b:DataW H×List MemPlace->Nat}(a:List (DataW H×List MemPlace)):((bJ a.length).map λi=>match a[0+i]? with|some y=>b y|none=>0).sum=(a.map b).sum:=by
 congr 1;apply List.ext_getElem
 .simp
 .intro i h1 h2;simp at h1;simp[h1]
def Wqf{t}{ts}(h:ts≠ []):pB (t::ts)= .prod t (pB ts):=by
 cases ts with
 |nil=>exact Wh rfl h
 |cons _ _=>rfl
def VK(v:bv P T)(L:Bulk Y)(f:TypeId->List Value->Option (DataW H×List MemPlace)){a:List Value}:∀(fs) (U) (j) (h:List (DataW H×List MemPlace)),j≠ []->DO T fs U=some j->
  (∀b∈fs,∀c a y,look T b.2=some c->f b.2 a=some y->∃d:c.ty.den,Enc (AA w) c.ty d a/\uS c.ty d/\na c.ty d<=Y y.1)->
  h.length=fs.length->(∀(i:Nat) (b),fs[i]?=some b->f b.2 ((a.drop b.1).take (P.cellsOf b.2))=h[i]?)->a.length=U+(pB j).size->
  ∃d:(pB j).den,Enc (AA w) (pB j) d (a.drop U)/\uS (pB j) d/\na (pB j) d<=(h.map λy=>Y y.1).sum
 | [],U,j,h,q,e,_,_,_,_=>by injection e with e;exact Wh e.symm q
 |(o,ft)::fs,U,j,h,q,e,z,k,p,dB=>by
  cases h with
  |nil=>simp at k
  |cons y h=>
   simp only[DO]at e;split at e
   .rename_i c hl;obtain⟨m,e⟩:=lB e;simp only[Xl]at m;have K:o=U:=by simpa using m.1
    obtain⟨n,S,rfl⟩:=im.1 e;have D:P.cellsOf ft=c.ty.size:=by rw[Pr (v _ _ hl),jQ m.2]
    have u:=p 0 (o,ft) rfl;simp only[H0,D,K]at u;obtain⟨r,l,s,E⟩:=z (o,ft) (Xg ..) c _ y hl u;cases jC:fs with
    |nil=>
     subst jC;simp only[DO]at S;injection S with S;subst S;have O:h= []:=by cases h with
      |nil=>rfl
      |cons _ _=>simp at k
     subst O;have M:(a.drop U).take c.ty.size=a.drop U:=nm (by rw[List.length_drop,dB];simp[pB]);rw[M]at l;exact⟨r,l,s,by rw[bo,d6,sO,List.sum_nil,gJ];exact E⟩
    |cons g gs=>
     have A:n≠ []:=by
      rw[jC]at S;obtain⟨R,I⟩:=g;simp only[DO]at S;split at S
      .obtain⟨_,S⟩:=lB S;obtain⟨x,_,rfl⟩:=im.1 S;simp
      .cases S
     have B:=Wqf (t:=c.ty) A;obtain⟨C,F,G,Q⟩:=VK v L f (a:=a) fs (U+c.ty.size) n h A S (λb N=>z b (Xe _ N)) (by simpa using k)
      (λi b J=>by have:=p (i+1) b (by simpa using J);simpa using this) (by rw[dB,B,Ty.size];omega)
     rw[B];refine⟨(r,C),⟨_,_,?_,l,F⟩,⟨s,G⟩,?_⟩
     .rw[<-List.drop_drop];exact(List.take_append_drop _ _).symm
     .simp only[na,bo,sO];omega
   .cases e
def QK(D:bv P T)(o:Bulk Y):∀(n g) (t) (f) (G:List Value) (x:DataW H×List MemPlace),AG T n t=true->look T t=some f->
  DataW.trod enc P w 0 (λ_=>true) true g t G=some x->∃d:f.ty.den,Enc (AA w) f.ty d G/\uS f.ty d/\na f.ty d<=Y x.1
 |0,_,_,_,_,_,h,_,_=>by cases h
 |n+1,g,t,f,G,x,h,W,B=>by
  have F:=D _ _ W;simp only[AG,W]at h;obtain⟨Z,agg,shape⟩:=f;cases shape with
  |basic=>
   have A:=F.und.2;cases Z with
   |int qa0=>
    obtain⟨m,rfl,rfl,hw⟩:=DataW.trod_int A B;exact⟨m,rfl,hw,o.lit _⟩
   |bool=>
    obtain⟨b,rfl,rfl⟩:=DataW.trod_bool A B;exact⟨b,rfl,trivial,o.lit _⟩
   |slice e=>cases h
   |own e=>cases h
   |prod a b=>cases h
  |slice e=>
   simp only[Xl]at h;obtain⟨ha,A,p,K,J⟩:=F.und;simp only at J;subst J;have hp:p.plain=true:=by have:=h.2;rw[K]at this;exact this
   have L:P.cellsOf e=p.ty.size:=by rw[Pr (D _ _ K),jQ hp]
   rcases DataW.trod_slice A B with⟨rfl,rfl⟩|⟨a,u,C,c,E,m,rfl,rfl,rfl,hb,B1,mS,xO,ta,mf,_⟩
   .exact⟨([]:List p.ty.den),⟨_,rfl,.inl ⟨rfl,rfl⟩⟩,⟨Δ,λx B=>by cases B⟩,by simpa [na]using o.nil⟩
   .have s:=YG (w:=w) (Y:=Y) (e:=p.ty) (a:=a) p.ty.size (qh _) u 0 (λi=>c[i]?) (λG=>DataW.trod enc P w 0 (λ_=>true) true m e G)
     (λG y Q=>QK D o n m e p G y h.1 K Q) (λi _ z=>by
      rw[d4]at z;have:=ta i z;rw[L]at this;have U:i<c.length:=Ω
      rw[Xq U]at this;obtain⟨G,I,r⟩:=mx.1 this;exact⟨c[i],G,I,r,Xq U⟩)
    obtain⟨l,G,q,N,O,V,g5,g6⟩:=s;refine⟨l,⟨_,rfl,?_⟩,⟨by rw[q];omega,O⟩,?_⟩
    .by_cases h0:u=0
     .subst h0;exact .inr (.inr ⟨a,C,rfl,eY q⟩)
     .have sZ:0<G.length:=by rw[g5];exact Nat.mul_pos Ω (qh _)
      have uK:=V 0 _ (Xq sZ);have uL:a.spot=none:=by
       rw[H4,gJ]at uK;have:=World.cell?_spot uK;simpa [Addr.add]using this
      obtain⟨b,R,qa2⟩:=a;subst uL;refine .inr (.inl ⟨b,R,C,G,by rw[q],by rw[q];exact B1,mS,N,λj v hj=>?_⟩);have:=V j v hj;rw[H4,d4,nD]at this;exact this
    .have I:=o.slice (c.map (·.1)) (E.map (·.1));have r:((bJ u).map λi=>match c[0+i]? with|some y=>Y y.1|none=>0).sum=(c.map λy=>Y y.1).sum:=by
      rw[<-xO];exact WAQ c
     rw[r]at g6;rw[H3]at I;simp only[na];have h3:(AN (Y∘λx=>x.1) c)=c.map λy=>Y y.1:=rfl;rw[h3]at I;show(AN (na p.ty) l).sum+1<=_;omega
  |struct fs=>
   simp only[Xl]at h;obtain⟨ha,qa1,A,X,AB,_⟩:=F.und;have r:=h.2;split at r
   .rename_i S ts iY;have J:Z=pB (S::ts):=Wx r;subst J;obtain⟨k,m,rfl,rfl,bQ,lL,nU⟩:=DataW.trod_struct A B;have L:P.cellsOf t=(pB (S::ts)).size:=by rw[Pr F];rfl
    have s:=VK (w:=w) (P:=P) D o (λt G=>DataW.trod enc P w 0 (λ_=>true) true m t G) (a:=G) fs 0 (S::ts) k Δ iY
     (λM kU f G y uH Q=>QK D o n m M.2 f G y (cS.1 h.1 M kU) uH Q) (by rw[lL,<-X];simp)
     (λi M z=>by
      rw[<-X]at z;rw[hV]at z;obtain⟨fl,kr,he⟩:=im.1 z;subst he;exact nU i fl (by simpa using kr)) (by rw[bQ,L,d4])
    obtain⟨d,q,N,O⟩:=s;rw[HQ]at q;refine⟨d,q,N,mA O ?_⟩;have:=o.agg (k.map (·.1));rw[H3]at this;exact this
   .cases r
  |ptr e=>cases h
  |arr m e=>cases h
def GJ{G}{w}:∀(t) (d) (a),Enc G t d a->WL G w t d a []
 | .int _,_,_,h=>⟨rfl,h⟩
 | .bool,_,_,h=>⟨rfl,h⟩
 | .slice _,_,_,h=>⟨rfl,h⟩
 | .own _,_,_,h=>h.elim
 | .prod j b,d,a,⟨c,e,i,f,g⟩=>⟨c,e,[],[],i,rfl,GJ j _ _ f,GJ b _ _ g⟩
def LC:(a:List PTy)->gR a->Prop
 | [],_=>True
 | .v t _::a,d=>uS t d.1/\LC a d.2
 | .box _::_,_=>False
 | .mut _::_,_=>False
 | .clos _ _::_,_=>False
 | .rp _::_,_=>False
 | .vj _::_,_=>False
 | .boxal _ _::_,_=>False
def GV:(a:List PTy)->gR a->Nat
 | [],_=>0
 | .v t _::a,d=>na t d.1+GV a d.2
 | .box _::_,_=>0
 | .mut _::_,_=>0
 | .clos _ _::_,_=>0
 | .rp _::_,_=>0
 | .vj _::_,_=>0
 | .boxal _ _::_,_=>0
def CE(P:Program)(T:Tab):List TypeId->List PTy->Bool
 | [],[]=>true
 |t::ts,p::ps=>(match p with
  | .v a agg=>(match look T t with|some te=>decide (te.ty=a)&&(te.agg==agg)|none=>false)&&AG T 20 t&&P.readableRec t&&Nat.blt t P.types.size&&CE P T ts ps
  | .box _=>false
  | .mut _=>false
  | .clos _ _=>false
  | .rp _=>false
  | .vj _=>false
  | .boxal _ _=>false)
 |_,_=>false
def X2(E:bv P T)(L:Bulk Y):∀(i:List TypeId) (g:List PTy) (c:List Value) (C:List (DataW H)) (G:List MemPlace),CE P T i g=true->DataW.TrodAll enc P w 0 (λ_=>true) true i c C G->
  (∀(j:Nat) (t) (v),i[j]?=some t->c[j]?=some v->∃o,Value.okWide P w .any o t v)->
  ∃d:gR g,mc (AA w) w g d c [] []/\LC g d/\GV g d<=(C.map Y).sum
 | [],[],c,C,G,_,h,_=>by
  obtain⟨rfl,rfl,_⟩:=trodAll_nil h;exact⟨(),⟨rfl,rfl,rfl⟩,trivial,by simp[GV]⟩
 | [],_::_,_,_,_,h,_,_=>by cases h
 |_::_,[],_,_,_,h,_,_=>by cases h
 |t::i,.box _::g,_,_,_,h,_,_=>by cases h
 |t::i,.mut _::g,_,_,_,h,_,_=>by cases h
 |t::i,.clos _ _::g,_,_,_,h,_,_=>by cases h
 |t::i,.rp _::g,_,_,_,h,_,_=>by cases h
 |t::i,.vj _::g,_,_,_,h,_,_=>by cases h
 |t::i,.boxal _ _::g,_,_,_,h,_,_=>by cases h
 |t::i,.v k agg::g,c,C,G,K,h,gE=>by
  obtain⟨v,J,d,uM,p,q,rfl,rfl,rfl,U,X⟩:=trodAll_cons h;simp only[CE,Xl]at K;obtain⟨⟨⟨⟨z,A⟩,h3⟩,h4⟩,V⟩:=K;split at z
  .rename_i te hl;simp only[Xl]at z;have O:te.ty=k:=Wx z.1;have Q:te.agg=agg:=eq_of_beq z.2;subst O Q;obtain⟨y,Z⟩:=U;obtain⟨x,s,I,F⟩:=QK E L 20 y t te _ (d,p) A hl Z;obtain⟨o,B⟩:=gE 0 t v rfl rfl;obtain⟨N,R,S,g3⟩:=X2 E L i g J uM q V X (λj t v W qa1=>gE (j+1) t v (by simpa using W) (by simpa using qa1));refine⟨(x,N),⟨v,J,[],[],rfl,rfl,?_,R⟩,⟨I,S⟩,?_⟩
   .have f:=(E _ _ hl).und;unfold ng;obtain⟨k,ag,shape⟩:=te;simp only at s I F|-;have fY:∀u:Value,u.cells= #[u]->u=v->v.cells.toList= [v]:=λu h e=>by rw[<-e,h]
    cases shape with
    |basic=>
     obtain⟨r,f⟩:=f;simp only at r;subst r;simp only[my,jN];have:v.cells.toList= [v]:=by
      cases k with
      |int qa2=>obtain⟨n,rfl⟩:=okWide_int f B;rfl
      |bool=>obtain⟨n,rfl⟩:=okWide_bool f B;rfl
      |slice e=>cases f
      |own e=>cases f
      |prod a b=>cases f
     rw[this]at s;exact GJ _ _ _ s
    |slice e=>
     obtain⟨r,f,_⟩:=f;simp only at r;subst r;simp only[my,jN];obtain⟨a,l,qa0,rfl⟩:=okWide_slice f B;exact GJ _ _ _ s
    |struct fs=>
     obtain⟨r,D,f,_⟩:=f;simp only at r;subst r;simp only[gp];obtain⟨M,rfl,_⟩:=okWide_struct f B;exact⟨M.toList,Δ,GJ _ _ _ s⟩
    |ptr e=>simp only[AG,hl]at A;cases A
    |arr m e=>simp only[AG,hl]at A;cases A
   .have F:na te.ty x<=Y d:=F;simp only[GV,bo,sO];omega
  .cases z
def X6:∀(b:List TypeId) (a:List Value) (j:List (DataW H)) (c:List MemPlace),DataW.TrodAll enc P w 0 (λ_=>true) true b a j c->j.length=b.length
 | [],a,j,c,h=>by obtain⟨_,rfl,_⟩:=trodAll_nil h;rfl
 |t::b,a,j,c,h=>by
  obtain⟨v,e,d,g,p,q,rfl,rfl,rfl,i,f⟩:=trodAll_cons h;simp[X6 b e g q f]
def XP(l:laidOutB P=true){W W'}(j:Below W.heap.size W W'){m:Nat->Bool}:∀(A:List TypeId) (b:List PTy) (B:List Value) (f:List (DataW H)) (e:List MemPlace),CE P T A b=true->
  DataW.TrodAll enc P W 0 (λ_=>true) true A B f e->(∀p∈e,p.block<W.heap.size)->(∀p∈e,m p.block=true)->DataW.TrodAll enc P W' 0 m true A B f e
 | [],b,B,f,e,_,h,_,_=>by
  obtain⟨rfl,rfl,rfl⟩:=trodAll_nil h;exact trodAll_mk0
 |t::A,[],_,_,_,h,_,_,_=>by cases h
 |t::A,.box _::b,_,_,_,h,_,_,_=>by cases h
 |t::A,.mut _::b,_,_,_,h,_,_,_=>by cases h
 |t::A,.clos _ _::b,_,_,_,h,_,_,_=>by cases h
 |t::A,.rp _::b,_,_,_,h,_,_,_=>by cases h
 |t::A,.vj _::b,_,_,_,h,_,_,_=>by cases h
 |t::A,.boxal _ _::b,_,_,_,h,_,_,_=>by cases h
 |t::A,.v a agg::b,B,f,e,k,h,g,mf=>by
  obtain⟨v,n,d,w,p,q,rfl,rfl,rfl,o,u⟩:=trodAll_cons h;simp only[CE,Xl]at k;obtain⟨⟨⟨⟨y,z⟩,r⟩,i⟩,s⟩:=k;have ae:t<P.types.size:=by rw[Nat.blt_eq]at i;exact i
  exact⟨p,q,WideElems.Trod_stays l r ae o (λx c=>j.same (g x (Xn _ c))) (λx c=>mf x (Xn _ c)),
   XP l j A b n w q s u (λx c=>g x (Xk _ c)) (λx c=>mf x (Xk _ c)),rfl⟩
def Wx6{f:Func}{s:ChangeSpec}{qF fresh handsOn again}{W W'}{c:Array Value}{v:Value}{g h:List (DataW H)}{before pa pv:List MemPlace}
  (k:DataW.Whole enc P f.params.toList s.vars qF W c.toList g h before)
  (o:∀(b) (e:Nat->Bool) (hd),DataW.TrodAll enc P W' b e hd f.resultTypes.toList (v.resultList f.resultTypes.size) (s.fn H (g++h)).results [])
  (l:∀e:Nat->Bool,(∀p∈before,e p.block=true)->DataW.TrodAll enc P W' 0 e true f.params.toList c.toList (s.fn H (g++h)).args pa)
  (q:∀e:Nat->Bool,(∀p∈before,e p.block=true)->DataW.TrodVars enc P W' e s.vars (s.fn H (g++h)).vars pv)
  (i:before=pa++pv) (x:W.keptBut W' (· ∈before)) (u:∀A,A.block<W.heap.size->W'.frozen? A=W.frozen? A)
  (w:∀(j:Nat) (t) (r),f.resultTypes[j]?=some t->(v.resultList f.resultTypes.size)[j]?=some r->Value.okWide P W' .any 0 t r):
  s.post enc P f qF fresh handsOn again W c v W':=by
 have n:∀p∈before,(λb=>decide (b<W.heap.size)) p.block=true:=λp d=>by simpa using k.lt p d
 refine⟨g,h,before,[],pa,pv,k,o _ _ _,l _ n,q _ n,World.keptBut_mono (λp d=>⟨d,?_⟩) x,λ_=>?_⟩
 .rw[i,Xo]at d;exact Or.inr d
 .have ab:=k.lt;obtain⟨_,_,_,_,_,z,y⟩:=k;refine⟨w,_,_,([]++pa)++pv,⟨[]++pa,pv,trodAll_append (l _ (λ_ _=>rfl)) (o _ _ _),q _ (λ_ _=>rfl),rfl,?_,?_⟩,?_⟩
  .intro b a d;have m:MemPlace.cell b a∈before:=by rw[i];simpa using d
   rw[u ⟨b,a,none⟩ (ab _ m)];exact z b a m
  .intro ha;have:=y ha;rw[i]at this;simpa using this
  .intro p d _;rw[i];simpa using d
def law_row(Z:bv P T)(lq:laidOutB P=true){f}{k}{s:ChangeSpec}(D:s.vars= [])(w:∀c:List (DataW H),c.length=f.params.toList.length->s.fn H c={results:=[.lit (.bool true)],args:=c})
  {ps} (C:CE P T f.params.toList ps=true) {tb} (I:f.resultTypes= #[tb]) (A:P.underlying tb=some .bool) {run:Nat->gR ps->Option (hQ ps×iO [.v .bool false])}
  (mU:∀N,zl P k (Sig.of ps [.v .bool false] (run N))) (hβ:Bulk Y) {ok:List (DataW H)->Prop} {M:Nat->Prop} (uN:∀c m,ok c->m<=(c.map Y).sum->M m)
  (xP:∀d:gR ps,LC ps d->M (GV ps d)->∃N o,run N d=some (o,(true,()))) {qF fresh handsOn again}
  (W) (g) (args) (c gs) (before)
  (S:∀(j:Nat) t v,f.params[j]?=some t->args[j]?=some v->Value.okWide P W .any g t v)
  (u:DataW.Whole enc P f.params.toList s.vars qF W args.toList c gs before) (hk:ok c):
  Calls P k args W λe W'=>∃v,e= .returned v/\s.post enc P f qF fresh handsOn again W args v W':=by
 have x:=u;have K:=u.lt;obtain⟨p,q,r,E,B,AD,bu⟩:=u;rw[D]at E;obtain⟨uO,y⟩:=trodVars_none E;subst uO y;rw[rb]at B;subst B;obtain⟨d,V,X,qa0⟩:=X2 (w:=W) Z hβ f.params.toList ps args.toList c before C r (λj t v hj l=>⟨g,S j t v (by simpa using hj) (by simpa using l)⟩);obtain⟨N,o,ho⟩:=xP d X (uN c _ hk qa0);have F:=mU N d (o,(true,())) ho (AA W) W args.toList [] [] V List.Pairwise.nil Δ (λb o v l=>l);have L:args.toList.toArray=args:=Δ
 rw[L]at F;refine F.mono λe W' ⟨rv,kf,ms,dM,G',G,h⟩=>?_;have i:Below W.heap.size W W':=⟨h.le.os,h.le.tape,h.le.output,h.le.size,λb i=>h.le.whole b i (λo ⟨q,y,_⟩=>by simp at y)⟩;obtain⟨v,aD,n1,n2,O,e2,n,Q⟩:=h.res;obtain⟨R,_⟩:=Q;subst R;have l:v= .bool true:=by
  unfold ng at n;simp only[my,jN]at n;have:=n.2;simpa [Enc]using this
 subst l;have U:Az rv= .bool true:=by rw[O];rfl
 rw[U]at G;refine⟨.bool true,G,?_⟩;have J:=X6 _ _ _ _ r;have z:=w (c++ []) (by rw[rb];exact J);refine Wx6 (pa:=before) (pv:=[]) x ?_ ?_ ?_ Δ (i.frame _) (λa h=>i.frozen h) (ok_one I rfl (okWide_bool_mk A _))
 .intro b sp hd;rw[z,I];exact trodAll_cons_mk (shut_bool A _) trodAll_mk0
 .intro sp mf;rw[z,rb];exact XP lq i _ _ _ _ _ C r K mf
 .intro sp mf;rw[z,D];rfl
end
end

def u7{a:Type}(r:a->a->Bool):List a->Bool
 | []=>true
 |x::l=>l.all (r x)&&u7 r l
def qv{b:Type}(a:b->b->Int)(x y:b):Bool:=decide (a x y<0)
def qF{b:Type}(a:b->b->Int)(x y:b):Bool:=qv a x y||qv a y x
def n7{c:Type}(a:c->c->Int)(b:List c):List c:=b.mergeSort λx y=>!qv a y x
def CA{c:Type}(rng:c->Bool)(a:c->c->Int)(N:Nat)(b:List c):Option ((List c×Unit)×Unit):=
 bif b.all rng&&(u7 (qF a) b&&decide (b.length<4611686018427387904))then some ((n7 a b,()),())else none
structure SwoOn{a:Type}(rng:a->Bool)(b:a->a->Int):Prop where
 irr:∀x,rng x=true->¬b x x<0
 tr:∀x y z,rng x=true->rng y=true->rng z=true->b x y<0->b y z<0->b x z<0
 nt:∀x y z,rng x=true->rng y=true->rng z=true->¬b x y<0->¬b y z<0->¬b x z<0
def WqC{c}{rng}{b}{N}{a}{o:(List c×Unit)×Unit}(h:CA rng b N a=some o):
  (∀x∈a,rng x=true)/\u7 (qF b) a=true/\a.length<4611686018427387904/\o=((n7 b a,()),()):=by
 unfold CA at h;cases hb:a.all rng&&(u7 (qF b) a&&decide (a.length<4611686018427387904))
 .rw[hb]at h;cases h
 .rw[hb]at h;simp only[We]at h;injection h with h;simp only[Xl,Wg]at hb;exact⟨cS.1 hb.1,hb.2.1,hb.2.2,h.symm⟩
def Yn{a}{r}:∀{l:List a},u7 r l=true->∀(i j) (c) (b:j<l.length),i<j->r l[i] l[j]=true
 | [],_,i,_,c,_,_=>by simp at c
 |x::l,h,0,j+1,c,b,iA=>by
  simp only[u7,Xl]at h;exact cS.1 h.1 _ (List.getElem_mem _)
 |x::l,h,i+1,j+1,c,b,iA=>by
  simp only[u7,Xl]at h;simpa using Yn h.2 i j (by simpa using c) (by simpa using b) Ω
def x9(k:Int):Bool:=decide (-1000000000<=k)&&decide (k<=1000000000)
def F5(a:Int×Int×Int):Bool:=x9 a.1
def cfE(a b:Int×Int×Int):Int:=a.1-b.1
def cfW(a b:Int×Int×List (Int×Int)):Int:=a.1-b.1
def zj(a:Int×Int×Int):Bool:=x9 a.1&&x9 a.2.1
def cfH(a b:Int×Int×Int):Int:=bif a.2.1==b.2.1 then a.1-b.1 else a.2.1-b.2.1
def DF{k}(h:x9 k=true):-1000000000<=k/\k<=1000000000:=by unfold x9 at h;simpa using h
def WDD:SwoOn F5 cfE:=⟨λx _=>by unfold cfE;omega,λx y z _ _ _=>by unfold cfE;omega,λx y z _ _ _=>by unfold cfE;omega⟩
theorem nP{a b}:cfH a b<0↔(a.2.1<b.2.1\/(a.2.1=b.2.1/\a.1<b.1)):=by
 unfold cfH;by_cases h:a.2.1=b.2.1
 .have:(a.2.1==b.2.1)=true:=by simpa using h
  rw[this];simp only[We];omega
 .have:(a.2.1==b.2.1)=false:=by simpa using h
  rw[this];simp only[Wc];omega
def WCi{a b}(h:(a.2.1 !=b.2.1)=false):a.1-b.1=cfH a b:=by
 have h:a.2.1=b.2.1:=bne_eq_false_iff_eq.1 h;unfold cfH;rw[beq_iff_eq.2 h];rfl
def WCr{a b}(h:(a.2.1 !=b.2.1)=true):a.2.1-b.2.1=cfH a b:=by
 have h:a.2.1≠b.2.1:=bne_iff_ne.1 h;unfold cfH;rw[beq_eq_false_iff_ne.2 h];rfl
def WDK:SwoOn zj cfH:=⟨λx _=>by rw[nP];omega,λx y z _ _ _=>by rw[nP,nP,nP];omega,λx y z _ _ _=>by rw[nP,nP,nP];omega⟩
end Go.Sx
