/- Plain laws of the Lean functions. -/
import Derived.Test.YtiagkodiffhaoaaGreatMW6
open Option renaming bind_some->Xd,bind_eq_some_iff->mx
open Bool renaming true_and->sN,not_true->Xu,and_eq_true->Xl,or_eq_true->sH
open Nat renaming le_refl->Xj,zero_add->d4
open List renaming length_set->Xx,getElem_set->fE,getElem_of_mem->cN,all_eq_true->cS,getElem_mem->Xm,drop_length->p6,foldl_nil->Xgz,drop_eq_getElem_cons->HN,foldl_cons->eM,replicate->Xp,getD->Xc,all_cons->o4,range->bJ,range_succ->L2,map_append->Xw,map_singleton->L0,length->Xa,getElem_map->eZ,pairwise_iff_getElem->fh,countP_append->Xga,length_take->gv,mem_take_iff_getElem->HS,mem_cons_of_mem->Xe,getElem?_set_ne->ly,mem_cons_self->Xg,mem_cons->Xr,length_replicate->yh,ext_getElem->D6,length_map->aP,filter_append->vn,length_filter_le->Sm,filter_cons->io,filter_nil->L4,map_cons->bo,map_nil->d6,append_nil->rb,take_length->jz,take_succ_eq_append_getElem->pO,countP_le_length->H1,foldl_append->p7,set->Xi,getElem_range->HP,ext_getElem?->HX,mem_map->Xy,set_set->mz,length_nil->kp,not_mem_nil->D9,mem_append->Xo,mem_singleton->dq,eq_nil_or_concat->Xfh,concat_eq_append->Xhb,mem_append_left->Xn,length_cons->Xv,pairwise_cons->Xz,getElem_append_right->Xgk,set_getElem_self->jt,getElem_set_self->Sn,countP_cons->L3,getElem_set_ne->Su
open Int renaming toNat->Xb,toNat_natCast->Xf,reduceBEq->yl,le_refl->Xt
namespace Go.Sx
set_option linter.unusedVariables false
set_option linter.unusedSimpArgs false
section
variable{N:Nat}{l:List Int}{k v:Int}{s:Shf}{u:Un}{o:Opn}{r:List Int}
theorem WvX(h:SlOk l)(g:0<=k)(m:1048576<N):Ct N l k=ret (match ik l k with|some r=>(r.1:Int)|none=>-1):=by
 unfold Ct ik;have o:=h.len;have f:=Hc (l:=l) (p:=vd k) (N:=N) (c:=λn j=>yO N l k (λc=>some ((),(c,()))) (λq i=>some ((),((-1:Int),()))) n j) (a:=λj=>some ((),(j,()))) (b:=some ((),((-1:Int),()))) Ω Ω
  (λn j b=>by
   simp only[yO,WM b,Wp b,Wu b,Wl (j:=j),We];unfold vd;by_cases a:l[j]=0
   .have e:vX N l[j]=some ((),((-1:Int),((0:Int),()))):=by unfold vX;rw[a];rfl
    have d:((-1:Int)==k)=false:=Φ
    rw[e];simp only[Xd,d,Wc,a];rfl
   .have hv:=h.val b a;rw[O8 a hv];simp only[Xd,Wf (g),We,Wf (Ω:l[j]>0),sN];by_cases e:cE l[j]=k
    .simp[e]
    .rw[show(cE l[j]==k)=false by simpa using e,Wj e])
  (λn=>by simp[yO,W0,Xj,Wc])
 rw[f];cases fnd (vd k) l 0<;>rfl
theorem WsN(a:0<=k/\k<=7):FO N k=ret true:=by
 unfold FO;rw[oN,Wf a.1,Wf a.2];rfl
theorem Wlp(h:SlOk l)(c:0<=k/\k<=7)(j:1048576<N):NL N l k=some ((),((if WE l k=0 then 0 else WE l k-1),(decide (WE l k≠0),()))):=by
 unfold NL WE;rw[Um h j,WsN c,WvX h c.1 j];simp only[ret,Xd,Xu,Wc];cases a:ik l k with
 |none=>rfl
 |some r=>
  obtain⟨b,d,e,f,g,i⟩:=rJ h a;simp only[Wj (show¬((r.1:Int)<0) by omega),Wc,d8,Wf b,We,Wu b,d];rw[O8 Ω ⟨e,f⟩,Wa Ω,Wf Ω];simp only[Int.add_sub_cancel];rfl
end
section
variable{s:Sc}{w v:Wo}{n:Int}{a:Ac}{x y:Rt}{k:Nat}{p:Pg}{q:Wo×Rt}
structure TQ(w:Wo)(k:Nat)(x:Rt)(q:Wo×Rt):Prop where
 tok:q.1.N=w.N\/(q.1.N=(k:Int)+1/\w.N=0/\x.g=0/\q.2.g=0)\/(w.N=(k:Int)+1/\q.1.N=0/\q.2.g=8)
 try1:x.g≠0->x.g≠8->q.2.g≠0->q.2.G=x.G
 idle:x.g=0->q.2.g=0\/(q.2.G=x.G/\(w.N=0/\x.G<3\/w.N=(k:Int)+1/\lA k w.c 0=true)/\q.1.N=w.N)
 done:x.g=8->q=(w,x)
theorem TQ.keep(d:q.1.N=w.N)(c:q.2.G=x.G)(a:x.g≠0)(b:x.g≠8):TQ w k x q:=
 ⟨.inl d,λ_ _ _=>c,λh=>Wh h a,λh=>Wh h b⟩
theorem WuQ{f}{b}(a:f.N=w.N)(d:b.G=x.G)(e:x.g≠0)(c:x.g≠8):TQ w k x (gi f b k):=by
 refine⟨?_,λ_ _ _=>d,λh=>Wh h e,λh=>Wh h c⟩;show(if f.N=(k:Int)+1 then 0 else f.N)=w.N\/_;split
 .rename_i h;right;right;refine⟨by rw[<-a];exact h,?_,rfl⟩;show(if f.N=(k:Int)+1 then 0 else f.N)=0;rw[Wb h]
 .exact .inl a
theorem XY{out}(a:x.g≠0)(c:x.g≠8):TQ w k x (W9 w x k out):=by
 unfold W9;simp only;generalize (if out=2 then []else x.A)=b;split
 .exact WuQ rfl rfl a c
 .exact TQ.keep rfl rfl a c
theorem Ue:(WA x).G=x.G:=by
 unfold WA;split<;>rfl
theorem QN:TQ w k x (WS w x k p):=by
 unfold WS;by_cases r:x.U=true/\1<=x.g/\x.g<=4
 .rw[Wb r];exact TQ.keep rfl rfl Ω Ω
 rw[Wa r];by_cases d:x.g=0
 .rw[Wb d];have e:x.g≠8:=Ω
  unfold gH;split
  .exact⟨.inl rfl,λh=>Wh d h,λ_=>.inl d,λh=>Wh h e⟩
  .split
   .rename_i h;exact⟨.inr (.inl ⟨rfl,h.2,d,d⟩),λh=>Wh d h,λ_=>.inl d,λh=>Wh h e⟩
   .split
    .exact⟨.inl rfl,λh=>Wh d h,λ_=>.inl d,λh=>Wh h e⟩
    .rename_i b C B;refine⟨.inl rfl,λh=>Wh d h,λ_=>.inr ⟨rfl,?_,rfl⟩,λh=>Wh h e⟩;by_cases u:w.N=0
     .exact .inl ⟨u,Ω⟩
     .have s:w.N=(k:Int)+1:=Ω
      refine .inr ⟨s,?_⟩;cases t:lA k w.c 0 with
      |true=>rfl
      |false=>exact Wh ⟨s,t⟩ B
 rw[Wa d];by_cases e:x.g=8
 .rw[Wa Ω,Wa Ω,Wa Ω,Wa Ω,Wa Ω,Wa Ω,Wa Ω];exact⟨.inl rfl,λ_ h=>Wh e h,λh=>Wh h d,λ_=>rfl⟩
 have c:∀q:Wo×Rt,q.1.N=w.N->q.2.G=x.G->TQ w k x q:=λq a z=>TQ.keep a z d e;by_cases f:x.g=1
 .rw[Wb f];unfold am;split
  .exact XY d e
  .simp only;generalize opN p.1 x.k=o;split
   .refine c _ rfl ?_;unfold dX;cases bf x.A o.2.2.1 with
    |some v=>rfl
    |none=>
     simp only;generalize WU w.i x.u _=z;split
     .exact Ue
     .split<;>rfl
   .split
    .unfold fV;split
     .exact XY d e
     .split<;>exact c _ rfl rfl
    .split
     .exact c _ rfl rfl
     .split
      .unfold eN;cases fN w.a ((k:Int)+1) (WO o).1 (WO o).2 with
       |none=>exact c _ rfl Ue
       |some A=>exact c _ rfl rfl
      .repeat' split
       all_goals exact c _ rfl rfl
 rw[Wa f];by_cases g:x.g=2
 .rw[Wb g];refine c _ rfl ?_;show(ch x).G=x.G;unfold ch;split
  .rfl
  .split<;>rfl
 rw[Wa g];by_cases i:x.g=3
 .rw[Wb i];unfold fK;split<;>exact c _ rfl rfl
 rw[Wa i];by_cases j:x.g=4
 .rw[Wb j];refine c _ rfl ?_;show(W6 w x).G=x.G;unfold W6;simp only;split
  .split<;>rfl
  .rfl
 rw[Wa j];by_cases l:x.g=5
 .rw[Wb l];unfold W7;split
  .refine c _ rfl ?_;simp only;split<;>rfl
  .refine c _ rfl ?_;show(cX {x with l:=(Wv w.i x.l).2}).G=x.G;unfold cX;split
   .rfl
   .split<;>rfl
 rw[Wa l];by_cases m:x.g=6
 .rw[Wb m];split<;>exact c _ rfl rfl
 rw[Wa m];by_cases n:x.g=7
 .rw[Wb n];split
  .exact⟨.inl rfl,λ_ _ h=>Wh rfl h,λh=>Wh h d,λh=>Wh h e⟩
  .exact WuQ rfl rfl d e
 .rw[Wa n];exact c _ rfl rfl
end
section
variable{s:Sc}{w v:Wo}{n:Int}{a:Ac}{x y:Rt}{k:Nat}{p:Pg}{q:Wo×Rt}
theorem OO:∀{l} {i},lA k l i=true->∀(j) (h),i+j≠k->l[j].g=0\/l[j].g=8
 | [],i,_,j,h,_=>by simp at h
 |x::l,i,a,j,h,ar=>by
  rw[lA]at a;simp only[Xl,sH,Wg]at a;cases j with
  |zero=>
   rcases a.1 with b|b
   .exact Wh b (by simpa using ar)
   .exact b
  |succ j=>exact OO a.2 j (by simpa using h) Ω
structure TX(w:Wo):Prop where
 t1:∀(k:Nat) (h:k<w.c.length),w.c[k].g≠0->w.c[k].g≠8->w.c[k].G>=3->w.N=(k:Int)+1
 t2:∀(k:Nat) (h:k<w.c.length),w.N=(k:Int)+1->w.c[k].g≠0->∀(j:Nat) (h:j<w.c.length),j≠k->w.c[j].g=0\/w.c[j].g=8
theorem Wzo{b}(n:TX b)(A:LX b)(hk)(x:q.1.c=b.c)(e:TQ b k b.c[k] q):TX (Wo.put q k):=by
 have o:(q.1.c.set k q.2).length=b.c.length:=by rw[Xx,x]
 have t:∀(i:Nat) (C:i<b.c.length),(q.1.c.set k q.2)[i]'(by rw[o];exact C)=if k=i then q.2 else b.c[i]:=λi C=>by
  rw[fE];simp only[x]
 have v:b.c[k].g=8->q.2=b.c[k]:=λh=>by rw[e.done h]
 refine⟨λi C a f c=>?_,λi C c a j p s=>?_⟩
 .change i<(q.1.c.set k q.2).length at C;have l:i<b.c.length:=by rw[<-o];exact C
  change ((q.1.c.set k q.2)[i]'C).g≠0 at a;change ((q.1.c.set k q.2)[i]'C).g≠8 at f;change ((q.1.c.set k q.2)[i]'C).G>=3 at c;rw[t i l]at a f c;show q.1.N=(i:Int)+1;by_cases g:k=i
  .subst g;rw[Wb rfl]at a f c;by_cases d:b.c[k].g=0
   .rcases e.idle d with h|⟨z,B,u⟩
    .exact Wh h a
    .rw[u];rcases B with B|B
     .omega
     .exact B.1
   .by_cases h8:b.c[k].g=8
    .rw[v h8]at f;exact Wh h8 f
    .have sJ:=e.try1 d h8 a;have:=n.t1 k hk d h8 Ω;rcases e.tok with h|⟨h,_⟩|⟨_,_,h⟩
     .rw[h];exact this
     .exact h
     .exact Wh h f
  .rw[Wa g]at a f c;have:=n.t1 i l a f c;rcases e.tok with h|⟨_,h,_⟩|⟨h,_⟩
   .rw[h];exact this
   .omega
   .omega
 .change i<(q.1.c.set k q.2).length at C;change j<(q.1.c.set k q.2).length at p;have l:i<b.c.length:=by rw[<-o];exact C
  have r:j<b.c.length:=by rw[<-o];exact p
  change q.1.N=(i:Int)+1 at c;change ((q.1.c.set k q.2)[i]'C).g≠0 at a;show((q.1.c.set k q.2)[j]'p).g=0\/((q.1.c.set k q.2)[j]'p).g=8;rw[t i l]at a;rw[t j r];by_cases g:k=i
  .subst g;rw[Wb rfl]at a;rw[Wa (λh=>s h.symm)];by_cases d:b.c[k].g=0
   .rcases e.idle d with h|⟨z,B,u⟩
    .exact Wh h a
    .rcases B with B|B
     .rw[u,B.1]at c;omega
     .exact OO B.2 j r Ω
   .rcases e.tok with h|⟨_,_,h,_⟩|⟨_,h,_⟩
    .exact n.t2 k hk (by rw[<-h];exact c) d j r s
    .exact Wh h d
    .omega
  .rw[Wa g]at a;have w:b.N=(i:Int)+1:=by
    rcases e.tok with h|⟨h,_⟩|⟨_,h,_⟩
    .rw[<-h];exact c
    .omega
    .omega
   by_cases m:k=j
   .subst m;rw[Wb rfl];have y:=n.t2 i l w a k hk (λh=>g h);rcases y with d|h8
    .rcases e.idle d with h|⟨_,B,_⟩
     .exact .inl h
     .rcases B with B|B<;>omega
    .rw[v h8];exact .inr h8
   .rw[Wa m];exact n.t2 i l w a j r s
theorem WvG(h:WOk s.2.1 n w)(c:LX w)(f:TX w):TX (aq s w a):=by
 have d:TX {w with j:=w.j+1}:=⟨f.t1,f.t2⟩;have e:LX {w with j:=w.j+1}:=⟨λk b=>⟨(c.x k b).l,(c.x k b).no,(c.x k b).hd,(c.x k b).tk⟩,c.ow,c.hd,c.tk⟩;unfold aq;simp only;split
 .rename_i hb;have b:a.2.1.toNat<w.c.length:=Ω
  have same:∀y:Rt,y.g=w.c[a.2.1.toNat].g->y.G=w.c[a.2.1.toNat].G->w.c[a.2.1.toNat].g≠0->w.c[a.2.1.toNat].g≠8->TX (Wo.put ({w with j:=w.j+1},y) a.2.1.toNat):=λy l g i j=>
   Wzo (b:={w with j:=w.j+1}) d e b rfl ⟨.inl rfl,λ_ _ _=>g,λh=>Wh h i,λh=>Wh h j⟩
  rw[Wk b];split
  .unfold m9;rw[Wk (b)];exact Wzo (b:={w with j:=w.j+1}) d e b (qu h b) QN
  .split
   .split
    .rename_i hc;exact same _ rfl rfl Ω Ω
    .exact d
   .split
    .split
     .rename_i hc;exact same _ rfl rfl Ω Ω
     .exact d
    .exact d
 .exact d
theorem Wxm:∀(l:List Ac) (n) (w),WOk s.2.1 n w->WX w->LX w->TX w->TX (l.foldl (aq s) w)
 | [],n,w,h,c,b,ht=>ht
 |a::l,n,w,h,c,b,ht=>Wxm l (n+1) _ (nV (a:=a) h) (C3 (a:=a) h c).1 (Ld h c b) (WvG h b ht)
theorem WAb:TX (aX s):=by
 have e:∀(k:Nat) (h:k<(aX s).c.length),(aX s).c[k].g=0:=λk h=>by simp[aX,List.getElem_replicate]
 exact⟨λk h a=>Wh (e k h) a,λk h _ a=>Wh (e k h) a⟩
end
section
variable{w:Wo}{n:Int}{x y:Rt}{k:Nat}{p:Pg}{f g:Fm}{m:Mm}
theorem Rg(a:x.g=2):WC p x=if x.n.Ey=true then(x.y.length:Int)+3 else 73-3*x.k+j3 x.n+cY x:=by unfold WC;rw[Wa Ω,Wb a]
theorem WAX{i}(d:FmR f i g){b}(e:0<=b)(h:∀(j) (h:j<f.κ.length) (h'),cd g.κ[j]=1->fP g g.κ[j]+fQ g<=b):j3 g<=b:=by
 refine Lr e λz l c=>?_;obtain⟨j,a,k⟩:=cN l;rw[<-k]at c|-;exact h j (by rw[<-d.len];exact a) a c
theorem PX(g:POk p)(G:ROk p n x)(F:RT x)(d:x.g=2)(u:x.n.Ey≠true)(E:ig x.n≠true)(D:W4 m=true):
  WC p {x with n:=kK m p.2 p.2.length 0 x.n}<WC p x:=by
 have r:=G.Ev Ω;have P:=r.Ez;have K:=g.Y.len;obtain⟨L,M,o⟩:=r.V d;have s:=(F.n d).resolve_left u;have H:=λc B=>(g.κ c B).toCC.len;have e:=Wu2 D g.κ g.k3 p.2.length 0 n x.n Ω o s;have N:1<=j3 x.n:=by
  have:∃z∈x.n.κ,z.g≠3:=by
   apply Classical.byContradiction;intro y;apply E;unfold ig;rw[cS];intro z l;by_cases q:z.g=3
   .simpa using q
   .exact Wh ⟨z,l,q⟩ y
  obtain⟨z,l,I⟩:=this;obtain⟨j,t,C⟩:=cN l;have i:cd x.n.κ[j]=1:=ux (by rw[C];exact I);have a:=WDJ o H s t i;have b:=RE (f:=x.n) _ (Xm t) i;unfold j3;omega
 rw[Rg d,Wa u,Rg (x:={x with n:=kK m p.2 p.2.length 0 x.n}) d];show(if(kK m p.2 p.2.length 0 x.n).Ey=true then(x.y.length:Int)+3 else 73-3*x.k+j3 (kK m p.2 p.2.length 0 x.n)+cY x)<_;split
 .unfold cY;omega
 .rename_i kZ;have e:=e.resolve_left kZ;have:j3 (kK m p.2 p.2.length 0 x.n)<=j3 x.n-1:=WAX e Ω λj h A i=>by
   obtain⟨v,J,w⟩:=e.p j h A i;have b:=RE (f:=x.n) _ (Xm h) v;rcases w Ω with c|⟨_,k,O,_⟩
   .unfold j3;omega
   .omega
  omega
end
section

end
section
section
variable{N:Nat}{s:Sc}{p:Pg}{w:Wo}{n:Int}{a:Ac}{k:Nat}
theorem WxQ{R}{b:Int->Bool->Int->Int->Int->Int->Kw->Ki->Kw->(List Y_Root)->Kaj->Option R}(l:s.2.2.length<=1000)(c:1048576<N):
  ∀(d j n) (m) (w),j+d=s.2.2.length->d<n->WOk s.2.1 m w->m+d<=90000->
  yT N s.2.2 s b n (j:Int) w.j w.N w.i.1 w.D.2 w.i.2 w.D.1 w.a (w.c.map Rt.e) w.C=
   (λv:Wo=>b (s.2.2.length:Int) false v.j v.N v.i.1 v.D.2 v.i.2 v.D.1 v.a (v.c.map Rt.e) v.C) ((s.2.2.drop j).foldl (aq s) w):=by
 intro d
 induction d with
 |zero=>
  intro j n m w f i h g;obtain⟨n,rfl⟩:∃e,n=e+1:=⟨n-1,Ω⟩;have:j=s.2.2.length:=Ω
  subst this;simp[yT,W0 (Xj _),Wc,p6,Xgz]
 |succ d ih=>
  intro j n m w f i h g;obtain⟨n,rfl⟩:∃e,n=e+1:=⟨n-1,Ω⟩;have a:j<s.2.2.length:=Ω
  have k:(w.j,(w.N,((w.i.1,w.i.2),((w.D.1,w.D.2),(w.a,(w.c.map Rt.e,w.C))))))=w.e:=rfl;simp only[yT,WM a,Wp a,Wu a,Wl (j:=j),We,k];rw[Re h Ω c,HN a,eM];exact ih (j+1) n (m+1) _ Ω Ω (nV h) Ω
theorem WuL(g:SB s)(a:1048576<N):F2 N s=ret (if dF s=true then(kL s).e else d_World):=by
 unfold F2;simp only[Wm];rw[Gc g a];cases b:dF s with
 |false=>rfl
 |true=>
  obtain⟨e,r,t,u⟩:=rP b;have f:=Hg b;have h:=Rh s.2.1 Ω;rw[WiD e.map.1 e.map.2 a,Wld (uy.2 e.S) a];simp only[ret,Xd,h,We,C8];have c:=WxQ (s:=s) (N:=N) (b:=λv w l j m n d o p q k=>(some ((),((l,(j,((m,d),((o,n),(p,(q,k)))))),())):Option (Unit×(Y_World×Unit)))) Ω a s.2.2.length 0 N 0 (aX s) Ω Ω f Ω;have i:((aX s).c.map Rt.e)=Xp s.2.1.length d_Root:=by
   unfold aX;simp only[List.map_replicate];rfl
  rw[i]at c;refine c.trans ?_;rfl
end
variable{N:Nat}{s:Sc}{w:Wo}{n:Int}{a:Ac}
end
section
def fX(s:Sc)(k:Nat):Nat->Nat->Wo->Wo
 |0,_,w=>w
 |d+1,j,w=>fX s k d (j+1) (aq s w (2,(k:Int),(j:Int)))
def fo(s:Sc):Nat->Nat->Wo->Wo
 |0,_,w=>w
 |d+1,i,w=>fo s d (i+1) (fX s i (s.2.1.getD i pg0).2.length 0 (aq s w (1,(i:Int),0)))
def hL(w:Wo):Bool:=w.c.all λx=>decide (x.g=8)
def fq(s:Sc):Nat->Wo->Wo×Nat
 |0,w=>(w,0)
 |d+1,w=>if hL w=true then(w,0)else((fq s d (fo s s.2.1.length 0 w)).1,(fq s d (fo s s.2.1.length 0 w)).2+1)
variable{s:Sc}{w v:Wo}{n:Int}{k N:Nat}
theorem QL:∀(d j:Nat) (n) (w),WOk s.2.1 n w->WOk s.2.1 (n+d) (fX s k d j w)
 |0,_,n,w,h=>by grind [fX]
 |d+1,j,n,w,h=>by
  have:=QL d (j+1) (n+1) _ (nV (a:=(2,(k:Int),(j:Int))) h)
  grind [fX]
theorem WA5{R}{d}{b1 e c b}{oE}{a:Ka9 R}(h:1048576<N)(hk)(p:s.2.1[k].2.length<=3):
  ∀(r j t) (n) (w),j+r=s.2.1[k].2.length->r<t->WOk s.2.1 n w->n+r<=99999->
  A5 N d (k:Int) s.2.1 oE s b1 e c b a t (j:Int) w.j w.N w.i.1 w.D.2 w.i.2 w.D.1 w.a (w.c.map Rt.e) w.C=
  a (s.2.1[k].2.length:Int) false (fX s k r j w).j (fX s k r j w).N (fX s k r j w).i.1 (fX s k r j w).D.2 (fX s k r j w).i.2 (fX s k r j w).D.1 (fX s k r j w).a ((fX s k r j w).c.map Rt.e) (fX s k r j w).C:=by
 intro r;have g:Xc s.2.1 (Xb (k:Int)) (([]:List Ka),([]:List Kaf))=s.2.1[k]:=Wu hk _
 induction r with
 |zero=>
  intro j t n w l i q m;obtain⟨f,rfl⟩:∃f,t=f+1:=⟨t-1,Ω⟩;have:decide ((j:Int)<Wi s.2.1[k].2)=false:=Wj (by unfold Wi;omega);simp only[A5,Wm,g,this,Wc,fX];rw[show(j:Int)=(s.2.1[k].2.length:Int) by omega]
 |succ r ih=>
  intro j t n w l i q m;obtain⟨f,rfl⟩:∃f,t=f+1:=⟨t-1,Ω⟩;have:decide ((j:Int)<Wi s.2.1[k].2)=true:=Wf (by unfold Wi;omega);have o:=Re (a:=(2,(k:Int),(j:Int))) q Ω h;simp only[A5,Wm,g,this,We];rw[show((w.j,(w.N,((w.i.1,w.i.2),((w.D.1,w.D.2),(w.a,(w.c.map Rt.e,w.C)))))):Y_World)=w.e from rfl,o];simp only[Xd,Wl (j:=j)];rw[fX];exact ih (j+1) f (n+1) _ Ω Ω (nV q) Ω
theorem pk3(h:WOk s.2.1 n w){i}(a:i<s.2.1.length):(s.2.1.getD i pg0).2.length<=3:=(uX h.O a).k3
theorem Yv:∀(d i) (n) (w),i+d=s.2.1.length->WOk s.2.1 n w->∃e,n<=e/\e<=n+4*d/\WOk s.2.1 e (fo s d i w)
 |0,_,n,w,g,h=>⟨n,Ω,Ω,by rw[fo];exact h⟩
 |d+1,i,n,w,g,h=>by
  have f:=QL (k:=i) (s.2.1.getD i pg0).2.length 0 (n+1) _ (nV (a:=(1,(i:Int),0)) h);have j:=pk3 h (i:=i) Ω;obtain⟨e,a,b,c⟩:=Yv d (i+1) _ _ Ω f
  grind [fo]
theorem Wys{R}{d}{b1 e c b}{a:Ka9 R}(m:1048576<N)(G:s.2.1.length<=4):
  ∀(K i L) (n) (w),i+K=s.2.1.length->K<L->WOk s.2.1 n w->n+4*K<=99999->
  yo N d s.2.1 s b1 e c b a L (i:Int) w.j w.N w.i.1 w.D.2 w.i.2 w.D.1 w.a (w.c.map Rt.e) w.C=
  a (s.2.1.length:Int) false (fo s K i w).j (fo s K i w).N (fo s K i w).i.1 (fo s K i w).D.2 (fo s K i w).i.2 (fo s K i w).D.1 (fo s K i w).a ((fo s K i w).c.map Rt.e) (fo s K i w).C:=by
 intro K
 induction K with
 |zero=>
  intro i L n w r q g u;obtain⟨f,rfl⟩:∃f,L=f+1:=⟨L-1,Ω⟩;simp_all [yo,W0,Xj,Wc,fo]
 |succ K ih=>
  intro i L n w r q g u;obtain⟨f,rfl⟩:∃f,L=f+1:=⟨L-1,Ω⟩;have J:i<s.2.1.length:=Ω
  have v:=Re (a:=(1,(i:Int),0)) g Ω m;have o:s.2.1.getD i pg0=s.2.1[i]:=Wk J _;have l:=pk3 g J;rw[o]at l;have h:=nV (a:=(1,(i:Int),0)) g;have t:=WA5 (R:=R) (d:=d) (b1:=b1) (e:=e) (c:=c) (b:=b) (oE:=Wi s.2.1)
   (a:=λH I z A B C D E x F y=>(yo N d s.2.1 s b1 e c b a f (Ws .i64 (i:Int) (1:Int)) z A B C D E x F y)) m J l s.2.1[i].2.length 0 N (n+1) _ Ω Ω h Ω
  have p:=QL (k:=i) s.2.1[i].2.length 0 (n+1) _ h;simp only[yo,WM J,Wp J,We];rw[show((w.j,(w.N,((w.i.1,w.i.2),((w.D.1,w.D.2),(w.a,(w.c.map Rt.e,w.C)))))):Y_World)=w.e from rfl,v];simp only[Xd];refine t.trans ?_;simp only[Wl (j:=i)];rw[fo,o];exact ih (i+1) f _ _ Ω Ω p Ω
theorem Qc(m:w.c.length<=4)(q:1048576<N):IM N w.e=ret (hL w):=by
 unfold IM SI Z1;have f:w.e.2.2.2.2.2.1=w.c.map Rt.e:=rfl;rw[f];have s:(w.c.map Rt.e).length<=4:=by simpa using m
 have g:=WF (l:=w.c.map Rt.e) (V:=Unit) (R:=Unit×Kk) (c:=λn j _=>Zl N (w.c.map Rt.e) (λd=>(some ((),(d,())))) (λp o=>(some ((),((-1:Int),())))) n j) (n:=N) Ω
  (b:=λj x v k=>bif (x.1 !=8)then some ((),(j,()))else k v) (K:=λ_ v=>some ((),((-1:Int),())))
  (λn i u c=>by
   simp only[Zl,Tn,WM c,Wp c,Wu c,Wl (j:=i),We,Xd])
  (λn u=>by simp only[Zl,W0 (Xj _),Wc]) ()
 have h:∀(l:List Y_Root) (j:Nat),∃r:Int,eP (λ(j:Int) (x:Y_Root) (v:Unit) (k:Unit->Option Kx)=>bif (x.1 !=8)then some ((),(j,()))else k v) (λ_ v=>some ((),((-1:Int),()))) l j ()=some ((),(r,()))/\(decide (r>=0)= !(l.all λx=>x.1==8)):=λl=>by
  induction l with
  |nil=>intro j;exact⟨-1,rfl,rfl⟩
  |cons x l ih=>
   intro j;rw[eP];cases hx:x.1==8 with
   |true=>
    have:(x.1 !=8)=false:=by rw[bne,hx];rfl
    simp only[this,Wc];obtain⟨r,a,b⟩:=ih (j+1);exact⟨r,a,by rw[b,o4,hx];rfl⟩
   |false=>
    have:(x.1 !=8)=true:=by rw[bne,hx];rfl
    simp only[this,We];exact⟨j,rfl,by rw[o4,hx];simp⟩
 obtain⟨r,a,b⟩:=h (w.c.map Rt.e) 0;rw[g.trans a];simp only[Xd,b,Bool.not_not];have:((w.c.map Rt.e).all λx=>x.1==8)=hL w:=by
  unfold hL;rw[List.all_map];congr 1
 rw[this]
theorem Wzb{R}{a:Ka9 R}(k:1048576<N)(m:s.2.1.length<=4):
  ∀(d r g:Nat) (n) (w),r+d=6000->d<g->WOk s.2.1 n w->n+16*d<=99999->
  yp N s a g (r:Int) w.j w.N w.i.1 w.D.2 w.i.2 w.D.1 w.a (w.c.map Rt.e) w.C=
  (λv:Wo×Nat=>a ((r+v.2:Nat):Int) false v.1.j v.1.N v.1.i.1 v.1.D.2 v.1.i.2 v.1.D.1 v.1.a (v.1.c.map Rt.e) v.1.C) (fq s d w):=by
 intro d
 induction d with
 |zero=>
  intro r g n w q o h p;obtain⟨f,rfl⟩:∃f,g=f+1:=⟨g-1,Ω⟩;have l:w.c.length<=4:=by rw[h.len];exact m
  simp only[yp];rw[show((w.j,(w.N,((w.i.1,w.i.2),((w.D.1,w.D.2),(w.a,(w.c.map Rt.e,w.C)))))):Y_World)=w.e from rfl,Qc l k];have i:decide ((r:Int)<6000)=false:=Wj Ω;simp only[ret,Xd,i,Wc,fq,Nat.add_zero];cases hL w<;>rfl
 |succ d ih=>
  intro r g n w q o h p;obtain⟨f,rfl⟩:∃f,g=f+1:=⟨g-1,Ω⟩;have l:w.c.length<=4:=by rw[h.len];exact m
  simp only[yp];rw[show((w.j,(w.N,((w.i.1,w.i.2),((w.D.1,w.D.2),(w.a,(w.c.map Rt.e,w.C)))))):Y_World)=w.e from rfl,Qc l k];have i:decide ((r:Int)<6000)=true:=Wf Ω;simp only[ret,Xd,i,We,fq];cases ho:hL w with
  |true=>rfl
  |false=>
   simp only[Bool.not_false,We,Bool.false_eq_true,jN];obtain⟨u,e,b,c⟩:=Yv s.2.1.length 0 n w Ω h;have t:=Wys (s:=s) (R:=R) (d:=Ws .i64 (r:Int) 1) (b1:=0) (e:=0) (c:=0) (b:=0)
    (a:=λG H x y z A B C D E F=>(yp N s a f (Ws .i64 (r:Int) (1:Int)) x y z A B C D E F)) k m s.2.1.length 0 N n w Ω Ω h Ω
   refine t.trans ?_;simp only[Wl (j:=r)];rw[ih (r+1) f u _ Ω Ω c Ω];simp[show r+1+(fq s d (fo s s.2.1.length 0 w)).2=r+((fq s d (fo s s.2.1.length 0 w)).2+1) by omega]
theorem Wug(c:SB s)(b:1048576<N)(a:dF s=true):yU N s=some ((),((fq s 6000 (kL s)).1.e,(((fq s 6000 (kL s)).2:Int),()))):=by
 obtain⟨r,t,u,v⟩:=rP a;have f:=Qr a;have g:=WuL c b;unfold yU;rw[Gc c b,a];simp only[ret,Xd,Xu,Wc];rw[g,Wb a];simp only[ret,Xd];have q:(s.2.2.length:Int)<=400:=Ω
 have:=Wzb (s:=s) (N:=N) (a:=λd w i j h k l m n o p=>(some ((),((i,(j,((h,l),((m,k),(n,(o,p)))))),(d,()))):Option (Unit×(Y_World×Kk)))) b Ω 6000 0 N _ (kL s) Ω Ω f Ω;refine this.trans ?_;simp only[d4];rfl
end
section
section
variable{N:Nat}{w:Wo}{a b k:Nat}{x:Rt}{m:Mm}{l:List Int}{T:Tg}
theorem Ql{a}(h:a.length<=1048576)(g:1048576<N):tA N a a=ret true:=by
 unfold tA;have e:(Wi a !=Wi a)=false:=Δ
 rw[e];simp only[Wc];have d:=WF (l:=a) (V:=Unit) (R:=Unit×Ks) (c:=λn j _=>vA N a a (some ((),(false,()))) (λm o=>some ((),(true,()))) n j) (n:=N) Ω
  (b:=λj x v k=>k v) (K:=λ_ v=>some ((),(true,())))
  (λn i v b=>by
   have c:(a[i] !=a[i])=false:=Δ
   simp[vA,WM b,Wp b,Wu b,Wl (j:=i),We,c,Wc])
  (λn v=>by simp[vA,W0,Xj,Wc]) ()
 refine d.trans ?_;rw[zv (f:=λv _=>v) a 0 () (λj x v k _=>rfl)]
theorem ZO(b:ThOk T)(a:1048576<N):EZ N T T=ret true:=by
 unfold EZ;rw[Ql (by have:=b.S.len;omega) a];simp only[ret,Xd,We];rw[Ql (by have:=b.map.1;omega) a];simp[ret,Xd,We,beq_self_eq_true]
theorem WyL(b:W4 m=true)(e:1048576<N):FN N m=ret (m.2.map (·.1)):=by
 obtain⟨o,_,_,_⟩:=WK b;unfold FN;rw[WmV Ω e,b];simp only[ret,Xd,Xu,Wc];have d:=WF (l:=m.2) (V:=List Int) (R:=Unit×(List Int×Unit)) (c:=λn j v=>BW N m (λh g c=>(some ((),(c,())))) n j v) (n:=N) Ω
  (b:=λj x v k=>bif WH (v.length+ [x.1].length)then k (List.append v [x.1])else none) (K:=λ_ v=>ret v)
  (λn i v a=>by simp only[BW,WM a,Wp a,Wu a,Wl (j:=i),We])
  (λn v=>by simp[BW,W0,Xj,Wc]) []
 refine d.trans ?_;rw[zt (f:=λx:Int×Int×Int=>x.1) m.2 0 [] Φ (λj x v k _=>rfl)];rfl
theorem WAo(h:SlOk l)(f:1048576<N):FU N l=ret ((bJ 8).map λi:Nat=>WE l (i:Int)):=by
 unfold FU;rw[Um h f];simp only[ret,Xd,Xu,Wc];have m:∀(d j a:Nat),j+d=8->d<a->B5 N l (λr q k=>(some ((),(k,())))) a (j:Int) ((bJ j).map λi:Nat=>WE l (i:Int))=ret ((bJ 8).map λi:Nat=>WE l (i:Int)):=by
  intro d
  induction d with
  |zero=>
   intro j a o n;obtain⟨g,rfl⟩:∃g,a=g+1:=⟨a-1,Ω⟩;have:j=8:=Ω
   subst this;rfl
  |succ d b=>
   intro j a o n;obtain⟨g,rfl⟩:∃g,a=g+1:=⟨a-1,Ω⟩;have b:=b (j+1) g Ω Ω;rw[L2,Xw,L0]at b;have s:=JZ l (j:Int);have p:∀z:Int,WH ((Xa ((bJ j).map λi:Nat=>WE l (i:Int)))+(Xa [z]))=true:=λz=>Ww Φ;rw[B5,Wf Ω,We,Wlp h ⟨Ω,Ω⟩ f];simp only[Xd,p,We,Wl (j:=j)];by_cases c:WE l (j:Int)=0
   .rw[Wj (by simp[c]),Wc,Wb c];rw[c]at b;exact b
   .rw[Wf c,We,Wa c];have e:Ws .i64 (WE l (j:Int) -1) 1=WE l (j:Int):=by
     rw[WB Λ];omega
    rw[e];exact b
 exact m 8 0 N Ω Ω
theorem WzL(o:w.c.length<=4)(p:1048576<N):Cz N w.e=ret (hL w):=by
 unfold Cz;have i:w.e.2.2.2.2.2.1=w.c.map Rt.e:=rfl;have q:(w.c.map Rt.e).length<=4:=by simpa using o
 have l:∀(d j a:Nat),j+d=w.c.length->d<a->BZ N w.e (some ((),(false,()))) (λr s=>(some ((),(true,())))) a (j:Int)=ret ((w.c.drop j).all λx=>decide (x.g=8)):=by
  intro d
  induction d with
  |zero=>
   intro j a n m;obtain⟨g,rfl⟩:∃g,a=g+1:=⟨a-1,Ω⟩;have:j=w.c.length:=Ω
   subst this;have k:w.c.length=(w.c.map Rt.e).length:=Δ
   rw[BZ,i,k,W0 (Xj _),Wc,<-k,p6];rfl
  |succ d f=>
   intro j a n m;obtain⟨g,rfl⟩:∃g,a=g+1:=⟨a-1,Ω⟩;have f:=f (j+1) g Ω Ω;have h:j<w.c.length:=Ω
   have b:j<(w.c.map Rt.e).length:=by simpa using h
   rw[BZ,i,WM b,Wp b,Wu b,eZ,HN h,o4];simp only[We,Wl (j:=j),show(Rt.e w.c[j]).1=w.c[j].g from rfl];by_cases c:w.c[j].g=8
   .rw[c,show((8:Int) !=8)=false from rfl,Wc,f];simp
   .rw[show(w.c[j].g !=(8:Int))=true by simpa using c,We,Wj c];rfl
 have:=l w.c.length 0 N Ω Ω;rw[List.drop_zero]at this;refine Eq.trans this ?_;unfold hL;rfl
theorem rV(a:k<w.c.length):Xc (w.c.map Rt.e) (Xb (k:Int)) d_Root=Rt.e (rw' w k):=by
 rw[Xf,Wk (show k<(w.c.map Rt.e).length by simpa using a),eZ,kM a]
theorem vc(a:k<w.c.length):inb (k:Int) (w.c.map Rt.e).length=true:=Wp (by simpa using a)
theorem WuC(o:a<w.c.length)(q:b<w.c.length):MN N w.e (a:Int) (b:Int)=ret (decide (cfR w a b<0)):=by
 unfold MN;have v:P5 w.e=w.c.map Rt.e:=rfl;have u:∀x:Rt,P4 x.e=x.u:=λ_=>rfl;have B:∀x:Rt,P10 x.e=x.EB:=λ_=>rfl;simp only[Wm,v,vc o,vc q,We,rV o,rV q,WnQ,ret,Xd,u,B];have r:∀x:Rt,(Wn x==x.u)=decide (noW x=1):=λx=>by
  unfold noW;by_cases h:Wn x=x.u
  .rw[Wb h,h];simp
  .rw[Wa h,show(Wn x==x.u)=false by simpa using h];rfl
 have j:∀x:Rt,noW x=0\/noW x=1:=λx=>by unfold noW;split<;>simp
 rw[r,r];have d:=nW (w:=w) (a:=a) (b:=b);have y:=j (rw' w a);have A:=j (rw' w b);generalize Wn (rw' w a)=s at*;generalize Wn (rw' w b)=i at*;generalize noW (rw' w a)=n at*;generalize noW (rw' w b)=f at*;generalize (rw' w a).EB=e at*;generalize (rw' w b).EB=g at*;have c:∀p:Bool,(p=true↔cfR w a b<0)->(some ((),p,()):Option Kh)=some ((),(decide (cfR w a b<0),())):=λp t=>by
  have:p=decide (cfR w a b<0):=by
   cases p
   .symm;rw[WD];intro z;exact Wh (t.2 z) Δ
   .symm;rw[Wg];exact t.1 rfl
  rw[this]
 by_cases k:s=i
 .rw[show(s !=i)=false by simpa using k,Wc];by_cases l:n=f
  .rw[show(!beq (decide (n=1)) (decide (f=1)))=false by rw[l];cases decide (f=1)<;>rfl,Wc];by_cases m:e=g
   .rw[show(e !=g)=false by simpa using m,Wc];exact c _ (by rw[Wg,d];omega)
   .rw[show(e !=g)=true by simpa using m,We];exact c _ (by rw[Wg,d];omega)
  .rw[show(!beq (decide (n=1)) (decide (f=1)))=true by
    rcases y with rfl|rfl<;>rcases A with rfl|rfl<;>first|rfl|exact Wh rfl l,We]
   exact c _ (by rw[Wg,d];omega)
 .rw[show(s !=i)=true by simpa using k,We];exact c _ (by rw[Wg,d];omega)
end
end
section
section
variable{N:Nat}{w:Wo}{a b k:Nat}{R:Type}
def pH(w:Wo)(a:Nat):Nat:=(slR w).countP λb=>decide (cfR w b a<0)
theorem Wwk:(slR w).Nodup:=List.nodup_range.filter _
theorem G4:(slR w).Perm (rks w):=(List.perm_ext_iff_of_nodup Wwk JS).2 λk=>Hk.trans (m8.2 k).symm
theorem pn:(rks w).length=(slR w).length:=G4.length_eq.symm
theorem Ra{m}(h):pH w (rks w)[m]=m:=by
 unfold pH;rw[G4.countP_eq];have c:=fh.1 (m8 (w:=w)).1;have g:∀u,(rks w).countP (λb=>decide (cfR w b u<0))=((rks w).take m++(rks w).drop m).countP (λb=>decide (cfR w b u<0)):=λu=>by rw[List.take_append_drop]
 rw[g];rw[Xga,List.countP_eq_length.2 λb a=>?_,List.countP_eq_zero.2 λb a=>?_,gv]
 .omega
 .obtain⟨i,f,e⟩:=List.mem_drop_iff_getElem.1 a;rw[<-e,Wg];intro z;by_cases d:i=0
  .subst d;exact sB.irr _ z
  .exact sB.irr _ (sB.tr _ _ _ (c m (m+i) h Ω Ω) z)
 .obtain⟨i,f,e⟩:=HS.1 a;rw[<-e,Wg];exact c i m Ω h Ω
theorem Wsr{c:Nat->Nat}:∀(l:List Nat) (o:List Int),(∀a∈l,∀b∈l,c a=c b->a=b)->(∀a∈l,c a<o.length)->(l.foldl (λo a=>o.set (c a) (a:Int)) o).length=o.length/\∀a∈l,(l.foldl (λo a=>o.set (c a) (a:Int)) o)[c a]?=some (a:Int)
 | [],o,_,_=>⟨rfl,λa d=>by cases d⟩
 |x::l,o,h,hl=>by
  have g:∀(m:List Nat) (o:List Int) (p:Nat),(∀b∈m,c b≠p)->(m.foldl (λo a=>o.set (c a) (a:Int)) o)[p]?=o[p]?:=λm=>by
   induction m with
   |nil=>intro o p _;rfl
   |cons y m ih=>
    intro o p i;rw[eM,ih _ _ λb f=>i b (Xe _ f),ly (i y (Xg ..))]
  obtain⟨j,k⟩:=Wsr l (o.set (c x) (x:Int)) (λa d b f=>h a (Xe _ d) b (Xe _ f)) λa d=>by rw[Xx];exact hl a (Xe _ d)
  refine⟨by rw[eM,j,Xx],λa d=>?_⟩;rw[eM];by_cases e:a∈l
  .exact k a e
  .rcases Xr.1 d with rfl|d
   .rw[g l _ _ λb f z=>e (by rw[<-h b (Xe _ f) a (Xg ..) z];exact f)];rw[List.getElem?_set_self (hl a (Xg ..))]
   .exact Wh d e
theorem Wyq:(slR w).foldl (λo a=>o.set (pH w a) (a:Int)) (Xp (slR w).length 0)=(rks w).map λk:Nat=>(k:Int):=by
 have g:∀a,a∈slR w->∃m,∃h:m<(rks w).length,(rks w)[m]=a/\pH w a=m:=λa d=>by
  obtain⟨m,f,e⟩:=cN ((G4 (w:=w)).mem_iff.1 d);exact⟨m,f,e,by rw[<-e,Ra f]⟩
 obtain⟨l,q⟩:=Wsr (c:=pH w) (slR w) (Xp (slR w).length 0) (λa d b s e=>by
  obtain⟨m,f,n,j⟩:=g a d;obtain⟨c,u,p,t⟩:=g b s;have:m=c:=Ω
  subst this;exact n.symm.trans p) λa d=>by
  obtain⟨m,f,_,j⟩:=g a d;rw[yh,j,<-pn];exact f
 rw[yh]at l;refine D6 (by rw[l,aP,pn]) λm r i=>?_;rw[aP]at i;have:=q (rks w)[m] ((G4 (w:=w)).mem_iff.2 (Xm i));rw[Ra i,List.getElem?_eq_getElem r]at this;rw[eZ];exact Option.some.inj this
theorem WzA(m:w.c.length<=4){c:Int->Bool->List Int->Option R}:∀(o j a),j+o=w.c.length->o<a->yN N w.e c a (j:Int) (((bJ j).filter λk=>stl (rw' w k)).map λk:Nat=>(k:Int))=c (w.c.length:Int) false ((slR w).map λk:Nat=>(k:Int))
 |0,j,a,l,hf=>by
  obtain⟨g,rfl⟩:∃g,a=g+1:=⟨a-1,Ω⟩;have:j=w.c.length:=Ω
  subst this;have e:w.e.2.2.2.2.2.1=w.c.map Rt.e:=rfl;have i:w.c.length=(w.c.map Rt.e).length:=Δ
  rw[yN,e]
  conv=>lhs;rw[i]
  rw[W0 (Xj _),Wc,<-i];rfl
 |o+1,j,a,l,hf=>by
  obtain⟨g,rfl⟩:∃g,a=g+1:=⟨a-1,Ω⟩;have f:j<w.c.length:=Ω
  have e:w.e.2.2.2.2.2.1=w.c.map Rt.e:=rfl;have h:j<(w.c.map Rt.e).length:=by simpa using f
  have b:=WzA m (c:=c) o (j+1) g Ω Ω;rw[L2,vn,Xw]at b;have n:WH ((Xa (((bJ j).filter λk=>stl (rw' w k)).map λk:Nat=>(k:Int)))+(Xa [(j:Int)]))=true:=Ww (by
   have:=Sm (λk=>stl (rw' w k)) (bJ j);simp at this|-;omega)
  rw[yN,e,WM h,Wp h,rV f,Uf];simp only[We,ret,Xd,n,Wl (j:=j)];cases d:stl (rw' w j)with
  |true=>
   simp only[io,d,L4,gp,bo,d6]at b;exact b
  |false=>
   simp only[io,d,L4]at b;rw[Wa Δ,d6,rb]at b;exact b
theorem WzT{j}(h:j<(slR w).length):(slR w)[j]<w.c.length:=(Hk.1 (Xm h)).1
theorem po(a:w.c.length<=4):(slR w).length<=4:=by
 have:=Sm (λk=>stl (rw' w k)) (bJ w.c.length);unfold slR;simp at this|-;omega
theorem Wz4(q:w.c.length<=4){i}(x:i<(slR w).length){d}{c:Ka7 R}:∀(v j a),j+v=(slR w).length->v<a->vM N (i:Int) w.e ((slR w).map λk:Nat=>(k:Int)) d c a ((((slR w).take j).countP λb=>decide (cfR w b (slR w)[i]<0):Nat):Int) (j:Int)=c (pH w (slR w)[i]:Int) ((slR w).length:Int) false
 |0,j,a,s,hf=>by
  obtain⟨g,rfl⟩:∃g,a=g+1:=⟨a-1,Ω⟩;have:j=(slR w).length:=Ω
  subst this;have o:(slR w).length=((slR w).map λk:Nat=>(k:Int)).length:=Δ
  rw[vM,jz]
  conv=>lhs;rw[o]
  rw[W0 (Xj _),Wc,<-o];rfl
 |v+1,j,a,s,hf=>by
  obtain⟨g,rfl⟩:∃g,a=g+1:=⟨a-1,Ω⟩;have h:j<(slR w).length:=Ω
  have m:j<((slR w).map λk:Nat=>(k:Int)).length:=by simpa using h
  have n:i<((slR w).map λk:Nat=>(k:Int)).length:=by simpa using x
  have u:=po q;have e:=Wz4 q x (d:=d) (c:=c) v (j+1) g Ω Ω;rw[pO h,Xga,List.countP_singleton]at e;have r:=H1 (p:=λb=>decide (cfR w b (slR w)[i]<0)) (l:=(slR w).take j);rw[gv]at r;rw[vM,WM m,We];by_cases t:j=i
  .subst t;rw[show((j:Int) !=(j:Int))=false by simp,Wc,Wl];rw[Wa (by rw[Wg];exact sB.irr _)]at e;exact e
  .rw[show((j:Int) !=(i:Int))=true by simp;omega,We,Wp m,Wp n,Wu m,Wu n,eZ,eZ,WuC (WzT h) (WzT x)];simp only[We,ret,Xd,Wl (j:=j)];by_cases f:cfR w (slR w)[j] (slR w)[i]<0
   .rw[Wb (by rw[Wg];exact f)]at e;rw[Wf f,We,Wl];exact e
   .rw[Wa (by rw[Wg];exact f)]at e;rw[Wj f,Wc];exact e
theorem WzN(s:1048576<N)(i:w.c.length<=4){d:Int->Bool->List Int->Option R}:∀(z j b),j+z=(slR w).length->z<b->vS N w.e ((slR w).map λk:Nat=>(k:Int)) d b (j:Int) (((slR w).take j).foldl (λo a=>o.set (pH w a) (a:Int)) (Xp (slR w).length 0))=d ((slR w).length:Int) false ((rks w).map λk:Nat=>(k:Int))
 |0,j,b,t,hf=>by
  obtain⟨g,rfl⟩:∃g,b=g+1:=⟨b-1,Ω⟩;have:j=(slR w).length:=Ω
  subst this;have l:(slR w).length=((slR w).map λk:Nat=>(k:Int)).length:=Δ
  rw[vS,jz,Wyq]
  conv=>lhs;rw[l]
  rw[W0 (Xj _),Wc,<-l]
 |z+1,j,b,t,hf=>by
  obtain⟨g,rfl⟩:∃g,b=g+1:=⟨b-1,Ω⟩;have c:j<(slR w).length:=Ω
  have h:j<((slR w).map λk:Nat=>(k:Int)).length:=by simpa using c
  have x:=po i;have f:=WzN s i (d:=d) z (j+1) g Ω Ω;rw[pO c,p7,eM,Xgz]at f;have q:∀(m:List Nat) (o:List Int),(m.foldl (λo a=>o.set (pH w a) (a:Int)) o).length=o.length:=λm=>by
   induction m with
   |nil=>intro o;rfl
   |cons a m f=>intro o;rw[eM,f,Xx]
  have u:pH w (slR w)[j]<(slR w).length:=by
   obtain⟨m,n,e⟩:=cN ((G4 (w:=w)).mem_iff.1 (Xm c));rw[<-e,Ra n,<-pn];exact n
  have r:=Wz4 (N:=N) i c (d:=((slR w).take j).foldl (λo a=>o.set (pH w a) (a:Int)) (Xp (slR w).length 0)) (c:=λp v y=>
  (bif inb (j:Int) (Xa ((slR w).map λk:Nat=>(k:Int)))then
 (bif inb p (Xa (((slR w).take j).foldl (λo a=>o.set (pH w a) (a:Int)) (Xp (slR w).length 0)))then
 (vS N w.e ((slR w).map λk:Nat=>(k:Int)) d g (Ws .i64 (j:Int) (1:Int)) (Xi (((slR w).take j).foldl (λo a=>o.set (pH w a) (a:Int)) (Xp (slR w).length 0)) (Xb p) (Xc ((slR w).map λk:Nat=>(k:Int)) (Xb (j:Int)) (0:Int))))else none)else none)) (slR w).length 0 N Ω Ω
  rw[vS,WM h,We];refine Eq.trans r ?_;simp only[Wp h,We,d8,q,yh,Wf u,Xf,Wl (j:=j)];rw[Wk h,eZ];exact f
theorem J0(f:1048576<N)(b:w.c.length<=4):wc N w.e=ret ((rks w).map λk:Nat=>(k:Int)):=by
 unfold wc;have d:=WzA (N:=N) b (c:=λj i a=>
  (bif ((decide ((0:Int)<=(Wi a)))&&(decide ((Wi a)<=(Wi a))))&&(WH (Xb (Wi a)))then
 (vS N w.e a
 (λg h c=>
  (some ((),(c,()))))
 N (0:Int) (Xp (Xb (Wi a)) (0:Int)))else none)) w.c.length 0 N Ω Ω
 refine Eq.trans d ?_;have l:=po b;rw[Rh _ Φ,We,Pu,aP];exact WzN f b (slR w).length 0 N Ω Ω
end
end
section
abbrev RZ:=Unit×(Ke×Unit)
def KZ0(a:Tg)(l:List Int):Option RZ:=some ((),(((2:Int),(l,a)),()))
def KZ1(b:Int)(t:Bool)(r:List Int)(d:Int)(mk:List M7)(c a:List Int):Option RZ:=some ((),(((1:Int),(r,(c,(a,d)))),()))
section
variable{N e:Nat}{s:Sc}{w:Wo}{G:Nat->Option GE}{k j:Nat}{x:Rt}{n:Int}{p:Pg}{T:Tg}{c:List Int}{S:List Int×Int}
theorem WwC(a:1048576<e+2)(i:iL p=true)(A:ThOk T)(h:FnS (e+2) e p KZ0 KZ1 x T c S)(r:x.H=2->(c,S)=T):Ck (e+2) p x.B T=some ((),((x.H,(x.t,(c,S))),()))/\(x.H=1\/x.H=2):=by
 have b:=Rq i;have y:=A.S.len;have w:=A.map.1;have u:PB p:=by
  have:=b.k3;exact⟨by have:=b.Y.len;omega,Ω,λc s=>by have:=(b.κ c s).len;omega⟩
 obtain⟨g,o,m⟩:=h;obtain⟨l,n,v⟩:∃l,vW (e+2) x.B (Wi p.2)=some ((),(l,(true,())))/\(g=true->l=x.B):=by
  cases oM:g with
  |false=>
   rw[o.no oM];obtain⟨l,t⟩:=Wun b.k3 a;exact⟨l,t,λz=>by cases z⟩
  |true=>exact⟨x.B,Wvx (o.yes oM) a,λ_=>rfl⟩
 have k:Ze (e+2) (e+2) p.1 p.2 l [0,0,0,0] T=bgn (e+2) e p T (KZ0 T) KZ1 l:=by
  have q:=Do (N:=e+2) (a:=T.2.2) (Ω:T.1.length<=1000) (Ω:T.2.1.length<=1000);rw[Ze,q];rfl
 have j:=m l v;refine⟨?_,j.imp And.left And.left⟩;unfold Ck;rw[OW u a,i];rw[Ge Ω Ω a,zL.2 A];rw[n];simp only[Xd,Xu,Wc];unfold Zvz;rw[show Xp (Xb 4) (0:Int)= [0,0,0,0]from rfl,k];rcases j with⟨d,mk,f⟩|⟨d,f⟩
 .rw[f,d];rfl
 .rw[f,d,r d];rfl
theorem VV(h:ZX (e+2) e KZ0 KZ1 s n w G)(l:1048576<e+2)(d:dF s=true)(hj):Ck (e+2) (s.2.1.getD (rks w)[j] pg0) (rw' w (rks w)[j]).B (chn w G ((rks w).take j) s.1)=some ((),(((rw' w (rks w)[j]).H,((rw' w (rks w)[j]).t,chn w G ((rks w).take (j+1)) s.1)),()))/\((rw' w (rks w)[j]).H=1\/(rw' w (rks w)[j]).H=2):=by
 have f:=WwW h hj;obtain⟨b,c⟩:=qs hj;have a:=u0 h ((rks w).take j) s.1 h.th;have u:chn w G ((rks w).take (j+1)) s.1=apl w G (chn w G ((rks w).take j) s.1) (rks w)[j]:=by
  grind [chn,pO]
 rw[u];have o:iL (s.2.1.getD (rks w)[j] pg0)=true:=by
  have t:(rks w)[j]<s.2.1.length:=by rw[<-h.oa.ok.len];exact b
  unfold dF at d
  grind
 refine WwC l o a f λg=>?_;rw[kM b]at c g;have r:=((h.ga.ra _ b).fin c).gst.1;generalize (rks w)[j]=k at*;have p:G k=none:=Classical.byContradiction λz=>Ψ
 have q:ae k w.C= []:=Classical.byContradiction λz=>Ψ
 rw[p,q];generalize chn w G ((rks w).take j) s.1=T at*;have:gS none T=(T.2.1,T.2.2):=Ab (by simp[gS]) a.map.1 (λi m=>by rw[R9 m];rfl) (by have:=a.W;grind [gS]);rw[this];rfl
def rnA(w:Wo)(G:Nat->Option GE)(s:Sc)(j:Nat):Int×List Int×List Int×List Int×Int:=((rw' w ((rks w).getD j 0)).H,((rw' w ((rks w).getD j 0)).t,chn w G ((rks w).take (j+1)) s.1))
theorem WzQ(h:ZX (e+2) e KZ0 KZ1 s n w G)(l:1048576<e+2)(i:dF s=true)(t:(rks w).length<=4){R}{a}{b:Int->Bool->Kac->Int->Ki->Ki->Option R}:∀(d j F),j+d=(rks w).length->d<F->
  AY (e+2) ((rks w).map λk=>s.2.1.getD k pg0) ((rks w).map λk=>(rw' w k).B) a b F (j:Int) ((bJ j).map (rnA w G s)) (chn w G ((rks w).take j) s.1).2.2 (chn w G ((rks w).take j) s.1).1 (chn w G ((rks w).take j) s.1).2.1=b ((rks w).length:Int) false ((bJ (rks w).length).map (rnA w G s)) (chn w G (rks w) s.1).2.2 (chn w G (rks w) s.1).1 (chn w G (rks w) s.1).2.1
 |0,j,F,u,hf=>by
  obtain⟨g,rfl⟩:∃g,F=g+1:=⟨F-1,Ω⟩;have:j=(rks w).length:=Ω
  subst this;have B:(rks w).length=((rks w).map λk=>s.2.1.getD k pg0).length:=Δ
  rw[AY,jz];have I:decide (((rks w).length:Int)<Wi ((rks w).map λk=>s.2.1.getD k pg0))=false:=by
   simp[W0,Xj]
  rw[I,Wc]
 |d+1,j,F,u,hf=>by
  obtain⟨g,rfl⟩:∃g,F=g+1:=⟨F-1,Ω⟩;have f:j<(rks w).length:=Ω
  have c:j<((rks w).map λk=>s.2.1.getD k pg0).length:=Ψ
  have o:j<((rks w).map λk=>(rw' w k).B).length:=Ψ
  have H:=WzQ h l i t (a:=a) (b:=b) d (j+1) g Ω Ω;obtain⟨x,D⟩:=VV h l i f;have m:=u0 h ((rks w).take (j+1)) s.1 h.th;have E:=m.S.len;have C:=m.map.1;rw[L2,Xw,L0]at H;have v:rnA w G s j=((rw' w (rks w)[j]).H,((rw' w (rks w)[j]).t,chn w G ((rks w).take (j+1)) s.1)):=by unfold rnA;rw[Wk f]
  rw[v]at H;have I:∀T:Tg,(T.1,(T.2.1,T.2.2))=T:=λ_=>rfl;have q:Xc ((rks w).map λk=>s.2.1.getD k pg0) (Xb (j:Int)) (([]:List Ka),([]:List Kaf))=s.2.1.getD (rks w)[j] pg0:=by rw[Wu c,eZ]
  have r:Xc ((rks w).map λk=>(rw' w k).B) (Xb (j:Int)) ([]:List Int)=(rw' w (rks w)[j]).B:=by rw[Wu o,eZ]
  have p:=Do (N:=e+2) (a:=(chn w G ((rks w).take (j+1)) s.1).2.2) (show(chn w G ((rks w).take (j+1)) s.1).1.length<=1000 by omega) (show(chn w G ((rks w).take (j+1)) s.1).2.1.length<=1000 by omega);have y:∀z:Int×List Int×List Int×List Int×Int,WH ((Xa ((bJ j).map (rnA w G s)))+(Xa [z]))=true:=λz=>Ww Φ;rw[AY];simp only[Wm];rw[WM c,Wp c,Wp o,q,r,I,x];have A:((rw' w (rks w)[j]).H==(0:Int))=false:=Φ
  simp only[We,Xd,A,Wc,p,ret,y,C8,Wl (j:=j)];exact H
theorem WnK(h:ZX (e+2) e KZ0 KZ1 s n w G)(a:1048576<e+2)(b:dF s=true)(d:(rks w).length<=4):ET (e+2) ((rks w).map λk=>s.2.1.getD k pg0) ((rks w).map λk=>(rw' w k).B) s.1=some ((),((bJ (rks w).length).map (rnA w G s),(chn w G (rks w) s.1,()))):=by
 have f:=h.th.S.len;have g:=h.th.map.1;have c:=Do (N:=e+2) (a:=s.1.2.2) (Ω:s.1.1.length<=1000) (Ω:s.1.2.1.length<=1000);unfold ET;rw[show(Wi ((rks w).map λk=>(rw' w k).B) !=Wi ((rks w).map λk=>s.2.1.getD k pg0))=false by unfold Wi;simp,Wc,Ge Ω Ω a,zL.2 h.th];simp only[ret,Xd,Xu,Wc,c];exact WzQ h a b d (rks w).length 0 (e+2) Ω Ω
theorem PR(o:w.c.length<=4)(q:w.c.length=s.2.1.length){R}{a:Int->Bool->Kai->(List Ki)->Option R}:∀(d j v),j+d=(rks w).length->d<v->
  vz N s w.e ((rks w).map λk:Nat=>(k:Int)) a v (j:Int) (((rks w).take j).map λk=>s.2.1.getD k pg0) (((rks w).take j).map λk=>(rw' w k).B)=a ((rks w).length:Int) false ((rks w).map λk=>s.2.1.getD k pg0) ((rks w).map λk=>(rw' w k).B)
 |0,j,v,n,hf=>by
  obtain⟨g,rfl⟩:∃g,v=g+1:=⟨v-1,Ω⟩;have:j=(rks w).length:=Ω
  subst this;have t:(rks w).length=((rks w).map λk:Nat=>(k:Int)).length:=Δ
  rw[vz,jz];have e:decide (((rks w).length:Int)<Wi ((rks w).map λk:Nat=>(k:Int)))=false:=by
   simp[W0,Xj]
  rw[e,Wc]
 |d+1,j,v,n,hf=>by
  obtain⟨g,rfl⟩:∃g,v=g+1:=⟨v-1,Ω⟩;have c:j<(rks w).length:=Ω
  have b:j<((rks w).map λk:Nat=>(k:Int)).length:=Ψ
  have u:(rks w).length<=4:=by grind [pn,po]
  obtain⟨f,_⟩:=qs c;have r:(rks w)[j]<s.2.1.length:=Ω
  have p:=PR o q (a:=a) d (j+1) g Ω Ω;rw[pO c,Xw,Xw,L0,L0]at p;have l:P5 w.e=w.c.map Rt.e:=rfl;have m:∀x:Rt,x.e.2.2.2.2.2.2.2.2.2.2.2.2.2.2.2.2.2.1=x.B:=λ_=>rfl;have h:∀z:Pg,WH ((Xa (((rks w).take j).map λk=>s.2.1.getD k pg0))+(Xa [z]))=true:=λz=>Ww Φ;have i:∀z:List Int,WH ((Xa (((rks w).take j).map λk=>(rw' w k).B))+(Xa [z]))=true:=λz=>Ww Φ;rw[vz,WM b,Wp b];simp only[Wm,Wu b,eZ,We,Wp r,l,vc f,rV f,m,h,i,Wl (j:=j)];simp_all
theorem WtQ(h:ZX (e+2) e KZ0 KZ1 s n w G)(f:SB s)(a:1048576<e+2)(c:dF s=true):FM (e+2) s w.e=some ((),((bJ (rks w).length).map (rnA w G s),(chn w G (rks w) s.1,()))):=by
 have b:w.c.length<=4:=by rw[h.oa.ok.len];exact h.oa.ok.l4
 have g:(rks w).length<=4:=by grind [pn,po]
 have d:P5 w.e=w.c.map Rt.e:=rfl;unfold FM;rw[OM f a,c,d,J0 a b];simp only[ret,Xd,Xu,Wc];rw[show(Wi (w.c.map Rt.e) !=Wi s.2.1)=false by unfold Wi;rw[aP,h.oa.ok.len];simp,Wc];refine Eq.trans (PR b h.oa.ok.len (rks w).length 0 (e+2) Ω Ω) ?_
 grind [WnK]
theorem lE(h:ZX (e+2) e KZ0 KZ1 s n w G)(a:k<w.c.length):(rw' w k).t.length<=4:=by
 rw[kM a];exact(h.oa.ok.x k a).rg
theorem R2(h:ZX (e+2) e KZ0 KZ1 s n w G)(o:1048576<N)(u:(rks w).length<=4){R}{a}{d:Ka8 R}{b}{c m}:∀(D j C),j+D=(rks w).length->D<C->
  vx N w.e ((rks w).map λk:Nat=>(k:Int)) ((bJ (rks w).length).map (rnA w G s)) b c m a d C (j:Int)=d ((rks w).length:Int) false
 |0,j,C,v,hf=>by
  obtain⟨g,rfl⟩:∃g,C=g+1:=⟨C-1,Ω⟩;have:j=(rks w).length:=Ω
  subst this;have B:(rks w).length=((rks w).map λk:Nat=>(k:Int)).length:=Δ
  rw[vx];have E:decide (((rks w).length:Int)<Wi ((rks w).map λk:Nat=>(k:Int)))=false:=by
   simp[W0,Xj]
  rw[E,Wc]
 |D+1,j,C,v,hf=>by
  obtain⟨g,rfl⟩:∃g,C=g+1:=⟨C-1,Ω⟩;have l:j<(rks w).length:=Ω
  have i:j<((rks w).map λk:Nat=>(k:Int)).length:=Ψ
  have p:j<((bJ (rks w).length).map (rnA w G s)).length:=Ψ
  obtain⟨f,_⟩:=qs l;have A:=R2 h o u (a:=a) (d:=d) (b:=b) (c:=c) (m:=m) D (j+1) g Ω Ω;have q:P5 w.e=w.c.map Rt.e:=rfl;have r:∀x:Rt,x.e.2.2.2.2.2.2.2.1=x.H:=λ_=>rfl;have t:∀x:Rt,x.e.2.2.2.2.2.2.2.2.2.2.2.2.1=x.t:=λ_=>rfl;have y:rnA w G s j=((rw' w (rks w)[j]).H,((rw' w (rks w)[j]).t,chn w G ((rks w).take (j+1)) s.1)):=by unfold rnA;rw[Wk l]
  have z:=lE h f;rw[vx,WM i,Wp i,Wp p];simp only[Wm,Wu i,Wu p,eZ,HP,We,q,vc f,rV f,y,r,t,bne_self_eq_false,Wc,Ql (show(rw' w (rks w)[j]).t.length<=1048576 by omega) o,ret,Xd,Xu,Wl (j:=j)];exact A
theorem Wwf(h:ZX N e KZ0 KZ1 s n w G)(B:hL w=true):chn w G (rks w) s.1=(w.i.2.map (·.1),((bJ 8).map λi:Nat=>WE w.D.1 (i:Int),w.D.2)):=by
 have g:∀(k:Nat) (a:k<w.c.length),w.c[k].g=8:=λk a=>by
  grind [hL,cS,Xm]
 have l:=u0 h (rks w) s.1 h.th;obtain⟨u,x⟩:=WzY h (YV h (F6 h)) JS λk a=>((m8.2 k).1 a).1;have p:∀j i,¬xld w.a j i:=λj i ⟨F,b,q,_⟩=>by
  obtain⟨k,a,d⟩:=h.oa.lx.hd F b;exact((h.oa.lx.x k a).hd F b d).2 (g k a)
 obtain⟨E,_,_,_⟩:=WK h.oa.ok.i;have y:=l.S.len;have D:=l.map.1;refine Prod.ext (D6 Ψ λi f r=>?_) (Prod.ext (D6 Ψ λi f r=>?_) ?_)
 .have b:=QS h (c:=(i:Int)) Ω (rks w) s.1 h.th;have t:=WzE h (i:=(i:Int)) (v:=2000000);have q:=WzR (a:=(s.1.1,s.1.1,0)) (HA h (IU h)) Ω rfl (Ox (b:=s.1.1.getD ((i:Int)).toNat 0) (YV h (IU h))) t;have d:=(h.oa.mi.cell (i:Int) Ω Ω λk c o _=>by
   obtain⟨a,z,_⟩:=PV o;simp_all).1
  grind [Wy,ac,Xf,Wk,top]
 .have AW:i<8:=Ω
  have b:=Hx (HA h (F6 h)) (u (i:Int) Ω Ω) (h.ga.X (i:Int) Ω Ω λj=>p j _);rw[Xf,Wk f]at b;rw[b,eZ,HP]
 .have o:=h.ga.W;have C:dA w.c.length (λk=>oc (w.c.getD k rt0))=0:=by
   have:∀m,m<=w.c.length->dA m (λk=>oc (w.c.getD k rt0))=0:=λm=>by
    induction m with
    |zero=>intro _;rfl
    |succ m ih=>
     intro A;rw[dA,ih Ω,Wk Ω];have:=(h.ga.ra m Ω).z0 (.inr (.inl (g m Ω)));unfold oc;rw[this];split<;>rfl
   simp_all
  unfold VA at x;simp_all
theorem Wlk(h:ZX (e+2) e KZ0 KZ1 s n w G)(d:SB s)(a:1048576<e+2)(b:dF s=true):E0 (e+2) s w.e=ret true:=by
 have c:w.c.length<=4:=by rw[h.oa.ok.len];exact h.oa.ok.l4
 have g:(rks w).length<=4:=by grind [pn,po]
 have f:P5 w.e=w.c.map Rt.e:=rfl;unfold E0;rw[OM d a,b,f,J0 a c,WtQ h d a b];simp only[ret,Xd,Xu,Wc];rw[show(Wi (w.c.map Rt.e) !=Wi s.2.1)=false by unfold Wi;rw[aP,h.oa.ok.len];simp,Wc];rw[show(Wi ((bJ (rks w).length).map (rnA w G s)) !=Wi ((rks w).map λk:Nat=>(k:Int)))=false by unfold Wi;simp,Wc];refine Eq.trans (R2 h a g (rks w).length 0 (e+2) Ω Ω) ?_;rw[WzL c a];simp only[ret,Xd];cases ho:hL w with
 |false=>rfl
 |true=>
  rw[show w.e.2.2.1=w.i from rfl,show w.e.2.2.2.1.1=w.D.1 from rfl,show w.e.2.2.2.1.2=w.D.2 from rfl,WyL h.oa.ok.i a,WAo h.oa.ok.D.Q a];simp only[ret,Xd];rw[<-Wwf h ho,ZO (u0 h _ _ h.th) a];rfl
end
end
section
section
variable{N:Nat}{o:Opn}{r:List Int}{Y:List Opn}
theorem vg{a:Type}{b:Bool}{x:Option a}{r:a}:(bif b then x else none)=some r↔b=true/\x=some r:=by cases b<;>simp
theorem JY(b:1048576<N)(a:aj o=true)(c:1<=o.1)(d:o.1<=4)(f:r.length=4):∃e t,e.length=4/\F0 N o r=some ((),(e,(t,())))/\ze N o r=some ((),(e,(t,()))):=by
 by_cases h:oz r=true
 .have h:=nC.1 h;exact⟨_,_,(GY a c d h).len,UT b a c d h,OS b a c d h⟩
 .refine⟨r,false,f,?_,?_⟩
  .simp[F0,Ww (Ω:r.length<=1073741824),wN,ret,a,UE (l:=r) Ω b,h]
  .simp[ze,Zg,Ww (Ω:r.length<=1073741824),Gr,ret,a,Gh (l:=r) Ω b,h,show¬(4<o.1) by omega]
theorem Lv{R:Type}{a:Int->Option R}{b:Ka7 R}(h:Y.length<=1000):∀(n:Nat) (d k:Int),0<=k-> -k<=d->d<=k->vL N Y a b n d k=o6 N Y a b n d k
 |0,_,_,_,_,_=>rfl
 |n+1,d,k,m,o,h2=>by
  rw[vL,o6];by_cases p:k<Wi Y
  .have e1:Ws .i64 k 1=k+1:=WB (by unfold I64;unfold Wi at p;omega);have c:Ws .i64 d 1=d+1:=WB (by unfold I64;unfold Wi at p;omega);have e:Ws .i64 d (-1)=d-1:=WB (by unfold I64;unfold Wi at p;omega);have f:ah .i64 d 1=d-1:=eh (by unfold I64;unfold Wi at p;omega);have g:Ws .i64 d 0=d:=(WB (by unfold I64;unfold Wi at p;omega)).trans Ω;have i:=Lv (a:=a) (b:=b) h n (d+1) (k+1) Ω Ω Ω;have j:=Lv (a:=a) (b:=b) h n (d-1) (k+1) Ω Ω Ω;have l:=Lv (a:=a) (b:=b) h n d (k+1) Ω Ω Ω;simp only[Wf p,We,Cw,e1];cases inb k Y.length
   .rfl
   generalize (Xc Y (Xb k) ((0:Int),((0:Int),((0:Int),(0:Int))))).1=q;by_cases s:q=8
   .subst s;simp[c,i]
   .by_cases q9:q=9
    .subst q9;simp[e,f,j]
    .simp[show(q==8)=false by simpa using s,show(q==9)=false by simpa using q9,g,l]
  .rw[Wj p];rfl
theorem WBL(h:Y.length<=1000){i:Int}:tL N Y i=zb N Y i:=by
 unfold tL zb;have c:ah .i64 (Wi Y) 1=(Y.length:Int) -1:=eh (by unfold I64 Wi;omega);rw[ij,c];simp only[ret,Xd];by_cases b:i<0
 .simp[b,show¬(0<=i) by omega]
 by_cases a:i>=Wi Y
 .have:¬(i<=(Y.length:Int) -1):=by unfold Wi at a;omega
  simp[b,a,this]
 have d:i<=(Y.length:Int) -1:=by unfold Wi at a;omega
 rw[Lv h _ 0 i Ω Ω Ω];simp[b,a,d,show 0<=i by omega]
abbrev R7:=Unit×(Ke×Unit)
abbrev Rc7:=List Opn->List (List Opn)->List Int->List Int->Tg->Option R7
abbrev G7:=List Int×Int->List Int×Int
def gm(g:G7)(x:M7):M7:=(x.1,(x.2.1,(x.2.2.1,g x.2.2.2)))
def go7(g:G7)(o:R7):R7:=((),((o.2.1.1,(o.2.1.2.1,(o.2.1.2.2.1,g o.2.1.2.2.2))),()))
def z7:G7:=λ_=>(Xp 8 0,0)
def sts(a:List (Nat×Int))(r:List Int):List Int:=a.foldl (λr x=>r.set x.1 x.2) r
theorem KK{a:List (Nat×Int)}{x:Nat×Int}{r:List Int}:sts (a++ [x]) r=(sts a r).set x.1 x.2:=by simp[sts,p7]
theorem DA{r:List Int}:∀a,(sts a r).length=r.length:=λa=>by
 induction a generalizing r with
 |nil=>rfl
 |cons x a ih=>exact ih.trans (Xx ..)
theorem LD{k:Nat}{r:List Int}:∀a:List (Nat×Int),(∀x∈a,x.1≠k)->(sts a r)[k]?=r[k]?:=λa h=>by
 induction a generalizing r with
 |nil=>rfl
 |cons x a ih=>
  refine(ih λy b=>h y (Xe _ b)).trans ?_;rw[ly (h x (Xg ..))]
theorem WCL{k:Nat}{r f:List Int}:∀a:List (Nat×Int),(∃x∈a,x.1=k)->k<r.length->k<f.length->(sts a r)[k]?=(sts a f)[k]?:=λa=>by
 induction a generalizing r f with
 |nil=>simp
 |cons x a ih=>
  intro h b c;by_cases z:∃y∈a,y.1=k
  .exact ih z (by simpa using b) (by simpa using c)
  .have e:x.1=k:=Ψ
   have ne:∀y∈a,y.1≠k:=λy d e=>z ⟨y,d,e⟩;refine(LD a ne).trans (Eq.trans ?_ (LD a ne).symm);simp[e,b,c]
theorem Qq{k:Nat}{l:List Int}(h:(k,l)∈gQ):l.Nodup/\l.length<=3/\k<=3/\(∀x∈l,0<=x/\x<k)/\∀i<k,(i:Int)∈l:=
 (by decide:∀p∈gQ,p.2.Nodup/\p.2.length<=3/\p.1<=3/\(∀x∈p.2,0<=x/\x<p.1)/\∀i<p.1,(i:Int)∈p.2) _ h
theorem WBb{nk:Nat}{l:List Int}(h:(nk,l)∈gQ){a:List (Nat×Int)}(b:a.map (λx=>(x.1:Int))=l){r:List Int}(k:r.length=4):sts a r=sts a (Xp nk 0)++r.drop nk:=by
 obtain⟨_,_,j,c,d⟩:=Qq h;have f:(sts a (Xp nk 0)).length=nk:=by rw[DA];simp
 refine HX λi=>?_;by_cases m:i<nk
 .rw[List.getElem?_append_left Ω];have:=d i m;rw[<-b]at this;exact WCL a Θ Ω (by simpa using m)
 .rw[List.getElem?_append_right Ω,f,List.getElem?_drop,LD a λx g e=>?_]
  .congr 1;omega
  .have:=c x.1 (b▸Xy.2 ⟨x,g,rfl⟩);omega
section
variable{R R':Type}{O L:Rc7}{i:List (List Opn)}{l J m:List Int}{G:Int}
theorem Oa{KS:Int->Bool->Int->List Int->List Int->List Int->Option R}{KI:Int->Bool->List Int->List Int->Option R'}{next fD hY eB Q tQ tR tS:Int}{fC P:List M7}{dp dJ K:List Int}{I:Tg}{v:R}(E:r.length=4)(y:(i.length,l)∈gQ)
  (u:∀q∈i,∀c o,O q [] [] r (c,(m,G))=some o->o.2.1.2.2.2=(m,G)/\L q [] [] r (c,z7 (m,G))=some (go7 z7 o)):
  ∀(d j a:Nat) (c:List Int) (Z:List (Nat×Int)),j+d=l.length->d<a->Z.map (λx=>(x.1:Int))=l.take j->rm N O Y i l next r fD hY eB fC dp dJ KS a (j:Int) G (sts Z (Xp i.length 0)) c m=some v->
  ∃B t,t.map (λx=>(x.1:Int))=l/\KS (l.length:Int) false G (sts t (Xp i.length 0)) B m=some v/\p9 N L Y i J Q (Wi l) I tQ tR tS P r l K KI a (j:Int) (sts Z r) c=KI (l.length:Int) false (sts t r) B
 |0,j,a,c,Z,S,qb0,p,h=>by
  obtain⟨g,rfl⟩:∃g,a=g+1:=⟨a-1,Ω⟩;have:j=l.length:=Ω
  subst this;rw[jz]at p;refine⟨c,Z,p,?_,?_⟩
  .rw[rm,W0 (Xj _),Wc]at h;exact h
  .rw[p9,W0 (Xj _),Wc]
 |d+1,j,a,c,Z,S,qb0,p,h=>by
  obtain⟨g,rfl⟩:∃g,a=g+1:=⟨a-1,Ω⟩;have f:j<l.length:=Ω
  obtain⟨qa5,k,qa1,qa9,_⟩:=Qq y;obtain⟨x0,x1⟩:=qa9 _ (Xm f);obtain⟨q,z⟩:∃q:Nat,l[j]=(q:Int):=⟨l[j].toNat,Ω⟩;have n:q<i.length:=Ω
  have qa6:∀x∈Z,x.1≠q:=λx U e=>by
   have:(x.1:Int)∈l.take j:=p▸Xy.2 ⟨x,U,rfl⟩;obtain⟨qa2,qa0,qa8⟩:=HS.1 this;have:=(List.getElem_inj qa5).1 (qa8.trans ((Wq Int.ofNat e).trans z.symm));omega
  have C:Xc l (Xb (j:Int)) (0:Int)=(q:Int):=(Wu f _).trans z;have D:Xc i (Xb (q:Int)) ([]:List Ka)=i[q]:=Wu n _;have V:inb (q:Int) (sts Z (Xp i.length 0)).length=true:=by rw[DA,yh];exact Wp n
  have W:inb (q:Int) (sts Z r).length=true:=by rw[DA,d8];simp;omega
  have b:∀v:Int,(Z++ [(q,v)]).map (λx=>(x.1:Int))=l.take (j+1):=λv=>by
   rw[pO f,Xw,p,z];rfl
  simp only[rm,Wm,WM f,We,Wp f,C,Wp n,D,CY,V]at h;obtain⟨o,M,h⟩:=mx.1 h;obtain⟨F,X⟩:=u _ (Xm n) c o M;have qa3:o.2.1.2.2.2.2=G:=Wq Prod.snd F;have T:o.2.1.2.2.2.1=m:=Wq Prod.fst F;rw[qa3,T,Wl (j:=j)]at h;have H:L i[q] [] [] r (c,(Xp (Xb 8) 0,0))=some (go7 z7 o):=X;have qa4:(((decide ((0:Int)<=(8:Int)))&&(decide ((8:Int)<=(8:Int))))&&(WH (Xb (8:Int))))=true:=rfl;simp only[p9,WM f,We,Wp f,C,Wp n,D,CY,qa4,H,Xd,W,Xx,Wm,mz,Wl (j:=j)];simp only[Xf]at h|-;by_cases w:o.2.1.1=1
  .have:(go7 z7 o).2.1.1=1:=w;simp only[w,this,beq_self_eq_true,We,vg]at h|-;obtain⟨s,h⟩:=h;have A:inb (0:Int) (go7 z7 o).2.1.2.1.length=true:=s;have k:=Oa (KI:=KI) (Q:=Q) (tQ:=tQ) (tR:=tR) (tS:=tS) (P:=P) (K:=K) (I:=I) E y u d (j+1) g o.2.1.2.2.1 (Z++ [(q,Xc o.2.1.2.1 (Xb 0) 0)]) Ω Ω (b _) (by rw[KK];exact h);rw[KK]at k;rw[A,We];exact k
  .have s:(o.2.1.1==(1:Int))=false:=by simpa using w
   have A:((go7 z7 o).2.1.1==(1:Int))=false:=s;rw[s,Wc]at h;rw[A,Wc];have qa7:(sts Z (Xp i.length 0)).set q 0=sts Z (Xp i.length 0):=by
    refine HX λqa2=>?_;rw[List.getElem?_set];split
    .rename_i e;subst e;rw[LD Z qa6,DA];simp[n]
    .rfl
   have k:=Oa (KI:=KI) (Q:=Q) (tQ:=tQ) (tR:=tR) (tS:=tS) (P:=P) (K:=K) (I:=I) E y u d (j+1) g o.2.1.2.2.1 (Z++ [(q,0)]) Ω Ω (b _) (by rw[KK];simp only[qa7];exact h);rw[KK]at k;exact k
theorem WAq{Q:Ka6 R}{next t o p q:Int}{m:List M7}{a d e g s:List Int}(w:a.length<=r.length)(A:r.length=4)(z:1048576<N):
  p8 N O Y i l next t o p q m a d e g s (λ_ _ v=>Q v) N 0 r=Q (a++r.drop a.length):=by
 have u:=WF (l:=a) (V:=List Int) (R:=R) (c:=λc j v=>p8 N O Y i l next t o p q m a d e g s (λ_ _ v=>Q v) c j v) (n:=N) Ω
  (b:=λj x v k=>bif inb j v.length then k (v.set j.toNat x)else none) (K:=λ_ v=>Q v)
  (λc C v b=>by
   simp only[p8,WM b,Wp b,Wu b,Wl (j:=C),We])
  (λc v=>by simp[p8,W0,Xj,Wc]) r
 refine u.trans ?_;have h:=JJ (b:=Int) (f:=λx:Int=>x) (a:=λ(j:Int) (x:Int) v (k:List Int->Option R)=>bif inb j v.length then k (v.set j.toNat x)else none) (K:=λ_ v=>Q v) a [] r (by simpa using w) (λj x v k B y=>by rw[d8,Wf y];rfl);simp only[kp,List.nil_append,List.map_id']at h;exact h
end
abbrev k0S(a:Tg):List Int->Option R7:=λr=>some ((),(((2:Int),(r,a)),()))
abbrev k1S:Int->Bool->List Int->Int->List M7->List Int->List Int->Option R7:=λ_ _ r a _ c m=>some ((),(((1:Int),(r,(c,(m,a)))),()))
abbrev k0I:Int->List Int->List Int->List Int->Option R7:=λa r c m=>some ((),(((2:Int),(r,(c,(m,a)))),()))
section
variable{X W:Rc7}{d:List (List Opn)}{l e:List Int}{g:G7}{a:Bool}{Q:Tg}{Z:List Int×Int}
theorem WDj{a:Int}(b:∀o∈Y,aj o=true)(h:inb a Y.length=true):aj (Xc Y a.toNat ((0:Int),((0:Int),((0:Int),(0:Int)))))=true/\Xc Y a.toNat ((0:Int),((0:Int),((0:Int),(0:Int))))∈Y:=by
 unfold inb at h;simp only[Xl,Wg]at h;rw[Wk (Ω:a.toNat<Y.length)];exact⟨b _ (Xm _),Xm _⟩
theorem WDq{o:Opn}(h:aj o=true):o.1∈kds:=by
 by_cases z:o.1∈kds
 .exact z
 .unfold aj at h;simp only[kds,Xr,D9,or_false,not_or]at z;simp[z]at h
theorem Qe{y:Tg}{o:Unit×(Tg×Unit)}(h:rE N y=some o):WH y.1.length=true/\WH y.2.1.length=true/\o=((),(y,())):=by
 unfold rE at h;simp only[CY,vg,kp,d4]at h;obtain⟨a,b,h⟩:=h;exact⟨a,b,(Option.some.inj h).symm⟩
theorem HF{y:Tg}(a:WH y.1.length=true)(b:WH y.2.1.length=true):vC N y=ret y:=by
 unfold vC Zg;rw[a,b];rfl
theorem Yx{a:Type}{q:List a}{x:a}:(((decide ((0:Int)<=(q.length:Int)))&&(decide ((q.length:Int)<=((Xa (q++ [x])):Int))))&&(decide ((q.length:Int)<=(q.length:Int))))=true:=by rw[Qa];simp
theorem Lc{q:List M7}{x:M7}(h:q.length<1073741824):ah .i64 (Wi (q++ [x])) 1=(q.length:Int):=by
 have e:Wi (q++ [x])=(q.length:Int)+1:=by simp[Wi]
 rw[e];exact(eh Λ).trans Ω
set_option maxHeartbeats 1000000 in
theorem lock(L:1048576<N)(qa0:∀o∈Y,aj o=true)(dO:Y.length<=24)(qa7:a=true->∀o∈Y,o.1<=10)(J:a=false->g=id)(U:∀y,WH y.1.length=true->(a=true->y=Z)->WH (g y).1.length=true)(T:WH Q.1.length=true/\WH Q.2.1.length=true)(F:a=true->Q.2=Z)
  (qa6:a=false->(d.length,l)∈gQ/\B6 N e (Wi d)=ret l/\∀q∈d,∀r c y o,r.length=4->X q [] [] r (c,y)=some o->o.2.1.2.2.2=y/\W q [] [] r (c,z7 y)=some (go7 z7 o)):
  ∀(n:Nat) (i:Int) (r:List Int) (k:Int) (mk:List M7) (c m:List Int) (v:R7),r.length=4->(∀x∈mk,x.2.1.length=4)->mk.length<=1073741824->(a=true->(m,k)=Z/\∀x∈mk,x.2.2.2=Z)->
   Za N X Y d l Q.2.2 Q.1 Q.2.1 (k0S Q) k1S n i r k mk c m=some v->
   nv N W Y d e (Q.1,g Q.2) k0I k1S n i r (g (m,k)).2 (mk.map (gm g)) c (g (m,k)).1=some (go7 g v)/\(a=true->v.2.1.2.2.2=Z)
 |0,_,_,_,_,_,_,_,_,_,_,_,h=>by cases h
 |n+1,i,r,k,mk,c,m,v,f,s,B,u,h=>by
  have A:=lock L qa0 dO qa7 J U T F qa6 n;rw[Za]at h;rw[nv];simp only[Wm]at h|-;by_cases M:i<Wi Y
  .rw[Wf M,We,vg]at h;obtain⟨O,h⟩:=h;obtain⟨G,aA⟩:=WDj qa0 O;rw[Wf M,O,We,We];have qa8:=WDq G;have vt:a=true->_:=λz=>qa7 z _ aA;generalize Xc Y i.toNat ((0:Int),((0:Int),((0:Int),(0:Int))))=op at*;obtain⟨qa2,qa3,b,qa1⟩:=op;simp only[kds,Xr,D9,or_false]at qa8;rcases qa8 with rfl|rfl|rfl|rfl|rfl|rfl|rfl|rfl|rfl|rfl|rfl|rfl|rfl|rfl|rfl|rfl<;>simp only[yl,We,Wc,vg]at h|-
   .obtain⟨V,t,H,w,C⟩:=JY L G Δ Δ f;rw[w]at h;rw[C];exact A _ _ _ _ _ _ _ H s B u h
   .obtain⟨V,t,H,w,C⟩:=JY L G Δ Δ f;rw[w]at h;rw[C];exact A _ _ _ _ _ _ _ H s B u h
   .obtain⟨V,t,H,w,C⟩:=JY L G Δ Δ f;rw[w]at h;rw[C];exact A _ _ _ _ _ _ _ H s B u h
   .obtain⟨V,t,H,w,C⟩:=JY L G Δ Δ f;rw[w]at h;rw[C];exact A _ _ _ _ _ _ _ H s B u h
   .obtain⟨j,p,h⟩:=h;simp only[wd,yl,We,Wc,j,p,Xd];exact A _ _ _ _ _ _ _ ((Xx ..).trans f) s B u h
   .obtain⟨j,p,h⟩:=h;simp only[wd,yl,We,Wc,j,p,Xd];exact A _ _ _ _ _ _ _ f s B u h
   .obtain⟨j,h⟩:=h;obtain⟨_,b1,b2⟩:=pM G rfl;simp only at b1 b2;have hp:0<=i/\i<24:=by
     unfold inb at O;unfold Wi at M;simp at O;omega
    have w:Ws .i64 i 1=i+1:=WB Λ;have C:Ws .i64 (i+1) b=i+b+1:=(WB Λ).trans Ω;have K:Ws .i64 i b=i+b:=WB Λ;have e4:Ws .i64 (i+b) 1=i+b+1:=WB Λ;simp only[j,We,w,C,K,e4]at h|-;cases hz:(Xc r qa3.toNat 0==(0:Int))<;>rw[hz]at h<;>exact⟨⟨trivial,(A _ _ _ _ _ _ _ f s B u h).1⟩,(A _ _ _ _ _ _ _ f s B u h).2⟩
   .obtain⟨j,h⟩:=h;obtain⟨x,ex,h⟩:=mx.1 h;obtain⟨c1,c2,rfl⟩:=Qe ex;have h:=vg.1 h;obtain⟨p,h⟩:=h;have S:mk.length+1<=1073741824:=by simpa [WH]using p
    have w:Zg N r=ret r:=wu Ω;have C:vC N (c,((g (m,k)).1,(g (m,k)).2))=ret (c,g (m,k)):=HF c1 (U _ c2 λz=>(u z).1);have K:WH ((mk.map (gm g)).length+ [((i,(r,(c,g (m,k)))):M7)].length)=true:=by rw[aP];exact p
    simp only[w,C,ret,Xd,K,true_and];have:=A _ _ _ (mk++ [(i,(r,(c,(m,k))))]) _ _ _ f (λx D=>by
     rcases Xo.1 D with D|D
     .exact s x D
     .cases dq.1 D;exact f) (by rw[List.length_append];exact S) (λz=>⟨(u z).1,λx D=>by
     rcases Xo.1 D with D|D
     .exact(u z).2 x D
     .cases dq.1 D;exact(u z).1⟩) h
    rw[Xw]at this;exact this
   .obtain⟨j,p,E,I,h⟩:=h;rcases Xfh mk with rfl|⟨q,x,rfl⟩
    .cases j
    .rw[Xhb]at*;have Eb:q.length+1<=1073741824:=by simpa using B
     have w:=Lc (x:=x) (q:=q) Ω;have C:=Lc (x:=gm g x) (q:=q.map (gm g)) (by rw[aP];omega);rw[Xw,bo,d6,C];rw[w]at j p E I h;simp only[Xf,KA,C5]at E I h|-;have:=A _ _ _ _ _ _ _ ((Xx ..).trans f) (λy F=>s y (Xn _ F)) Ω (λz=>⟨(u z).1,λy F=>(u z).2 y (Xn _ F)⟩) h;exact⟨⟨KQ,Yx,E,I,this.1⟩,this.2⟩
   .rcases Xfh mk with rfl|⟨q,x,rfl⟩
    .rw[HF (y:=(Q.1,g Q.2)) T.1 (U _ T.2 F)];cases h;exact⟨rfl,F⟩
    .rw[Xhb]at*;have Eb:q.length+1<=1073741824:=by simpa using B
     have w:=Lc (x:=x) (q:=q) Ω;have C:=Lc (x:=gm g x) (q:=q.map (gm g)) (by rw[aP];omega);have K:∀{q:List M7} {x:M7},(Wi (q++ [x])==0)=false:=λ{q x}=>by simp[Wi];omega
     rw[Xw,bo,d6,C,K,Wc];rw[w,K,Wc]at h;simp only[Xf,KA,C5,vg]at h|-;obtain⟨_,_,_,h⟩:=h;obtain⟨y,ey,h⟩:=mx.1 h;obtain⟨_,_,rfl⟩:=Qe ey;simp only[vg]at h;obtain⟨R,h6,h⟩:=h;obtain⟨qa5,ee,h⟩:=mx.1 h;have D:=s x Δ;have:=A _ _ _ _ _ _ _ ((Xx ..).trans D) (λy F=>s y (Xn _ F)) Ω (λz=>⟨(u z).2 x Δ,λy F=>(u z).2 y (Xn _ F)⟩) h;rw[WBL Ω,show(gm g x).1=x.1 from rfl,ee];exact⟨⟨KQ,Yx,R,h6,this.1⟩,this.2⟩
   .have Bm:a=false:=by cases a<;>simp_all
    cases J Bm;obtain⟨P,f2,f3⟩:=qa6 Bm;obtain⟨_,h⟩:=h;have w:Zg N r=ret r:=wu Ω;simp only[w,f2,ret,Xd,Pu]at h|-;have Dl:_/\_/\_:=Qq P;obtain⟨c',qa4,hv,h,hi⟩:=Oa (KI:=λ_ _ z8 Aa=>nv N W Y d e (Q.1,Q.2) k0I k1S n (Ws .i64 i 1) z8 k mk Aa m) (J:=e) (Q:=i) (tQ:=0) (tR:=0) (tS:=k) (P:=mk) (K:=m) (I:=(Q.1,Q.2)) (L:=W) f P (λq S c o G=>f3 q S r c (m,k) o f G) l.length 0 N c [] Ω Ω rfl h;have jp:(sts qa4 (Xp d.length 0)).length=d.length:=by rw[DA,yh]
    have p:=(WAq (Q:=λnI=>Za N X Y d l Q.2.2 Q.1 Q.2.1 (k0S Q) k1S n (Ws .i64 i 1) nI k mk c' m) Ω f L).symm.trans h;rw[jp,<-WBb P hv f]at p;have E:=A _ _ _ _ _ _ _ ((DA _).trans f) s B u p;rw[show gm id=id from rfl,List.map_id]at E|-;exact⟨hi.trans E.1,E.2⟩
   .obtain⟨j,p,E,I,R,h⟩:=h;cases J (by cases a<;>simp_all);have qa5:Ws .i64 (Xc r b.toNat 0) 1=Ws .i64 1 (Xc r b.toNat 0):=by unfold Ws;rw[Int.add_comm]
    simp only[wd,yl,We,Wc,id_eq,j,p,I,R,Xd,qa5];exact A _ _ _ _ _ _ _ ((Xx ..).trans f) s B (λz=>Ψ) h
   .obtain⟨j,p,E,h⟩:=h;cases J (by cases a<;>simp_all);simp only[wd,yl,We,Wc,id_eq,j,p,E,Xd];exact A _ _ _ _ _ _ _ ((Xx ..).trans f) s B (λz=>Ψ) h
   .obtain⟨j,p,E,I,h⟩:=h;cases J (by cases a<;>simp_all);simp only[wd,yl,We,Wc,id_eq,j,E,I,Xd];exact A _ _ _ _ _ _ _ ((Xx ..).trans f) s B (λz=>Ψ) h
   .obtain⟨j,p,h⟩:=h;cases J (by cases a<;>simp_all);simp only[wd,yl,We,Wc,id_eq,j,p,Xd];exact A _ _ _ _ _ _ _ f s B (λz=>Ψ) h
   .obtain⟨j,h⟩:=h;cases J (by cases a<;>simp_all);simp only[wd,yl,We,Wc,id_eq,j,Xd];exact A _ _ _ _ _ _ _ ((Xx ..).trans f) s B (λz=>Ψ) h
  .rw[Wj M,Wc]at h|-;cases h;exact⟨rfl,λz=>(u z).1⟩
theorem YM{k:Nat}{r:List Int}{v:R7}(n:1048576<N)(w:∀o∈Y,aj o=true)(j:Y.length<=24)(t:a=true->∀o∈Y,o.1<=10)(s:a=false->g=id)(i:∀y,WH y.1.length=true->(a=true->y=Z)->WH (g y).1.length=true)(b:a=true->Q.2=Z)
  (p:a=false->(d.length,l)∈gQ/\B6 N e (Wi d)=ret l/\∀q∈d,∀r c y o,r.length=4->Ze N k q [] [] r (c,y)=some o->o.2.1.2.2.2=y/\rz N k q [] [] r (c,z7 y)=some (go7 z7 o)) (u:r.length=4)
  (h:Ze N (k+1) Y d l r Q=some v):rz N (k+1) Y d e r (Q.1,g Q.2)=some (go7 g v)/\(a=true->v.2.1.2.2.2=Z):=by
 rw[Ze]at h;obtain⟨o,f,h⟩:=mx.1 h;obtain⟨A,C,rfl⟩:=Qe f;rw[vg,f]at h;have m:Zg N r=ret r:=wu Ω;rw[rz,m,HF (y:=(Q.1,g Q.2)) A (i _ C b)];exact lock n w j t s i ⟨A,C⟩ b p N 0 r Q.2.2 [] Q.1 Q.2.1 v u (λx B=>by cases B) (Nat.zero_le _) (λz=>⟨b z,λx B=>by cases B⟩) h.2
theorem Wyt{k:Nat}{q:List Opn}{r c:List Int}{y:List Int×Int}{o:R7}(e:1048576<N)(d:KC q)(f:r.length=4)(h:Ze N k q [] [] r (c,y)=some o):o.2.1.2.2.2=y/\rz N k q [] [] r (c,z7 y)=some (go7 z7 o):=by
 cases k with
 |zero=>cases h
 |succ k=>
  have:=YM (a:=true) (g:=z7) (e:=[]) (Z:=y) e (λo b=>by
   obtain⟨i,a,rfl⟩:=cN b;exact(d.ok i a).1) d.len (λ_ o b=>by
   obtain⟨i,a,rfl⟩:=cN b;exact d.k10 i a) (λz=>by cases z) (λ_ _ _=>rfl) (λ_=>rfl) (λz=>by cases z) f h
  exact⟨this.2 rfl,this.1⟩
theorem Wwl{e:Nat}{a:List Int}(h:a= []\/(e,a)∈gQ)(c:e<=3)(b:1048576<N):∃l,(e,l)∈gQ/\vW N a (e:Int)=some ((),(l,(true,())))/\Fx N a (e:Int)=ret true/\B6 N a (e:Int)=ret l:=by
 obtain⟨M,rfl⟩:∃M,N=M+10:=⟨N-10,Ω⟩;rcases h with rfl|h
 .have:e=0\/e=1\/e=2\/e=3:=Ω
  rcases this with rfl|rfl|rfl|rfl<;>exact⟨_,by decide,rfl,rfl,rfl⟩
 .refine⟨a,h,?_⟩;simp only[gQ,Xr,D9,or_false,Prod.mk.injEq]at h;rcases h with⟨rfl,rfl⟩|⟨rfl,rfl⟩|⟨rfl,rfl⟩|⟨rfl,rfl⟩|⟨rfl,rfl⟩|⟨rfl,rfl⟩|⟨rfl,rfl⟩|⟨rfl,rfl⟩|⟨rfl,rfl⟩|⟨rfl,rfl⟩<;>exact⟨rfl,rfl,rfl⟩
theorem WsY{p:Pg}{a:List Int}{T:Tg}{v:R7}(H:1048576<N)(j:iL p=true)(d:ThOk T)(f:a= []\/(p.2.length,a)∈gQ)(h:Ck N p a T=some v):N1 N p a T=some v:=by
 have b:=Rq j;have G:=d.S.len;have F:=d.map.1;have s:PB p:=by
  have:=b.k3;exact⟨by have:=b.Y.len;omega,Ω,λc w=>by have:=(b.κ c w).len;omega⟩
 obtain⟨l,D,m,n,E⟩:=Wwl f b.k3 H;have m:vW N a (Wi p.2)=_:=m;have n:Fx N a (Wi p.2)=_:=n;have t:(((decide ((0:Int)<=(4:Int)))&&(decide ((4:Int)<=(4:Int))))&&(WH (Xb (4:Int))))=true:=rfl;unfold Ck at h;rw[OW s H,Ge Ω Ω H,j,zL.2 d,m,t]at h;simp only[ret,Xd,Xu,Wc,We]at h;obtain⟨o,e,x⟩:=mx.1 h;unfold N1;rw[UC s H,OR Ω Ω H,j,zL.2 d,n,t];obtain⟨k,rfl⟩:∃k,N=k+1:=⟨N-1,Ω⟩;have:=(YM (a:=false) (g:=id) (e:=a) (Z:=T.2) (Q:=T) H (λo f=>by
   obtain⟨i,A,rfl⟩:=cN f;exact(b.Y.ok i A).1) b.Y.len (λz=>by cases z) (λ_=>rfl) (λ_ h _=>h) (λz=>by cases z) (λ_=>⟨D,E,λq B r c y o C h=>Wyt H (b.κ q B) C h⟩) (r:=[0,0,0,0]) rfl e).1
 have u:Zv0 (k+1) p.1 p.2 a (Xp (Xb 4) 0) T=some o:=this;simp only[ret,Xd,Xu,Wc,We,u];exact x
end
end
end
section
section
variable{N:Nat}{w:Wo}{x y:Rt}{R:Type}
theorem Ug:IE N x.e=ret (stl x):=by
 unfold IE stl;have g:P20 x.e=x.l.e:=rfl;have j:P7 x.e=x.H:=rfl;have i:x.e.1=x.g:=rfl;have d:∀a b:Int,(a==b)=decide (a=b):=λa b=>by by_cases h:a=b<;>simp[h]
 have f:∀a b:Int,(a !=b)=decide (a≠b):=λa b=>by by_cases h:a=b<;>simp[h]
 simp only[Wm,i,j,g,show x.l.e.2.2.1=x.l.g from rfl,d,f];by_cases c:x.g=8
 .simp[c,ret]
 .by_cases h5:x.g=5
  .by_cases c4:x.l.g=4<;>simp[h5,c4,ret]
  .by_cases h6:x.g=6
   .simp[h6,ret]
   .by_cases h7:x.g=7<;>simp[h5,h6,h7,c,ret]
theorem Uz:IF N x.e=ret (Wn x):=by
 unfold IF Wn;rw[Ug];simp only[ret,Xd,WJ,show x.e.1=x.g from rfl];cases stl x with
 |false=>rfl
 |true=>
  simp only[Xu,Wc,gp];split<;>rfl
def zf(x y:Rt):Int:=
 if Wn x<Wn y then-1 else if Wn x>Wn y then 1 else
 if Wn x≠x.u/\Wn y=y.u then-1 else if Wn x=x.u/\Wn y≠y.u then 1 else
 if x.EB<y.EB then-1 else if x.EB>y.EB then 1 else 0
theorem WyS:NM N x.e y.e=ret (zf x y):=by
 unfold NM;rw[Uz,Uz];have a:∀z:Rt,P10 z.e=z.EB:=λ_=>rfl;have b:∀z:Rt,P4 z.e=z.u:=λ_=>rfl;simp only[ret,Xd,Wm,a,b];unfold zf
 grind
theorem Wur{a b}(h:b<a):zf (rw' w a) (rw' w b)<0↔cfR w a b<0:=by
 rw[nW];unfold zf noW
 repeat' split
 all_goals(first|omega|(simp_all;omega)|simp_all)
def iH(c:Nat->Nat->Bool)(x:Nat):List Nat->List Nat
 | []=>[x]
 |y::q=>if c x y=true then y::iH c x q else x::y::q
def cR(w:Wo)(a b:Nat):Bool:=decide (zf (rw' w a) (rw' w b)<0)
theorem QV{c}{x}:∀{q},(iH c x q).length=q.length+1
 | []=>rfl
 |y::q=>by
  rw[iH];split
  .rw[Xv,QV,Xv]
  .simp
theorem GZ{c}{x z}:∀{q},z∈iH c x q↔z=x\/z∈q
 | []=>by simp[iH]
 |y::q=>by
  rw[iH];split
  .rw[Xr,GZ,Xr]
   grind
  .simp
theorem WuV{x}:∀{q},q.Pairwise (λa b=>cfR w b a<0)->(∀y∈q,y<x)->(iH (cR w) x q).Pairwise (λa b=>cfR w b a<0)
 | [],_,_=>by simp[iH]
 |y::q,h,hl=>by
  obtain⟨f,i⟩:=Xz.1 h;have e:=hl y (Xg ..);rw[iH];split
  .rename_i d;have d:=(Wur e).1 (Wx d);refine Xz.2 ⟨λz c=>?_,WuV i λz c=>hl z (Xe _ c)⟩;rcases GZ.1 c with rfl|c
   .exact d
   .exact f z c
  .rename_i d;have d:¬cfR w x y<0:=λz=>d (Wf ((Wur e).2 z));have g:cfR w y x<0:=by
    rw[nW]at d|-;omega
   refine Xz.2 ⟨λz c=>?_,h⟩;rcases Xr.1 c with rfl|c
   .exact g
   .exact sB.tr _ _ _ (f z c) g
theorem YQ:∀{l q:List Nat},q.Pairwise (λa b=>cfR w b a<0)->(∀y∈q,∀z∈l,y<z)->l.Pairwise (· < ·)->(l.foldl (λq x=>iH (cR w) x q) q).Pairwise (λa b=>cfR w b a<0)/\∀z,z∈l.foldl (λq x=>iH (cR w) x q) q↔z∈q\/z∈l
 | [],q,h,_,_=>⟨h,λz=>Δ⟩
 |x::l,q,h,d,hl=>by
  obtain⟨f,g⟩:=Xz.1 hl;obtain⟨a,b⟩:=YQ (l:=l) (WuV h λy c=>d y c x (Xg ..)) (λy c z e=>by
   rcases GZ.1 c with rfl|c
   .exact f z e
   .exact d y c z (Xe _ e)) g
  refine⟨a,λz=>?_⟩;rw[eM,b z,GZ,Xr]
  grind
theorem Ww7:((slR w).foldl (λq x=>iH (cR w) x q) []).reverse=rks w:=by
 have e:(slR w).Pairwise (· < ·):=List.Pairwise.filter _ List.pairwise_lt_range;obtain⟨a,b⟩:=YQ (w:=w) (l:=slR w) (q:=[]) List.Pairwise.nil (λy i=>by cases i) e;have d:=List.pairwise_reverse.2 a;have c:((slR w).foldl (λq x=>iH (cR w) x q) []).reverse.Pairwise (Ap (cfR w)):=d.imp λh=>.inl h;have f:=Ds sB d c λx=>Iff.rfl;have g:=Ds sB (m8 (w:=w)).1 c λx=>by
  rw[List.mem_reverse,b x,m8.2 x,<-Hk];simp
 exact f.symm.trans g
theorem Wtb{a b}(c:a<w.c.length)(d:b<w.c.length):NN N (a:Int) (b:Int) w.e=some ((w.e,()),(zf (rw' w a) (rw' w b),())):=by
 have f:w.e.2.2.2.2.2.1=w.c.map Rt.e:=rfl;unfold NN;rw[f,vc c,vc d,rV c,rV d,WyS];rfl
abbrev ci(l:List Nat):List Int:=l.map λk:Nat=>(k:Int)
theorem Ub{i b}(A:Int->Bool->List Int->Y_World->Option R):∀(q) (x) (S) (v),q.length<v->q.length+S.length<=1000->x<w.c.length->(∀y∈q,y<w.c.length)->
  ∃j t,Zr N 0 b i A v (q.length:Int) (ci (q.reverse++x::S)) w.e=A j t (ci ((iH (cR w) x q).reverse++S)) w.e
 | [],x,S,v,f,h,d,h4=>by
  obtain⟨g,rfl⟩:∃g,v=g+1:=⟨v-1,Ω⟩;exact⟨0,false,rfl⟩
 |y::q,x,S,v,f,h,d,h4=>by
  obtain⟨g,rfl⟩:∃g,v=g+1:=⟨v-1,Ω⟩;simp only[Xv]at f h;have l:(y::q).reverse++x::S=q.reverse++y::x::S:=Δ
  have p:(q.reverse++y::x::S).length=q.length+2+S.length:=Φ
  have r:(ci (q.reverse++y::x::S)).length=q.length+2+S.length:=by rw[aP,p]
  have n:Xc (ci (q.reverse++y::x::S)) (Xb ((q.length+1:Nat):Int)) 0=(x:Int):=by
   simp[Xgk]
  have o:Xc (ci (q.reverse++y::x::S)) (Xb (q.length:Int)) 0=(y:Int):=by
   simp[Xgk]
  have m:ah .i64 ((q.length+1:Nat):Int) 1=(q.length:Int):=by rw[eh Λ];omega
  have u:inb ((q.length+1:Nat):Int) (ci (q.reverse++y::x::S)).length=true:=Wp Ω;have k:inb (q.length:Int) (ci (q.reverse++y::x::S)).length=true:=Wp Ω;rw[l,Xv,Zr,Wf Ω];simp only[Wm,We,u,m,k,n,o,Wtb d (h4 y Δ),Xd];by_cases c:zf (rw' w x) (rw' w y)<0
  .have a:Xi (Xi (ci (q.reverse++y::x::S)) (Xb ((q.length+1:Nat):Int)) (y:Int)) (Xb (q.length:Int)) (x:Int)=ci (q.reverse++x::y::S):=by
    simp[List.set_append_right]
   rw[Wf c,We,Xx,k,We,a];obtain⟨j,t,e⟩:=Ub (i:=i) (b:=b) A q x (y::S) g Ω Φ d λz s=>h4 z (by simp[s]);refine⟨j,t,e.trans ?_⟩;rw[iH,Wb (show cR w x y=true from Wf c)];simp
  .rw[Wj c,Wc];refine⟨((q.length+1:Nat):Int),false,?_⟩;rw[iH,Wa (show¬cR w x y=true fromλz=>c (Wx z))];simp
theorem Uc(n:1048576<N)(a:Int->Bool->List Int->Y_World->Option R):∀(l q) (v),l.length<v->q.length+l.length<=1000->(∀y∈q,y<w.c.length)->(∀y∈l,y<w.c.length)->
  ∃i t,Zk N 0 ((q.length+l.length:Nat):Int) a v (q.length:Int) (ci (q.reverse++l)) w.e=a i t (ci (l.foldl (λq x=>iH (cR w) x q) q).reverse) w.e
 | [],q,v,h,k,d,h4=>by
  obtain⟨g,rfl⟩:∃g,v=g+1:=⟨v-1,Ω⟩;refine⟨(q.length:Int),false,?_⟩;rw[Zk,Wj Δ,Wc,rb];rfl
 |x::l,q,v,h,k,d,h4=>by
  obtain⟨g,rfl⟩:∃g,v=g+1:=⟨v-1,Ω⟩;simp only[Xv]at h k;rw[Zk,Wf Φ,We];obtain⟨j,t,e⟩:=Ub (N:=N) (i:=(q.length:Int)) (b:=((q.length+(x::l).length:Nat):Int)) (λs u p m=>
  (Zk N 0 ((q.length+(x::l).length:Nat):Int) a g (Ws .i64 (q.length:Int) (1:Int)) p m)) q x l N Ω Ω (h4 x Δ) d
  obtain⟨o,r,f⟩:=Uc n a l (iH (cR w) x q) g Ω (by rw[QV];omega) (λy c=>by
   rcases GZ.1 c with rfl|c
   .exact h4 _ Δ
   .exact d y c) λy c=>h4 y (by simp[c])
  refine⟨o,r,e.trans ?_⟩;rw[QV]at f;rw[Wl,Xv,show q.length+(l.length+1)=q.length+1+l.length by omega];exact f
theorem WtS(h:1048576<N){l}(f:l.length<=4)(c:∀y∈l,y<w.c.length):Ma N (ci l) w.e=some ((ci (l.foldl (λq x=>iH (cR w) x q) []).reverse,(w.e,())),()):=by
 have j:Wi (ci l)=(l.length:Int):=by unfold Wi;rw[aP]
 have b:Zx N (ci l) 0 (l.length:Int) w.e=some ((ci (l.foldl (λq x=>iH (cR w) x q) []).reverse,(w.e,())),()):=by
  cases l with
  |nil=>
   obtain⟨g,rfl⟩:∃g,N=g+1:=⟨N-1,Ω⟩;rfl
  |cons x l=>
   simp only[Xv]at f;obtain⟨i,t,e⟩:=Uc (w:=w) h (λm n d k=>(some ((d,(k,())),()):Option ((List Int×(Y_World×Unit))×Unit))) l [x] N Ω Φ (λy a=>by
    rw[dq.1 a];exact c x Δ) λy a=>c y (by simp[a])
   rw[show(([x].length+l.length:Nat):Int)=((x::l).length:Int) by simp;omega]at e;exact e
 unfold Ma H9;obtain⟨g,rfl⟩:∃g,N=g+1:=⟨N-1,Ω⟩;rw[j,H7,Wj (show¬(20:Int)<=(l.length:Int) by omega),Wc,b];simp only[Xd];rw[H8,Wj (show¬(20:Int)<(l.length:Int) by omega),Wc];rfl
theorem Tx(m:w.c.length<=4){a:Int->Bool->List Int->Option R}:∀(d j e),j+d=w.c.length->d<e->yQ N (w.c.map Rt.e) w.e a e (j:Int) (ci ((bJ j).filter λk=>stl (rw' w k)))=a (w.c.length:Int) false (ci (slR w))
 |0,j,e,l,hf=>by
  obtain⟨g,rfl⟩:∃g,e=g+1:=⟨e-1,Ω⟩;have:j=w.c.length:=Ω
  subst this;have c:w.e.2.2.2.2.2.1=w.c.map Rt.e:=rfl;have i:w.c.length=(w.c.map Rt.e).length:=Δ
  rw[yQ,c]
  conv=>lhs;rw[i]
  rw[W0 (Xj _),Wc,<-i];rfl
 |d+1,j,e,l,hf=>by
  obtain⟨g,rfl⟩:∃g,e=g+1:=⟨e-1,Ω⟩;have f:j<w.c.length:=Ω
  have c:w.e.2.2.2.2.2.1=w.c.map Rt.e:=rfl;have h:j<(w.c.map Rt.e).length:=by simpa using f
  have o:=Tx m (a:=a) d (j+1) g Ω Ω;rw[L2,vn,ci,Xw]at o;have n:WH ((Xa (ci ((bJ j).filter λk=>stl (rw' w k))))+(Xa [(j:Int)]))=true:=Ww (by
   have:=Sm (λk=>stl (rw' w k)) (bJ j);simp at this|-;omega)
  rw[yQ,c,WM h,Wp h,rV f,Ug];simp only[We,ret,Xd,n,Wl (j:=j)];cases b:stl (rw' w j)with
  |true=>
   simp only[io,b,L4,gp,bo,d6]at o;exact o
  |false=>
   simp only[io,b,L4]at o;rw[Wa Δ,d6,rb]at o;exact o
theorem Pq(b:1048576<N)(a:w.c.length<=4):Cu N w.e=ret ((rks w).map λk:Nat=>(k:Int)):=by
 refine Eq.trans (Tx (N:=N) a w.c.length 0 N Ω Ω) ?_;rw[WtS b (po a) λy c=>(Hk.1 c).1,Ww7];rfl
end
end
section
section
variable{N c:Nat}{s:Sc}{w:Wo}{G:Nat->Option GE}{k j:Nat}{n:Int}
theorem WBj(h:ZX N c KZ0 KZ1 s n w G){i}(a:i<(rks w).length)(u:k<i):¬((rw' w (rks w)[i]).g=8/\(rw' w (rks w)[i]).EB<(rw' w ((rks w)[k]'Ω)).EA):=λ⟨j,f⟩=>by
 have l:k<(rks w).length:=Ω
 obtain⟨e,o⟩:=qs a;obtain⟨d,g⟩:=qs l;have A:=fh.1 (m8 (w:=w)).1 k i l a u;rw[nW]at A;generalize (rks w)[i]=z at*;generalize (rks w)[k]=b at*;obtain⟨p,_⟩:=LP h d g;obtain⟨q,_⟩:=LP h e o;have x:=(h.ga.ra b d).s8;rw[kM e]at j f A q;rw[kM d]at f A p g;have y:=h.tt.rt z b e d j f;have v:=h.tt.en b d;have r:noW w.c[z]=if Wn w.c[z]=w.c[z].u then 1 else 0:=rfl;have t:noW w.c[b]=if Wn w.c[b]=w.c[b].u then 1 else 0:=rfl;by_cases m:w.c[b].g=8
 .have:=v m;rw[r,t]at A;split at A<;>split at A<;>omega
 .have:=x g m;omega
theorem On(l:w.c.length<=4){R}{a}{b:Ka8 R}(h:ZX N c KZ0 KZ1 s n w G){i}(E:i<(rks w).length):∀(d j e),j+d=i->d<e->sP N (i:Int) w.e ((rks w).map λk:Nat=>(k:Int)) a b e (j:Int)=b (i:Int) false
 |0,j,e,v,hf=>by
  obtain⟨g,rfl⟩:∃g,e=g+1:=⟨e-1,Ω⟩;have:j=i:=Ω
  subst this;rw[sP,Wj Ω,Wc]
 |d+1,j,e,v,hf=>by
  obtain⟨g,rfl⟩:∃g,e=g+1:=⟨e-1,Ω⟩;have m:=On l (a:=a) (b:=b) h E d (j+1) g Ω Ω;have B:(rks w).length<=4:=by rw[pn];exact po l
  have q:j<(rks w).length:=Ω
  have o:i<((rks w).map λk:Nat=>(k:Int)).length:=by simpa using E
  have p:j<((rks w).map λk:Nat=>(k:Int)).length:=by simpa using q
  obtain⟨D,_⟩:=qs E;obtain⟨f,_⟩:=qs q;have y:=WBj h E (Ω:j<i);have t:P5 w.e=w.c.map Rt.e:=rfl;have r:∀x:Rt,x.e.1=x.g:=λ_=>rfl;have A:∀x:Rt,x.e.2.2.2.2.2.2.2.2.2.2.1=x.EB:=λ_=>rfl;have u:∀x:Rt,x.e.2.2.2.2.2.2.2.2.2.1=x.EA:=λ_=>rfl;rw[sP,Wf Ω];simp only[We,Wp o,Wp p,Wu o,Wu p,eZ,t,vc D,vc f,rV D,rV f,r,u,A,Wl (j:=j)];by_cases C:(rw' w (rks w)[i]).g=8
  .rw[show((rw' w (rks w)[i]).g==(8:Int))=true by simpa using C,We,Wj λz=>y ⟨C,z⟩,Wc];exact m
  .rw[show((rw' w (rks w)[i]).g==(8:Int))=false by simpa using C,Wc];exact m
theorem Wpv(g:1048576<N)(a:w.c.length<=4)(h:ZX N c KZ0 KZ1 s n w G):Fi N w.e=ret true:=by
 unfold Fi;rw[J0 g a];simp only[ret,Xd];have m:(rks w).length<=4:=by rw[pn];exact po a
 have d:=WF (l:=(rks w).map λk:Nat=>(k:Int)) (V:=Unit) (R:=Unit×Ks) (c:=λn j _=>A3 N w.e ((rks w).map λk:Nat=>(k:Int)) (some ((),(false,()))) (λp o=>(some ((),(true,())))) n j) (n:=N) Φ
  (b:=λj x v k=>k v) (K:=λ_ v=>some ((),(true,())))
  (λn i v b=>by
   have e:i<(rks w).length:=by simpa using b
   simp only[A3,WM b,We];refine Eq.trans (On a h e i 0 N Ω Ω) ?_;rw[Wl (j:=i)])
  (λn v=>by simp only[A3,W0 (Xj _),Wc]) ()
 refine d.trans ?_;rw[zv (f:=λv _=>v) _ 0 () (λj x v k _=>rfl)]
theorem Wle(a:1048576<N)(r:SB s)(D:dF s=true)(d:OA (λi=>s.1.1.getD i.toNat 0) s n w)(q:n<=1000000):FL N s w.e=ret true:=by
 obtain⟨o,J,L,M⟩:=rP D;have b:=o.S;have c:=d.hg q;have O:w.c.length<=4:=by rw[d.ok.len];exact d.ok.l4
 have G:=λk F=>WAf (k:=k) d q b F;have S:(w.c.map Rt.e).length=w.c.length:=aP ..;have m:P5 w.e=w.c.map Rt.e:=rfl;have E:Q6 w.e=w.C:=rfl;have u:w.e.2.2.2.2.2.2=w.C:=rfl;have I:∀x:Rt,x.e.2.2.2.2.1=x.u:=λ_=>rfl;have y:∀x:Rt,x.e.2.2.2.2.2.2.2.2.2.2.2.2.2.1=x.o:=λ_=>rfl;have z:∀x:Rt,x.n.e.1=x.n.u:=λ_=>rfl;have t:∀x:Rt,x.e.2.2.2.2.2.2.2.2.2.2.2.2.2.2.2.2.2.2.2.2.2=x.n.e:=λ_=>rfl;unfold FL;rw[Ge (by have:=r.S;omega) (by have:=r.map;omega) a,zL.2 o,u,OZ c a];simp only[ret,Xd,Xu,Wc];have H:=WF (l:=w.c.map Rt.e) (V:=Unit) (R:=Unit×Ks) (c:=λn j v=>BV N s w.e (some ((),(false,()))) (λP Q=>(some ((),(true,())))) n j) (n:=N) Ω
  (b:=λj x v k=>k v) (K:=λ_ v=>some ((),(true,())))
  (λn i v p=>by
   have h:i<w.c.length:=Ω
   obtain⟨g,A,B,C⟩:=G i h;simp only[BV,Wm,m,E,WM p,Wp p,Oz h,We,I,y,z,t,Wl (j:=i),CV (Ω:w.c[i].o.length<=1048576) a,zx g.1 g.2,ret,Xd,Xu,Wc,WmG c b a];rw[show(0:Int)=((0:Nat):Int)from rfl,Wwu h (Lz c b).1 g A w.c[i].o.length 0 N Ω Ω];simp only[WoY B (Lz c b).1 C a,ret,Xd,Xu,Wc])
  (λn v=>by simp only[BV,m,W0 (Xj _),Wc]) ()
 refine H.trans ?_;rw[zv (f:=λv _=>v) _ 0 () (λj x v k _=>rfl)]
theorem WwK(a:1048576<N)(e:SB s)(b:dF s=true)(h:ZX N (N-2) KZ0 KZ1 s n w G):N6 N s w.e=ret true:=by
 have d:w.c.length<=4:=by rw[h.oa.ok.len];exact h.oa.ok.l4
 unfold N6;rw[show(Wi w.e.2.2.2.2.2.1==Wi s.2.1)=true by
  show(Wi (w.c.map Rt.e)==_)=true;unfold Wi;rw[aP,h.oa.ok.len];simp,We,Wle a e b h.oa (by have:=h.n5;omega)]
 simp only[ret,Xd,We];obtain⟨c,rfl⟩:∃c,N=c+2:=⟨N-2,Ω⟩;rw[Wlk h e a b];simp only[ret,Xd,We];rw[Wpv a d h];rfl
end
end
section
variable{s:Sc}{w v:Wo}{n:Int}{x y:Rt}{k:Nat}{p:Pg}{f g:Fm}{m:Mm}{o:Opn}
def jh(p:Pg)(x:Rt):Int:=if x.g<=4 then WC p x-292 else WC p x
def F7(p:Pg)(x y:Rt):Prop:=y.g=1\/y.g=2\/y.g=8\/y.g=3\/(y.g=6/\y.H=0)\/(y.g=5/\WC p y<=x.y.length+36)
theorem WmM:(WA x).g=3\/((WA x).g=6/\(WA x).H=0):=by
 unfold WA;split
 .exact .inr ⟨rfl,rfl⟩
 .exact .inl rfl
theorem VP(a:RLive p n x)(c:k<=8){out}:F7 p x (W9 w x k out).2:=by
 unfold W9;simp only;generalize (if out=2 then []else x.A)=b;split
 .exact .inr (.inr (.inl rfl))
 .have hc:CmOk (cx ((k:Int)+1) x.u b x.o):=Qp Ω a.u;have:=(JT hc).2.1;have e:WC p ({x with H:=out,l:=cx ((k:Int)+1) x.u b x.o,g:=5}:Rt)=c6 (cx ((k:Int)+1) x.u b x.o)+x.y.length+3:=rfl;refine .inr (.inr (.inr (.inr (.inr ⟨rfl,?_⟩))));show WC p ({x with H:=out,l:=cx ((k:Int)+1) x.u b x.o,g:=5}:Rt)<=_;rw[e];omega
theorem WyI(e:RLive p n x)(a:x.g=1)(d:k<=8):F7 p x (am w x k p).2:=by
 have one:∀y:Rt,y.g=1->F7 p x y:=λy h=>.inl h;have c:∀z:Rt,F7 p x (WA z):=λz=>by
  rcases WmM (x:=z)with h|h
  .exact .inr (.inr (.inr (.inl h)))
  .exact .inr (.inr (.inr (.inr (.inl h))))
 unfold am;split
 .exact VP e d
 .simp only;generalize opN p.1 x.k=o;split
  .show F7 p x (dX w x o);unfold dX;cases bf x.A o.2.2.1 with
   |some v=>exact one _ a
   |none=>
    simp only;generalize WU w.i x.u _=i;split
    .exact c _
    .split<;>exact one _ a
  .split
   .unfold fV;split
    .exact VP e d
    .split<;>exact one _ a
   .split
    .exact .inr (.inl rfl)
    .split
     .unfold eN;cases fN w.a ((k:Int)+1) (WO o).1 (WO o).2 with
      |none=>exact c _
      |some b=>exact one _ a
     .repeat' split
      all_goals exact one _ a
theorem WuU(b:POk p)(c:ROk p n x)(e:RT x)(a:RGd m x):1<=jh p x:=by
 have g:=(ua b c e).2.2;have j:=a.ph;have l:=a.sp;unfold jh;by_cases f:x.g=1
 .have:=Gz b.Y (c.Ev Ω) e f;rw[Wb Ω];omega
 by_cases d:x.g=2
 .have hl:=c.Ev Ω;have h:=hl.k;have i:=b.Y.len;have k:=LI x.n x.n.κ;rw[Wb Ω,Rg d,Wa (by rw[(a.n d).Ey];simp)];unfold j3 cY;omega
 .rw[Wa Ω];exact g Ω
theorem WDp(d:POk p)(g:ROk p n x)(z:RX x)(f:RT x)(l:k<=8)(a:RGd w.i x)(t:∀e∈w.a,e.1=(k:Int)+1)(u:W4 w.i=true)(s:LB w k x)(o:w.i.1<1000000):
  (WS w x k p).2.g=8\/(RGd (WS w x k p).1.i (WS w x k p).2/\(jh p (WS w x k p).2<jh p x\/(x.g=2/\x.n.Ey≠true/\ig x.n≠true/\(WS w x k p).2=x))):=by
 rcases Wx0 d g a f t u s o with r|c
 .exact .inl r
 refine .inr ⟨c,?_⟩;have A:=a.ph;have m:=c.ph;rcases VZ (w:=w) d g z f l Ω with i|zS
 .left;have B:=a.sp;by_cases b:x.g=1
  .have hl:=g.Ev Ω;have v:=WyI (w:=w) hl b l;have C:=Gz d.Y hl f b;have e:WS w x k p=am w x k p:=by
    unfold WS;rw[Wa (by rw[a.dm];simp),Wa Ω,Wb b]
   rw[e]at c m i|-;have y:=c.ft;unfold jh;rw[Wb (Ω:x.g<=4)];rcases v with h|h|h|h|h|h
   .rw[Wb Ω];omega
   .rw[Wb Ω];omega
   .omega
   .omega
   .exact Wh h.2 (y Ω)
   .rw[Wa Ω];omega
  by_cases j:x.g=2
  .have e:(WS w x k p).2=ch x:=by
    unfold WS;rw[Wa (by rw[a.dm];simp),Wa Ω,Wa b,Wb j]
   rw[e]at i|-;have q:(ch x).g<=4:=by
    unfold ch;rw[Wa (by rw[(a.n j).Ey];simp)];split
    .show(1:Int)<=4;omega
    .omega
   unfold jh;rw[Wb q,Wb Ω];omega
  .unfold jh;rw[Wa (show¬x.g<=4 by omega)];split<;>omega
 .exact .inr zS
theorem WBc{z}{j}{c}(h:z.g=3):bn m f z j c=(f,z):=by
 unfold bn;rw[Wa Ω,Wa Ω,Wa Ω]
theorem Wts(h:ig f=true){j}(a:j<f.κ.length){c}:aC m f j c=f:=by
 unfold aC;split
 .rfl
 .have h3:f.κ[j].g=3:=by
   unfold ig at h;rw[cS]at h;simpa using h _ (Xm a)
  rw[show f.κ.getD j {}=f.κ[j]from Wk a _,WBc h3];unfold Fm.put;simp only;rw[jt]
variable{a:List (List Opn)}
theorem Vp(h:ig f=true):∀(d i),i+d=f.κ.length->kK m a d i f=f
 |0,_,_=>rfl
 |d+1,i,b=>by rw[kK,Wts h Ω];exact Vp h d (i+1) Ω
theorem XZ(e:W4 m=true)(b:∀c∈a,KC c)(l:a.length<=3):∀(d i) (n) (f),i+d=a.length->FOk a n f->(∀(j) (h),KT f j f.κ[j])->FGd m f->FGd m (kK m a d i f)
 |0,_,_,_,_,_,_,hg=>hg
 |d+1,i,n,f,r,t,o,hg=>by
  have q:=t.len;have p:KC (a.getD i []):=by rw[Wk (Ω:i<a.length) _];exact b _ (Xm _)
  have g:=WxV (k:=i) t o hg Ω p;rw[kK];refine XZ e b l d (i+1) (n+1) _ Ω (KG Ω e p t rfl) ?_ g;rcases ZN e b l t o (k:=i) Ω with h|h
  .rw[g.Ey]at h;cases h
  .exact h
def gq(m:Mm)(p:Pg)(d i:Nat)(x:Rt):Rt:=if x.g=2 then{x with n:=kK m p.2 d i x.n}else x
theorem Wsl:∀(d j) (w) (b),j+d=(s.2.1.getD k pg0).2.length->
  fX s k d j w={w with j:=w.j+d,c:=w.c.set k (gq w.i (s.2.1.getD k pg0) d j w.c[k])}
 |0,j,w,b,hj=>by
  have:gq w.i (s.2.1.getD k pg0) 0 j w.c[k]=w.c[k]:=by
   unfold gq;split<;>rfl
  rw[fX,this,jt];simp
 |d+1,j,w,b,hj=>by
  rw[fX];have i:0<=(k:Int)/\(k:Int)<w.c.length:=Ω
  have l:w.c.getD k rt0=w.c[k]:=Wk b _;have e:aq s w (2,(k:Int),(j:Int))={w with j:=w.j+1,c:=w.c.set k (gq w.i (s.2.1.getD k pg0) 1 j w.c[k])}:=by
   unfold aq;simp only[Xf];rw[Wb i,Wa Ω,Wb trivial,l];unfold gq;by_cases a:w.c[k].g=2
   .rw[Wb ⟨a,Ω,Ω⟩,Wb a];rfl
   .rw[Wa (λh=>a h.1),Wa a,jt]
  have c:k<(aq s w (2,(k:Int),(j:Int))).c.length:=by rw[e];show k<(w.c.set k _).length;rw[Xx];exact b
  rw[Wsl d (j+1) _ c Ω];have f:(aq s w (2,(k:Int),(j:Int))).c[k]=gq w.i (s.2.1.getD k pg0) 1 j w.c[k]:=by
   simp[e,Sn]
  rw[f,e];simp only[mz];have g:gq w.i (s.2.1.getD k pg0) d (j+1) (gq w.i (s.2.1.getD k pg0) 1 j w.c[k])=gq w.i (s.2.1.getD k pg0) (d+1) j w.c[k]:=by
   unfold gq;by_cases a:w.c[k].g=2
   .rw[Wb a,Wb a,Wb a];rfl
   .rw[Wa a,Wa a,Wa a]
  rw[g];congr 1;omega
end
section
variable{s:Sc}{w v:Wo}{n:Int}{x y:Rt}{k:Nat}{p:Pg}{f g:Fm}{m:Mm}{o:Opn}
theorem Wtf(c:x.g≠0)(q:(WS w x k p).2.g=0):(WS w x k p).2.G=x.G+1:=by
 unfold WS at q|-;by_cases l:x.U=true/\1<=x.g/\x.g<=4
 .rw[Wb l]at q;exact Wh (show(6:Int)=0 from q) Ω
 rw[Wa l,Wa c]at q|-;by_cases d:x.g=1
 .rw[Wb d]at q;have e:∀b,(W9 w x k b).2.g≠0:=λb=>by
   unfold W9;simp only;generalize (if b=2 then []else x.A)=a;split
   .show(8:Int)≠0;omega
   simp_all
  have:(am w x k p).2.g≠0:=by
   unfold am;split
   .exact e _
   .simp only;generalize opN p.1 x.k=o;split
    .exact(Lp d).1
    .split
     .unfold fV;split
      .exact e _
      .split<;>(show x.g≠0;omega)
     grind [eN,fN,WO,Gj]
  exact Wh q this
 rw[Wa d]at q|-;by_cases f:x.g=2
 .rw[Wb f]at q;have:(ch x).g≠0:=by
   unfold ch;split
   .show(6:Int)≠0;omega
   grind
  exact Wh q this
 rw[Wa f]at q|-;by_cases g:x.g=3
 .rw[Wb g]at q;have:(fK w x).2.g≠0:=by
   unfold fK;split
   .exact c
   simp_all
  exact Wh q this
 rw[Wa g]at q|-;by_cases h:x.g=4
 .rw[Wb h]at q;have:(W6 w x).g≠0:=by
   unfold W6;simp only;split
   .split
    .show(6:Int)≠0;omega
    .exact c
   simp_all
  exact Wh q this
 rw[Wa h]at q|-;by_cases i:x.g=5
 .rw[Wb i]at q;have:(W7 w x k).2.g≠0:=by
   unfold W7;split
   .split
    .show(6:Int)≠0;omega
    .exact c
   .show(cX {x with l:=(Wv w.i x.l).2}).g≠0;unfold cX;split
    .show(6:Int)≠0;omega
    grind
  exact Wh q this
 rw[Wa i]at q|-;by_cases j:x.g=6
 .rw[Wb j]at q;split at q
  .exact Wh q c
  simp_all
 rw[Wa j]at q|-;by_cases m:x.g=7
 .rw[Wb m]at q|-;split at q
  .rw[Wb ‹_›]
  .exact Wh (show(8:Int)=0 from q) Ω
 simp_all
structure WI(s:Sc)(n:Int)(w:Wo):Prop where
 ok:WOk s.2.1 n w
 wx:WX w
 lx:LX w
 wt:WT w
 tx:TX w
theorem WI.act(h:WI s n w)(a):WI s (n+1) (aq s w a):=
 ⟨nV h.ok,(C3 h.ok h.wx).1,Ld h.ok h.wx h.lx,RB h.ok h.wt,WvG h.ok h.lx h.tx⟩
theorem WI.κ:∀(d j:Nat) (n) (w),WI s n w->WI s (n+d) (fX s k d j w)
 |0,_,n,w,h=>by grind [fX]
 |d+1,j,n,w,h=>by
  have:=WI.κ d (j+1) (n+1) _ (h.act (2,(k:Int),(j:Int)))
  grind [fX]
def yb(s:Sc)(k:Nat)(w:Wo):Wo:=fX s k (s.2.1.getD k pg0).2.length 0 (aq s w (1,(k:Int),0))
theorem WI.blk(h:WI s n w):WI s (n+1+(s.2.1.getD k pg0).2.length) (yb s k w):=WI.κ _ _ _ _ (h.act _)
theorem WCs(h:WOk s.2.1 n w)(a:k<w.c.length):yb s k w=
  (λq:Wo×Rt=>{q.1 with j:=q.1.j+(s.2.1.getD k pg0).2.length,c:=w.c.set k (gq q.1.i (s.2.1.getD k pg0) (s.2.1.getD k pg0).2.length 0 q.2)}) (WS {w with j:=w.j+1} w.c[k] k (s.2.1.getD k pg0)):=by
 have c:=qu h a;have b:0<=(k:Int)/\(k:Int)<w.c.length:=Ω
 have e:aq s w (1,(k:Int),0)=Wo.put (WS {w with j:=w.j+1} w.c[k] k (s.2.1.getD k pg0)) k:=by
  unfold aq;simp only[Xf];rw[Wb b,Wb trivial];unfold m9;rw[Wk (show k<({w with j:=w.j+1}:Wo).c.length from a)]
 grind [yb,WS,pg0,Wo.put,Xx,Wsl,Sn,mz]
theorem Yr{d i}:(gq m p d i x).g=x.g/\(gq m p d i x).G=x.G:=by
 unfold gq;split<;>exact⟨rfl,rfl⟩
theorem C2{d i}(h:x.g≠2):gq m p d i x=x:=by unfold gq;rw[Wa h]
theorem WvQ(g:POk p)(d:ROk p n x)(h:RT x)(f:W4 m=true):WC p (gq m p p.2.length 0 x)<=WC p x:=by
 by_cases a:x.g=2
 .obtain⟨i,j,e⟩:=(d.Ev Ω).V a;unfold gq;rw[Wb a];by_cases b:x.n.Ey=true
  .rw[I7 _ _ _ b];exact Xt _
  by_cases c:ig x.n=true
  .rw[Vp c _ _ (by rw[e.len];omega)];exact Xt _
  .have:=PX g d h a b c f;omega
 simp_all [C2,Xt]
structure BK(w v:Wo)(k:Nat)(p:Pg)(x y:Rt):Prop where
 tok:v.N=w.N\/(v.N=(k:Int)+1/\w.N=0/\x.g=0/\y.g=0)\/(w.N=(k:Int)+1/\v.N=0/\y.g=8)
 i:x.g≠5->v.i=w.i
 done:x.g=8->y=x
 idle:x.g=0->(y=x/\(w.N=0->v.N=(k:Int)+1)/\(w.N=(k:Int)+1->lA k w.c 0=false))\/
  (y.g=1/\WC p y=785/\y.G=x.G/\v.N=w.N/\(w.N=0/\x.G<3\/w.N=(k:Int)+1/\lA k w.c 0=true/\RGd v.i y/\jh p y=493))
 Ev:1<=x.g/\x.g<=7->y.g=8\/(y.g=0/\y.G=x.G+1)\/((1<=y.g/\y.g<=7)/\y.G=x.G/\WC p y<WC p x)
 keep:x.g≠0->x.g≠8->y.g≠0->y.G=x.G
 good:x.g≠0->x.g≠8->RGd w.i x->(∀e∈w.a,e.1=(k:Int)+1)->y.g=8\/(RGd v.i y/\jh p y<jh p x)
theorem WtR(h:WI s n w)(hk)(f:w.c[k].g=0)(g:lA k w.c 0=true){t b}{r}:
  RGd w.i {g:=1,G:=t,u:=w.i.1,EA:=b,t:=r}:=by
 refine⟨rfl,rfl,.inl rfl,λ_=>⟨λi a c=>⟨?_,?_⟩,λh=>by cases h⟩,λh=>Ψ,λh=>Ψ,λh=>Ψ⟩
 .rcases h.lx.ow i a c with e|⟨j,d,e⟩
  .exact e
  .have h5:w.c[j].g≠5:=by
    grind [OO]
   exact Wh e ((h.lx.x j d).no h5 i a c)
 .have:=zI h.ok.i ⟨a,c⟩;simp_all [ki,Xl,Wg]
theorem WCa(h:WI s n w)(hk)(hn:n<=99999):∃y,(yb s k w).c=w.c.set k y/\BK w (yb s k w) k (s.2.1.getD k pg0) w.c[k] y:=by
 have iN:=h.ok.l4;have Z:=h.ok.len;have c:POk (s.2.1.getD k pg0):=uX h.ok.O Ω;have t:=h.ok.x k hk;have G:=h.wx k hk;have r:=h.wt.x k hk;have bE:=h.wt.clk;have pK:=h.ok.j;rw[WCs h.ok hk];generalize fM:s.2.1.getD k pg0=p at*;have o:=Dj (w:={w with j:=w.j+1}) (k:=k) c ⟨h.ok.i,h.ok.D,h.ok.a⟩ t Ω h.ok.n0;have D:=ZH (w:={w with j:=w.j+1}) (k:=k) (p:=p) r;have F:=PF (w:={w with j:=w.j+1}) (x:=w.c[k]) (k:=k) (p:=p);have u:=QN (w:={w with j:=w.j+1}) (x:=w.c[k]) (k:=k) (p:=p);have hz:=Wtf (w:={w with j:=w.j+1}) (x:=w.c[k]) (k:=k) (p:=p);have W:=VZ (w:={w with j:=w.j+1}) (k:=k) c t G r Ω;have Q:LB {w with j:=w.j+1} k w.c[k]:=⟨(h.lx.x k hk).l,(h.lx.x k hk).no,(h.lx.x k hk).hd,(h.lx.x k hk).tk⟩;have U:=λz A=>WDp (w:={w with j:=w.j+1}) (k:=k) c t G r Ω z A h.ok.i Q (Ω:w.i.1<1000000);have K:w.c[k].g=0->WS {w with j:=w.j+1} w.c[k] k p=gH {w with j:=w.j+1} w.c[k] k:=λf=>by
  unfold WS;rw[Wa Ω,Wb f]
 refine⟨_,rfl,?_⟩;have g:=Yr (m:=(WS {w with j:=w.j+1} w.c[k] k p).1.i) (p:=p) (x:=(WS {w with j:=w.j+1} w.c[k] k p).2) (d:=p.2.length) (i:=0);have Y:=WvQ c o.x D o.i;have ar:=C2 (m:=(WS {w with j:=w.j+1} w.c[k] k p).1.i) (p:=p) (x:=(WS {w with j:=w.j+1} w.c[k] k p).2) (d:=p.2.length) (i:=0);constructor
 .rcases u.tok with e|⟨v,L,M,e4⟩|⟨v,L,M⟩
  .exact .inl e
  .simp_all
  simp_all
 .grind
 .intro h8;have e:=u.done h8;simp_all
 .intro f;rw[K f];unfold gH;by_cases I:w.N≠0/\w.N≠(k:Int)+1
  .simp_all [Wb,C2,Wh]
  rw[Wa I];by_cases E:w.c[k].G>=3/\w.N=0
  .rw[Wb E];exact .inl ⟨C2 Ψ,λ_=>rfl,λh=>Ω⟩
  rw[Wa E];by_cases J:w.N=(k:Int)+1/\lA k w.c 0=false
  .simp_all [Wb,C2]
  rw[Wa J];right;have e:∀m,gq m p p.2.length 0 ({g:=1,G:=w.c[k].G,u:=w.i.1,EA:=w.j+1,t:=[0,0,0,0]}:Rt)={g:=1,G:=w.c[k].G,u:=w.i.1,EA:=w.j+1,t:=[0,0,0,0]}:=λm=>C2 Ψ;have H:WC p ({g:=1,G:=w.c[k].G,u:=w.i.1,EA:=w.j+1,t:=[0,0,0,0]}:Rt)=785:=by
   rw[nX rfl];have:dD p 0=382:=by
    rfl
   have v:cY ({g:=1,G:=w.c[k].G,u:=w.i.1,EA:=w.j+1,t:=[0,0,0,0]}:Rt)=328:=rfl;rw[v];show 75-3*0-0+dD p 0+328=785;omega
  refine⟨?_,?_,?_,rfl,?_⟩
  .show(gq w.i p p.2.length 0 ({g:=1,G:=w.c[k].G,u:=w.i.1,EA:=w.j+1,t:=[0,0,0,0]}:Rt)).g=1;rw[e]
  .exact H
  .show(gq w.i p p.2.length 0 ({g:=1,G:=w.c[k].G,u:=w.i.1,EA:=w.j+1,t:=[0,0,0,0]}:Rt)).G=_;rw[e]
  .by_cases f:w.N=0
   .omega
   .have S:w.N=(k:Int)+1:=Ω
    have T:lA k w.c 0=true:=by
     simp_all
    refine .inr ⟨S,T,?_,?_⟩
    .grind [WtR]
    simp_all [jh,Wb]
 .intro aQ;rw[g.1,g.2];have X:=o.x.g;by_cases V:(WS {w with j:=w.j+1} w.c[k] k p).2.g=0
  .omega
  by_cases C:(WS {w with j:=w.j+1} w.c[k] k p).2.g=8
  .exact .inl C
  refine .inr (.inr ⟨Ω,u.try1 Ω Ω V,?_⟩);rcases W aQ with l|⟨a,l,B,e⟩
  .omega
  .rw[e];rcases F with j|j
   .rw[j];have:=PX c t r a l B h.ok.i;simp_all [gq,Wb]
   .omega
 .intro f h8 pF;simp only[g.1]at pF;rw[g.2];exact u.try1 f h8 pF
 .intro f h8 z A;rcases U z A with e8|⟨b,R⟩
  .omega
  right;generalize WS {w with j:=w.j+1} w.c[k] k p=q at*;refine⟨?_,?_⟩
  .by_cases a:q.2.g=2
   .unfold gq;rw[Wb a];obtain⟨f1,f2,N⟩:=(o.x.Ev Ω).V a;have P:=(D.n a).resolve_left (by rw[(b.n a).Ey];simp);exact⟨b.dm,b.sp,b.ph,b.run,λ_=>XZ o.i c.κ c.k3 _ _ _ _ Ω N P (b.n a),λO=>b.l O,b.ft⟩
   simp_all
  .have wa:jh p (gq q.1.i p p.2.length 0 q.2)<=jh p q.2:=by
    unfold jh;rw[g.1];split<;>omega
   rcases R with l|⟨a,l,B,e⟩
   .omega
   .rw[e]at wa|-;rcases F with j|j
    .rw[j];have:=PX c t r a l B h.ok.i;simp_all [gq,kK,Wb,jh,Yr,Int.sub_lt_sub_right]
    .omega
end
section
variable{s:Sc}{w v:Wo}{n:Int}{x y:Rt}{k i:Nat}{p:Pg}
def lj(s:Sc)(j:Nat):Pg:=s.2.1.getD j pg0
structure RJ(w:Wo)(p:Pg)(j:Nat)(x y:Rt):Prop where
 done:x.g=8->y=x
 idle:x.g=0->y=x\/(y.g=1/\WC p y=785/\y.G=x.G/\(x.G<3\/w.N=(j:Int)+1))
 Ev:1<=x.g/\x.g<=7->y.g=8\/(y.g=0/\y.G=x.G+1)\/((1<=y.g/\y.g<=7)/\y.G=x.G/\WC p y<WC p x)
def WCH(w v:Wo)(p:Pg)(k i:Nat)(x y:Rt):Prop:=
 (i<=k->x.g≠0->RGd w.i x->RGd v.i x)/\
 (k<i->(x.g=0->(y=x/\∃(j:Nat) (h:j<w.c.length),j≠k/\1<=w.c[j].g/\w.c[j].g<=7)\/(y.g=1/\RGd v.i y/\jh p y=493))/\(x.g≠0->RGd w.i x->RGd v.i y/\jh p y<jh p x))
structure Rd(s:Sc)(w v:Wo)(i:Nat):Prop where
 len:v.c.length=w.c.length
 rest:∀(j:Nat) (h:j<w.c.length) (h':j<v.c.length),i<=j->v.c[j]=w.c[j]
 did:∀(j:Nat) (h:j<w.c.length) (h':j<v.c.length),j<i->RJ w (lj s j) j w.c[j] v.c[j]
 tk0:w.N=0->(v.N=0/\∀(j:Nat) (h:j<w.c.length) (h':j<v.c.length),j<i->w.c[j].g=0->v.c[j].g=1)\/
  ∃(k:Nat) (h:k<w.c.length) (h':k<v.c.length),k<i/\v.N=(k:Int)+1/\w.c[k].g=0/\v.c[k].g=0
 tk1:∀(k:Nat) (h:k<w.c.length) (h':k<v.c.length),w.N=(k:Int)+1->
  (v.N=(k:Int)+1/\(∀(j:Nat) (h:j<w.c.length) (h':j<v.c.length),j≠k->w.c[j].g=0->v.c[j]=w.c[j])/\WCH w v (lj s k) k i w.c[k] v.c[k])\/
  (k<i/\w.c[k].g≠0/\v.c[k].g=8/\(v.N=0\/∃(j:Nat) (h:j<w.c.length) (h':j<v.c.length),j<i/\j≠k/\v.N=(j:Int)+1/\v.c[j].g=0/\w.c[j].g≠8))
theorem Rd.refl:Rd s w w 0:=
 ⟨rfl,λ_ _ _ _=>rfl,λj _ _ h=>Wh h Ω,λh=>.inl ⟨h,λj _ _ h=>Wh h Ω⟩,λk h _ a=>.inl ⟨a,λ_ _ _ _ _=>rfl,λ_ _ h=>h,λh=>Wh h Ω⟩⟩
theorem Uk:∀{l} {i},lA k l i=false->∃(j:Nat) (h:j<l.length),i+j≠k/\l[j].g≠0/\l[j].g≠8
 | [],i,h=>by cases h
 |x::l,i,h=>by
  rw[lA]at h;by_cases c:i≠k/\x.g≠0/\x.g≠8
  .exact⟨0,Δ,by simpa using c.1,c.2.1,c.2.2⟩
  .have:(decide (i=k)||(decide (x.g=0)||decide (x.g=8)))=true:=by
    simp only[sH,Wg];by_cases d:i=k
    .exact .inl d
    .by_cases e:x.g=0
     .exact .inr (.inl e)
     .by_cases f:x.g=8
      .exact .inr (.inr f)
      .exact Wh ⟨d,e,f⟩ c
   rw[this,sN]at h;obtain⟨j,g,a,b⟩:=Uk h;exact⟨j+1,by simpa using g,Ω,by simpa using b⟩
theorem WwB(h:LX w)(g:∀(j) (a),j≠k->w.c[j].g=0\/w.c[j].g=8):∀e∈w.a,e.1=(k:Int)+1:=λe d=>by
 obtain⟨j,a,c⟩:=h.hd e d;by_cases b:j=k
 .subst b;exact c
 .have:=(h.x j a).hd e d c;rcases g j a b with f|h8
  .exact Wh f this.1
  .exact Wh h8 this.2
theorem Rd.step(h0:WI s n w)(hv:∃n',n'<=99999/\WI s n' v)(q:Rd s w v i)(hi:i<w.c.length):Rd s w (yb s i v) (i+1):=by
 obtain⟨n',tY,B⟩:=hv;have aQ:=q.len;have I:i<v.c.length:=Ω
 obtain⟨y,hy,f⟩:=WCa B I tY;change BK v (yb s i v) i (lj s i) v.c[i] y at f;have R:=q.rest i hi I (Xj _);have Eg:=(B.ok.x i I).g;have kD:=B.lx.tk;have G:=(B.blk (k:=i)).lx;generalize yb s i v=u at*;have hlu:u.c.length=v.c.length:=by rw[hy,Xx]
 have hg:∀(j:Nat) (h:j<u.c.length) (g:j<v.c.length),u.c[j]=if i=j then y else v.c[j]:=λj h g=>by
  simp[hy,fE]
 have A:∀(h:i<u.c.length),u.c[i]=y:=λh=>by rw[hg i h I,Wb rfl]
 have x:∀(j:Nat) (h:j<u.c.length) (g:j<v.c.length),j≠i->u.c[j]=v.c[j]:=λj h g z=>by rw[hg j h g,Wa (λe=>z e.symm)]
 rw[R]at f;have X:RJ w (lj s i) i w.c[i] y:=by
  refine⟨f.done,λmB=>?_,f.Ev⟩;rcases f.idle mB with⟨e,_⟩|⟨l,m,p,C,N⟩
  .exact .inl e
  .refine .inr ⟨l,m,p,?_⟩;rcases N with⟨_,N⟩|⟨N,_⟩
   .exact .inl N
   .right;by_cases Q:w.N=0
    .rcases q.tk0 Q with⟨a,_⟩|⟨k,S,K,T,L,a5,a6⟩
     .omega
     .omega
    .obtain⟨k,P,ek⟩:=h0.lx.tk.resolve_left Q;rcases q.tk1 k P Ω ek with⟨a,_⟩|⟨_,_,_,a|⟨j,_,_,a0,_,a,_⟩⟩
     .omega
     .omega
     .omega
 constructor
 .omega
 .intro j h g iA;rw[x j g Ω Ω];exact q.rest j h Ω Ω
 .intro j h g iA;by_cases o:j=i
  .subst o;rw[A g];exact X
  .rw[x j g Ω o];exact q.did j h Ω Ω
 .intro Q;rcases q.tk0 Q with⟨a,b⟩|⟨k,S,K,T,L,a5,a6⟩
  .rcases f.tok with e|⟨l,m,p,C⟩|⟨l,_⟩
   .refine .inl ⟨Ω,λj h g m0 c=>?_⟩;by_cases o:j=i
    .subst o;rw[A g];rcases f.idle c with⟨_,m,_⟩|⟨l,_⟩
     .have:=m a;omega
     .exact l
    .rw[x j g Ω o];exact b j h Ω Ω c
   .exact .inr ⟨i,hi,Ω,Ω,l,p,by rw[A];exact C⟩
   .omega
  .right;have D:k≠i:=Ω
   refine⟨k,S,Ω,Ω,?_,a5,by rw[x k _ K D];exact a6⟩;rcases f.tok with e|⟨l,m,p,C⟩|⟨l,_⟩
   .omega
   .omega
   .omega
 .intro k P cI pE;have E:k<v.c.length:=Ω
  rcases q.tk1 k P E pE with⟨a,b,c1,c2⟩|⟨S,K,T,L⟩
  .by_cases nK:i=k
   .subst nK;rw[A cI];rcases f.tok with e|⟨_,m,_⟩|⟨l,m,p⟩
    .refine .inl ⟨Ω,λj h g z c=>by rw[x j g Ω z];exact b j h Ω z c,λh=>Wh h Ω,λ_=>⟨λc=>?_,λr H=>?_⟩⟩
     .rcases f.idle c with⟨t,_,W⟩|⟨t,f2,W,f4,F⟩
      .obtain⟨j,o,j1,Y,Z⟩:=Uk (W a);have J:j<w.c.length:=Ω
       refine .inl ⟨t,j,J,Ω,?_⟩;have bN:=(h0.ok.x j J).g;have n0:w.c[j].g≠0:=λc=>Y (by rw[b j J o Ω c];exact c);have n8:w.c[j].g≠8:=λc=>by
        by_cases m0:j<i
        .have:=(q.did j J o m0).done c;exact Z (by rw[this];exact c)
        .have:=q.rest j J o Ω;exact Z (by rw[this];exact c)
       omega
      .right;rcases F with⟨F,_⟩|⟨_,_,F,f6⟩
       .omega
       .exact⟨t,F,f6⟩
     .have n8:w.c[i].g≠8:=λO=>by
       have:=(G.x i cI).tk Ω;rw[A cI,f.done O]at this;exact this.2 O
      have Bq:=WwB (k:=i) B.lx (λj o z=>B.tx.t2 i E a (by rw[R];exact r) j o z);rcases f.good r n8 (c1 (Xj _) r H) Bq with O|sF
      .have:=(G.x i cI).tk Ω;rw[A cI]at this;exact Wh O this.2
      .exact sF
    .omega
    .refine .inr ⟨Ω,λc=>?_,p,.inl m⟩;rcases f.idle c with⟨t,_⟩|⟨t,_⟩
     .rw[t]at p;omega
     .omega
   .have D:k≠i:=λe=>nK e.symm;have kD:u.N=(k:Int)+1:=by
     rcases f.tok with e|⟨_,m,_⟩|⟨l,m,p⟩<;>omega
    have U:=λr=>by
     have:=B.tx.t2 k E a r i I nK;rw[R]at this;exact f.i Ω
    rw[x k cI E D];refine .inl ⟨kD,λj h g z c=>?_,λaO r H=>?_,λab=>?_⟩
    .by_cases o:j=i
     .subst o;rw[A g];rcases f.idle c with⟨t,_⟩|⟨t,f2,W,f4,F⟩
      .exact t
      .omega
     .rw[x j g Ω o];exact b j h Ω z c
    .have e:=q.rest k P E Ω;rw[U (by rw[e];exact r)];exact c1 Ω r H
    .obtain⟨d1,d2⟩:=c2 Ω;refine⟨λc=>?_,λr H=>?_⟩
     .rcases d1 c with d|⟨M,V,d5⟩
      .exact .inl d
      .exact .inr ⟨M,by rw[U Ω];exact V,d5⟩
     .obtain⟨M,V⟩:=d2 r H;have:=M.ph;exact⟨by rw[U Ω];exact M,V⟩
  .right;have D:k≠i:=Ω
   refine⟨Ω,K,by rw[x k cI E D];exact T,?_⟩;rcases L with L|⟨j,j1,Y,Z,j4,j5,j6,j7⟩
   .rcases f.tok with e|⟨l,m,p,C⟩|⟨l,m,p⟩
    .exact .inl Ω
    .exact .inr ⟨i,hi,Ω,Ω,λe=>D e.symm,l,by rw[A];exact C,Ω⟩
    .omega
   .right;refine⟨j,j1,Ω,Ω,j4,?_,by rw[x j _ Y Ω];exact j6,j7⟩;rcases f.tok with e|⟨l,m,p,C⟩|⟨l,m,p⟩<;>omega
end
section
variable{s:Sc}{w v:Wo}{n:Int}{x y:Rt}{k i:Nat}{p:Pg}
theorem YK(f:WI s n w):∀(d i) (c) (v),i+d=s.2.1.length->WI s c v->c+4*d<=99999->Rd s w v i->Rd s w (fo s d i v) s.2.1.length/\∃m,m<=c+4*d/\WI s m (fo s d i v)
 |0,i,c,v,l,e,o,g=>by
  rw[fo,show s.2.1.length=i by omega];exact⟨g,c,Ω,e⟩
 |d+1,i,c,v,l,e,o,g=>by
  have p:=f.ok.len;have h:=g.step f ⟨c,Ω,e⟩ Ω;have q:=pk3 e.ok (i:=i) Ω;have j:=e.blk (k:=i);obtain⟨a,m,r,b⟩:=YK f d (i+1) _ _ Ω j Ω h;rw[fo];exact⟨a,m,Ω,b⟩
def ge(x:Rt):Bool:=decide (x.g≠8)
def iJ(l:List Rt):Int:=(l.countP ge:Nat)
theorem Sd:∀(l a:List Rt),a.length=l.length->(∀(j) (h) (g:j<a.length),ge a[j]=true->ge l[j]=true)->a.countP ge<=l.countP ge
 | [],[],_,_=>Xj _
 | [],_::_,h,_=>by simp at h
 |_::_,[],h,_=>by simp at h
 |x::l,y::a,h,hp=>by
  have i:=Sd l a (by simpa using h) λj d e f=>hp (j+1) (by simpa using d) (by simpa using e) f;have c:ge y=true->ge x=true:=hp 0 Δ Δ;rw[L3,L3];by_cases b:ge y=true
  .rw[Wb b,Wb (c b)];omega
  .rw[Wa b];omega
theorem Sh:∀(l a:List Rt),a.length=l.length->(∀(j) (h) (i:j<a.length),ge a[j]=true->ge l[j]=true)->∀(k) (h) (i:k<a.length),ge l[k]=true->ge a[k]=false->a.countP ge+1<=l.countP ge
 | [],_,_,_,k,h,_,_,_=>by simp at h
 |_::_,[],h,_,_,_,_,_,_=>by simp at h
 |x::l,y::a,h,e,k,n,g,c,d=>by
  have m:ge y=true->ge x=true:=e 0 Δ Δ;have f:=λj c d o=>e (j+1) (by simpa using c) (by simpa using d) o;rw[L3,L3];cases k with
  |zero=>
   have p:ge x=true:=c;have b:ge y=false:=d;have:=Sd l a (by simpa using h) f;rw[Wb p,b];simp;omega
  |succ k=>
   have q:=Sh l a (by simpa using h) f k (by simpa using n) (by simpa using g) c d;by_cases b:ge y=true
   .rw[Wb b,Wb (m b)];omega
   .rw[Wa b];omega
theorem QA{l}{k}(h)(a:l[k].g≠8):iJ (l.set k {g:=8})+1<=iJ l:=by
 have:=Sh l (l.set k {g:=8}) Δ (λj b c a=>by
  rw[fE]at a;split at a
  .cases a
  .exact a) k h (by simpa using h) (by unfold ge;simpa using a) (by rw[Sn];rfl)
 unfold iJ;omega
theorem WCf(l):0<=iJ l:=Int.natCast_nonneg _
theorem Oe{l}{k}(h:k<l.length)(a:l[k].g≠8):1<=iJ l:=by
 have:=QA h a;have:=WCf (l.set k {g:=8});omega
theorem Om{l}{k j}(h)(b:j<l.length)(a:k≠j)(c:l[k].g≠8)(d:l[j].g≠8):2<=iJ l:=by
 have:=QA h c;have:=Oe (l:=l.set k {g:=8}) (k:=j) (by simpa using b) (by rw[Su a];exact d);omega
theorem WC8{l}{k j i}(h)(d:j<l.length)(a:i<l.length)(m:k≠j)(b:k≠i)(c:j≠i)(e:l[k].g≠8)(f:l[j].g≠8)(g:l[i].g≠8):3<=iJ l:=by
 have:=QA h e;have:=Om (l:=l.set k {g:=8}) (k:=j) (j:=i) (by simpa using d) (by simpa using a) c (by rw[Su m];exact f) (by rw[Su b];exact g);omega
theorem WDm(l)(h:l.length<=4):iJ l<=4:=by
 have:l.countP ge<=l.length:=H1;unfold iJ;omega
def tr2(x:Rt):Int:=if x.G<=2 then 786*(2-x.G)else 0
def tr3(x:Rt):Int:=if x.G<=3 then 786*(3-x.G)else 0
def Bpt(p:Pg)(x:Rt):Int:=if x.g=0 then tr3 x else if x.g=8 then 0 else WC p x+tr2 x
def KP(m:Mm)(p:Pg)(x:Rt)(K:Int):Prop:=(x.g=0->494<=K)/\(x.g≠0->WC p x+494<=K\/(RGd m x/\jh p x<=K))
def ex3(u:Int):Int:=if u>=3 then 808*(u-2)else 0
def ex4(u:Int):Int:=if u>=4 then 808*(u-3)else 0
def exD(u D:Int):Int:=if u>=3 then D else 0
structure Bd(s:Sc)(N:Int)(w:Wo):Prop where
 X:w.N=0->∀(r:Nat) (h:r<w.c.length),w.c[r].g≠8->Bpt (lj s r) w.c[r]+495*iJ w.c+ex3 (iJ w.c)<=N
 held:∀(k:Nat) (h:k<w.c.length),w.N=(k:Int)+1->∃K D:Int,KP w.i (lj s k) w.c[k] K/\0<=D/\K<=N/\
  (∀(j:Nat) (h:j<w.c.length),j≠k->1<=w.c[j].g->w.c[j].g<=7->WC (lj s j) w.c[j]<=D)/\
  ∀(r:Nat) (h:r<w.c.length),r≠k->w.c[r].g≠8->Bpt (lj s r) w.c[r]+K+exD (iJ w.c) D+495*(iJ w.c-1)+ex4 (iJ w.c)<=N
theorem LH(e:POk p)(a:ROk p n x)(f:RT x):0<=Bpt p x/\Bpt p x<=2380/\(x.g=0->Bpt p x<=2358)/\(1<=x.g->x.g<=7->1<=Bpt p x):=by
 have d:=ua e a f;have h:=a.G;have g:=a.g;unfold Bpt tr2 tr3;by_cases b:x.g=0
 .rw[Wb b];split<;>omega
 .rw[Wa b];by_cases c:x.g=8
  .rw[Wb c];omega
  .rw[Wa c];have:=d.2.2 Ω;split<;>omega
theorem RJ.b{j}(h:RJ w p j x y)(l:POk p)(d:ROk p n x)(m:RT x)(A:w.N≠(j:Int)+1):Bpt p y<=Bpt p x/\(1<=x.g->x.g<=7->Bpt p y<Bpt p x)/\(y.g=1->x.g=0->Bpt p y<Bpt p x):=by
 have q:=ua l d m;have C:=d.G;have t:=d.g;have g:∀z:Rt,z.g=0->Bpt p z=tr3 z:=λz h=>by unfold Bpt;rw[Wb h]
 have o:∀z:Rt,z.g=8->Bpt p z=0:=λz h=>by unfold Bpt;rw[Wa Ω,Wb h]
 have f:∀z:Rt,1<=z.g->z.g<=7->Bpt p z=WC p z+tr2 z:=λz h v=>by unfold Bpt;rw[Wa Ω,Wa Ω]
 have B:=(LH l d m).1;by_cases k:x.g=0
 .rcases h.idle k with e|⟨a,c,i,u⟩
  .subst e;exact⟨Xt _,λh=>Ω,λh=>Ω⟩
  .rw[g x k,f y Ω Ω];have:x.G<3:=Ω
   unfold tr2 tr3;rw[i];split<;>split<;>omega
 by_cases r:x.g=8
 .have e:=h.done r;subst e;exact⟨Xt _,λ_ h=>Ω,λh=>Ω⟩
 .have hl:=h.Ev Ω;have:=q.2.2 Ω;rw[f x Ω Ω];have s:0<=tr2 x:=by unfold tr2;split<;>omega
  rcases hl with e|⟨a,c⟩|⟨a,c,i⟩
  .rw[o y e];omega
  .rw[g y a];have:tr3 y=tr2 x:=by unfold tr2 tr3;rw[c];split<;>split<;>omega
   omega
  .rw[f y a.1 a.2];have:tr2 y=tr2 x:=by unfold tr2;rw[c]
   omega
end
end Go.Sx
