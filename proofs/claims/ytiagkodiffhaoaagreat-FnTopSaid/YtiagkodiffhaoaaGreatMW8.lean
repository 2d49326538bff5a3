/- Plain laws of the Lean functions. -/
import Derived.Test.YtiagkodiffhaoaaGreatMW7
open Int renaming le_refl->Xt,toNat_natCast->Xf,toNat->Xb
open List renaming all_eq_true->cS,getElem_of_mem->cN,foldl_append->p7,getElem_mem->Xm,mem_cons_self->Xg,getD->Xc,length->Xa,take->bM,length_take->gv,range->bJ,getElem_map->eZ,length_map->aP
open Nat renaming le_refl->Xj,zero_le->jI
open Option renaming bind_some->Xd
open Bool renaming not_true->Xu,and_eq_true->Xl
namespace Go.Sx
set_option linter.unusedVariables false
set_option linter.unusedSimpArgs false
section
variable{s:Sc}{w v:Wo}{n m N:Int}{x y:Rt}{k i:Nat}{p:Pg}
theorem wpg(h:WI s n w){j}(hj):POk (lj s j)/\ROk (lj s j) n w.c[j]/\RT w.c[j]:=
 ⟨uX h.ok.O (by rw[<-h.ok.len];exact hj),h.ok.x j hj,h.wt.x j hj⟩
set_option maxHeartbeats 1000000 in
theorem Bd.round(z:WI s n w)(hv:WI s m v)(hR:Rd s w v s.2.1.length)(hb:Bd s N w):Bd s (N-1) v:=by
 have Eh:=z.ok.len;have aQ:=hv.ok.len;have t:∀{j:Nat},j<v.c.length->j<w.c.length:=λh=>Ω
 have Ei:∀{j:Nat},j<w.c.length->j<v.c.length:=λh=>Ω
 have J:=λj h=>hR.did j (t h) h Ω;have G:∀(j:Nat) (h:j<v.c.length),v.c[j].g≠8->(w.c[j]'(t h)).g≠8:=λj h g hd=>g (by rw[(J j h).done hd];exact hd);have wn:∀(j:Nat) (h:j<w.c.length) (h':j<v.c.length),ge v.c[j]=true->ge w.c[j]=true:=λj h h' g=>by
  unfold ge at g|-
  grind
 have Ej:iJ v.c<=iJ w.c:=by simp_all [Sd,iJ]
 have Ag:∀(k:Nat) (h:k<v.c.length),(w.c[k]'(t h)).g≠8->v.c[k].g=8->iJ v.c+1<=iJ w.c:=λk h a b=>by
  have:=Sh w.c v.c Ω wn k (t h) h (by grind [ge]) (by grind [ge]);unfold iJ;omega
 have P:=λj h ht=>by
  obtain⟨a,b,c⟩:=wpg z (t h);exact(J j h).b a b c ht
 have F:∀(j:Nat) (h:j<w.c.length),0<=Bpt (lj s j) w.c[j]/\(1<=w.c[j].g->w.c[j].g<=7->1<=Bpt (lj s j) w.c[j]):=λj h=>by
  obtain⟨a,b,c⟩:=wpg z h;have:=LH a b c;omega
 have kT:∀(j:Nat) (h:j<v.c.length),WC (lj s j) v.c[j]<=808:=λj h=>by
  obtain⟨a,b,c⟩:=wpg hv h;exact(ua a b c).2.1
 have wo:∀(k:Nat) (h:k<v.c.length),v.c[k].g=0->KP v.i (lj s k) v.c[k] 494:=λk h p=>⟨λ_=>Xt _,λh=>Wh p h⟩;have X:=λj h=>(z.ok.x j h).g;by_cases nO:w.N=0
 .have hF:=hb.X nO;rcases hR.tk0 nO with⟨a,b⟩|⟨k,o,cI,_,a,b,c⟩
  .refine⟨λ_ r f g=>?_,λk o V=>Ω⟩;have d:=hF r (t f) (G r f g);obtain⟨O,g2,g3⟩:=P r f Ω;have ab:Bpt (lj s r) v.c[r]<Bpt (lj s r) (w.c[r]'(t f)):=by
    grind
   unfold ex3 at d|-;split at d<;>split<;>omega
  .have oM:=hF k o Ω;have vr:=(F k o).1;have tp:=Oe o Ω;refine⟨λp=>Ω,λl U V=>?_⟩;have:l=k:=Ω
   subst this;refine⟨494,808,wo l U c,Ω,?_,λj u _ _ _=>kT j u,λr f x g=>?_⟩<;>grind [ex3,exD,ex4]
 .obtain⟨k,o,T⟩:=z.lx.tk.resolve_left nO;have S:=Ei o;obtain⟨K,D,L,hD0,hKN,hD,H⟩:=hb.held k o T;have tK:=((z.lx.x k o).tk T).2;have hKP:=J k S;rcases hR.tk1 k o S T with⟨a,b,_,c⟩|⟨_,a1,W,a3⟩
  .have wq:w.c[k].g≠0->1<=w.c[k].g/\w.c[k].g<=7:=λh=>by have:=X k o;omega
   obtain⟨c1,c2⟩:=c Ω;have Ek:=((hv.lx.x k S).tk a).2;refine⟨λp=>Ω,λl U V=>?_⟩;have:l=k:=Ω
   subst this;have I:∀(r:Nat) (h:r<v.c.length),r≠l->_:=λr h x=>P r h Ω;by_cases Y:∃(j:Nat) (h:j<w.c.length),j≠l/\1<=w.c[j].g/\w.c[j].g<=7
   .obtain⟨j,u,B,Q,R⟩:=Y;have hD1:1<=D:=by
     have d:=hD j u B Q R;obtain⟨C,y,E⟩:=wpg z u;have:=(ua C y E).2.2 ⟨Q,R⟩;omega
    have p:w.c[l].g=0:=by
     apply Classical.byContradiction;intro mL;rcases z.tx.t2 l o T mL j u B with e|e<;>omega
    have uI:=Om o u (λe=>B e.symm) Ω Ω;have q:=H j u B Ω;have Z:=(F j u).2 Q R;refine⟨K,D-1,?_,Ω,?_,λi A M i1 i7=>?_,λr f x g=>?_⟩
    .have hK0:=L.1 p;rcases c1 p with⟨e,_⟩|⟨C,y,E⟩
     .rw[e];exact⟨λ_=>hK0,λh=>Wh p h⟩
     .exact⟨λh=>Ω,λ_=>.inr ⟨y,Ω⟩⟩
    .unfold exD ex4 at q;split at q<;>split at q<;>omega
    .have tU:=t A;have hzi:w.c[i].g≠0:=λh=>by
      have:=b i tU A M h;simp_all
     have h8i:=G i A Ω;have hp:=X i tU;have hd:=hD i tU M Ω Ω;rcases(J i A).Ev Ω with e|⟨e,_⟩|⟨_,_,e⟩
     .omega
     .omega
     .omega
    .have d:=H r (t f) x (G r f g);obtain⟨O,g2,g3⟩:=I r f x;by_cases zV:r=j
     .subst zV;have:=g2 Q R;unfold exD ex4 at d|-;split at d<;>split at d<;>split<;>split<;>omega
     .have Aw:=WC8 o u (t f) (λe=>B e.symm) (λe=>x e.symm) (λe=>zV e.symm) tK Ω (G r f g);unfold exD ex4 at d|-;split at d<;>split at d<;>split<;>split<;>omega
   .have bV:∀(j:Nat) (h:j<w.c.length),j≠l->w.c[j].g=0\/w.c[j].g=8:=λj h x=>by
     have hp:=X j h;by_cases d:w.c[j].g=0\/w.c[j].g=8
     .exact d
     .exact Wh ⟨j,h,x,Ω,Ω⟩ Y
    refine⟨K-1,D,?_,hD0,Ω,λi A M i1 i7=>?_,λr f x g=>?_⟩
    .by_cases p:w.c[l].g=0
     .have hK0:=L.1 p;rcases c1 p with⟨_,e⟩|⟨C,y,E⟩
      .exact Wh e Y
      .exact⟨λh=>Ω,λ_=>.inr ⟨y,Ω⟩⟩
     .have kg:=hKP.Ev (wq p);obtain⟨C,y,E⟩:=wpg z o;have d:=(ua C y E).2.2 (wq p);by_cases hg:RGd w.i w.c[l]
      .obtain⟨d1,d2⟩:=c2 p hg;have hdp:=d1.ph;refine⟨λh=>Ω,λ_=>?_⟩;rcases L.2 p with oQ|⟨_,oQ⟩
       .omega
       .exact .inr ⟨d1,Ω⟩
      .have oQ:=(L.2 p).resolve_right (λh=>hg h.1);rcases kg with e|⟨e,_⟩|⟨e0,_,e⟩
       .exact Wh e Ek
       .exact⟨λ_=>Ω,λh=>Wh e h⟩
       .exact⟨λh=>Ω,λ_=>.inl Ω⟩
    .have tU:=t A;rcases bV i tU M with e|e
     .have:=b i tU A M e;simp_all
     .have:=(J i A).done e;simp_all
    .have d:=H r (t f) x (G r f g);have O:=(I r f x).1;unfold exD ex4 at d|-;split at d<;>split at d<;>split<;>split<;>omega
  .have hK1:1<=K:=by
    obtain⟨C,y,E⟩:=wpg z o;have d:=(ua C y E).1;rcases L.2 a1 with h|⟨h,h'⟩
    .omega
    .have:=WuU C y E h;omega
   have bQ:=Ag k S tK W;rcases a3 with a3|⟨j,u,br,_,B,a4,a5,a6⟩
   .refine⟨λ_ r f g=>?_,λl cI V=>Ω⟩;have oH:r≠k:=λe=>by subst e;exact g W
    have d:=H r (t f) oH (G r f g);have O:=(P r f Ω).1;unfold exD ex4 at d;unfold ex3;split at d<;>split at d<;>split<;>omega
   .refine⟨λp=>Ω,λl U V=>?_⟩;have:l=j:=Ω
    subst this;have q:=H l u B a6;have Z:=(F l u).1;have uI:=Om o u (λe=>B e.symm) tK a6;refine⟨494,808,wo l U a5,Ω,?_,λi A _ _ _=>kT i A,λr f x g=>?_⟩
    .unfold exD ex4 at q;split at q<;>split at q<;>omega
    .have oH:r≠k:=λe=>by subst e;exact g W
     have d:=H r (t f) oH (G r f g);have O:=(P r f Ω).1;unfold exD ex4 at d|-;split at d<;>split at d<;>split<;>split<;>omega
theorem Bd.start(a:WI s n w):Bd s 5976 w:=by
 have p:=WDm w.c (by have:=a.ok.l4;have:=a.ok.len;omega);have b:∀(j:Nat) (h:j<w.c.length),_:=λj h=>LH (wpg a h).1 (wpg a h).2.1 (wpg a h).2.2;have i:∀(j:Nat) (h:j<w.c.length),WC (lj s j) w.c[j]<=808:=λj h=>(ua (wpg a h).1 (wpg a h).2.1 (wpg a h).2.2).2.1;refine⟨λ_ r c g=>?_,λk f l=>?_⟩
 .have:=(b r c).2.1;unfold ex3;split<;>omega
 .by_cases hz:w.c[k].g=0
  .refine⟨494,808,⟨λ_=>Xt _,λh=>Wh hz h⟩,Ω,Ω,λj e _ _ _=>i j e,λr c d g=>?_⟩;have:=(b r c).2.1;unfold exD ex4;split<;>split<;>omega
  .have Bq:=a.tx.t2 k f l hz;refine⟨1302,0,⟨λh=>Wh h hz,λ_=>.inl (by have:=i k f;omega)⟩,Ω,Ω,λj e d m o=>?_,λr c d g=>?_⟩<;>grind [absurd,exD,ex4]
theorem Bd.pos(a:WI s n w)(i:Bd s N w)(B:hL w≠true):1<=N:=by
 have v:∃(r:Nat) (h:r<w.c.length),w.c[r].g≠8:=by
  apply Classical.byContradiction
  grind [hL,cS,cN,absurd]
 obtain⟨r,c,m⟩:=v;have b:∀(j:Nat) (h:j<w.c.length),_:=λj h=>LH (wpg a h).1 (wpg a h).2.1 (wpg a h).2.2;have C:=Oe c m;by_cases p:w.N=0
 .have:=i.X p r c m;have q:=(b r c).1;unfold ex3 at this;split at this<;>omega
 .obtain⟨k,l,x⟩:=a.lx.tk.resolve_left p;obtain⟨K,D,g,t,u,z,A⟩:=i.held k l x;have:1<=K:=by
   by_cases o:w.c[k].g=0
   .have:=g.1 o;omega
   .obtain⟨d,e,f⟩:=wpg a l;have q:=(ua d e f).1;rcases g.2 o with h|⟨h,y⟩
    .omega
    .have:=WuU d e f h;omega
  omega
theorem Vx:∀(d:Nat) (n) (w),WI s n w->n+16*d<=99999->Bd s d w->hL (fq s d w).1=true/\(fq s d w).2<=d/\∃m,WI s m (fq s d w).1
 |0,n,w,h,i,hb=>by
  have e:hL w=true:=by
   apply Classical.byContradiction;intro e;have:=hb.pos h e;omega
  rw[fq]
  grind
 |d+1,n,w,h,i,hb=>by
  rw[fq];by_cases e:hL w=true
  .grind
  .rw[Wa e];have l:=h.ok.l4;obtain⟨g,m,k,f⟩:=YK h s.2.1.length 0 n w Ω h Ω Rd.refl;have j:=hb.round h f g;obtain⟨a,b,c⟩:=Vx d m _ f Ω Ψ;simp_all
theorem Bd.mono(h:Bd s n w)(o:n<=N):Bd s N w:=⟨λi r f g=>by have:=h.X i r f g;omega,λk j l=>by
 obtain⟨K,D,a,b,c,d,e⟩:=h.held k j l;exact⟨K,D,a,b,Ω,d,λr f m g=>Θ⟩⟩
theorem Wyb(b:dF s=true):WI s s.2.2.length (kL s):=by
 have a:=Hg b;have c:WX (aX s):=Wz6;have d:=Wt4 b;have e:WT (aX s):=WuJ;have h:=WwE s.2.2 _ _ a c d;exact⟨Qr b,(XS s.2.2 _ _ a c).1,h,Wu8 s.2.2 _ _ a e,Wxm s.2.2 _ _ a c d WAb⟩
theorem Wtt(a:dF s=true):hL (fq s 6000 (kL s)).1=true/\(fq s 6000 (kL s)).2<=6000/\∃m,WI s m (fq s 6000 (kL s)).1:=by
 obtain⟨b,c,d,e⟩:=rP a;have h:=Wyb a;exact Vx 6000 _ _ h Ω ((Bd.start h).mono Ω)
end
section
variable{s:Sc}{w v:Wo}{n m:Int}{x y:Rt}{k i:Nat}{p:Pg}{a:Ac}{N:Nat}{o:Opn}
theorem VW:∀(d j) (w),∃l:List Ac,l.length=d/\fX s k d j w=l.foldl (aq s) w
 |0,_,w=>⟨[],rfl,rfl⟩
 |d+1,j,w=>by
  obtain⟨l,h,e⟩:=VW d (j+1) (aq s w (2,(k:Int),(j:Int)));exact⟨(2,(k:Int),(j:Int))::l,by simp[h],by rw[fX,e];rfl⟩
theorem Vk:∀(d i) (w),(∀j:Nat,j<i+d->(s.2.1.getD j pg0).2.length<=3)->∃l:List Ac,l.length<=4*d/\fo s d i w=l.foldl (aq s) w
 |0,_,w,_=>⟨[],Xj _,rfl⟩
 |d+1,i,w,h=>by
  obtain⟨c,f,a⟩:=VW (s:=s) (k:=i) (s.2.1.getD i pg0).2.length 0 (aq s w (1,(i:Int),0));obtain⟨e,g,b⟩:=Vk d (i+1) (fX s i (s.2.1.getD i pg0).2.length 0 (aq s w (1,(i:Int),0))) (λj n=>h j Ω);have m:=h i Ω;refine⟨(1,(i:Int),0)::c++e,Φ,?_⟩;rw[fo,b,a,List.cons_append,List.foldl_cons,p7]
theorem Vb(e:s.2.1.length<=4)(a:∀j:Nat,j<s.2.1.length->(s.2.1.getD j pg0).2.length<=3):∀(d) (w),∃l:List Ac,l.length<=16*d/\(fq s d w).1=l.foldl (aq s) w
 |0,w=>⟨[],jI _,rfl⟩
 |d+1,w=>by
  rw[fq];split
  .exact⟨[],jI _,rfl⟩
  .obtain⟨f,h,b⟩:=Vk s.2.1.length 0 w (λj k=>a j Ω);obtain⟨g,i,c⟩:=Vb e a d (fo s s.2.1.length 0 w);refine⟨f++g,Φ,?_⟩;show(fq s d (fo s s.2.1.length 0 w)).1=_;rw[c,b,p7]
theorem VJ(b:dF s=true):∃l:List Ac,(s.2.2++l).length<=99990/\(fq s 6000 (kL s)).1=(s.2.2++l).foldl (aq s) (aX s):=by
 obtain⟨f,g,h,i⟩:=rP b;have c:=Qr b;obtain⟨l,a,e⟩:=Vb (s:=s) Ω (λj d=>(uX c.O d).k3) 6000 (kL s);refine⟨l,Φ,?_⟩;rw[e,p7];rfl
theorem WBw(t:x.g≠8)(a:(WS w x k p).2.g=8):(WS w x k p).2.y= []:=by
 unfold WS at a|-;by_cases q:x.U=true/\1<=x.g/\x.g<=4
 .rw[Wb q]at a;exact Wh (show(6:Int)=8 from a) Ω
 rw[Wa q]at a|-;have r:∀z:Rt,(WA z).g≠8:=λz=>Gj.2.2;by_cases f:x.g=0
 .rw[Wb f]at a;have:(gH w x k).2.g≠8:=by
   unfold gH;split
   .exact t
   .split
    .exact t
    .split
     .exact t
     .show(1:Int)≠8;omega
  exact Wh a this
 rw[Wa f]at a|-;by_cases d:x.g=1
 .rw[Wb d]at a|-;have e:∀c,(W9 w x k c).2.g=8->(W9 w x k c).2.y= []:=λc=>by
   unfold W9;simp only;generalize (if c=2 then []else x.A)=b;split
   .exactλ_=>rfl
   .intro h;exact Wh (show(5:Int)=8 from h) Ω
  revert a;unfold am;split
  .exact e _
  .simp only;generalize opN p.1 x.k=o;split
   .intro h;exact Wh h (Lp d).2.2
   .split
    .unfold fV;split
     .exact e _
     .split
      .intro h;exact Wh h t
      .intro h;exact Wh h t
    .split
     .intro h;exact Wh (show(2:Int)=8 from h) Ω
     .split
      .unfold eN;cases fN w.a ((k:Int)+1) (WO o).1 (WO o).2 with
       |none=>intro h;exact Wh h (r _)
       |some u=>intro h;exact Wh h t
      .repeat' split
       all_goals(intro h;exact Wh h t)
 rw[Wa d]at a|-;by_cases g:x.g=2
 .rw[Wb g]at a;have:(ch x).g≠8:=by
   unfold ch;split
   .show(6:Int)≠8;omega
   .split
    .show(1:Int)≠8;omega
    .exact t
  exact Wh a this
 rw[Wa g]at a|-;by_cases i:x.g=3
 .rw[Wb i]at a;have:(fK w x).2.g≠8:=by
   unfold fK;split
   .exact t
   .show(4:Int)≠8;omega
  exact Wh a this
 rw[Wa i]at a|-;by_cases j:x.g=4
 .rw[Wb j]at a;have:(W6 w x).g≠8:=by
   unfold W6;simp only;split
   .split
    .show(6:Int)≠8;omega
    .exact t
   .show(1:Int)≠8;omega
  exact Wh a this
 rw[Wa j]at a|-;by_cases l:x.g=5
 .rw[Wb l]at a;have:(W7 w x k).2.g≠8:=by
   unfold W7;split
   .split
    .show(6:Int)≠8;omega
    .exact t
   .show(cX {x with l:=(Wv w.i x.l).2}).g≠8;unfold cX;split
    .show(6:Int)≠8;omega
    .split
     .show(if x.H=2 then(6:Int)else 7)≠8;split<;>omega
     .exact t
  exact Wh a this
 rw[Wa l]at a|-;by_cases m:x.g=6
 .rw[Wb m]at a;split at a
  .exact Wh a t
  .exact Wh (show(7:Int)=8 from a) Ω
 rw[Wa m]at a|-;by_cases n:x.g=7
 .rw[Wb n]at a|-;split at a
  .exact Wh (show(0:Int)=8 from a) Ω
  .rw[Wa ‹_›];rfl
 .rw[Wa n]at a;exact Wh a t
def DX(w:Wo):Prop:=∀(k:Nat) (h:k<w.c.length),w.c[k].g=8->w.c[k].y= []
theorem Sj{q}{b}(d:DX b)(f:q.1.c=b.c)(c:q.2.g=8->q.2.y= []):DX (Wo.put q k):=λi a=>by
 change i<(q.1.c.set k q.2).length at a;have e:i<b.c.length:=by rw[List.length_set,f]at a;exact a
 show((q.1.c.set k q.2)[i]'a).g=8->((q.1.c.set k q.2)[i]'a).y= [];rw[List.getElem_set];split
 .exact c
 .simp only[f];exact d i e
theorem WAC(h:WOk s.2.1 n w)(d:DX w):DX (aq s w a):=by
 have b:=d;unfold aq;simp only;split
 .have hk:a.2.1.toNat<w.c.length:=Ω
  rw[Wk hk];split
  .unfold m9;rw[Wk (hk)];refine Sj (b:={w with j:=w.j+1}) b (qu h hk) λc=>?_;by_cases e:w.c[a.2.1.toNat].g=8
   .have:=(QN (w:={w with j:=w.j+1}) (x:=w.c[a.2.1.toNat]) (k:=a.2.1.toNat) (p:=s.2.1.getD a.2.1.toNat pg0)).done e;rw[this];exact d _ hk e
   .exact WBw e c
  .split
   .split
    .exact Sj (b:={w with j:=w.j+1}) b rfl (λc=>d _ hk c)
    .exact b
   .split
    .split
     .exact Sj (b:={w with j:=w.j+1}) b rfl (λc=>d _ hk c)
     .exact b
    .exact b
 .exact b
theorem Wwx:∀(l:List Ac) (n) (w),WOk s.2.1 n w->DX w->DX (l.foldl (aq s) w)
 | [],n,w,h,hx=>hx
 |a::l,n,w,h,hx=>Wwx l (n+1) _ (nV (a:=a) h) (WAC (a:=a) h hx)
structure Rest(w:Wo):Prop where
 done:∀x∈w.c,x.g=8
 i:W4 w.i=true
 T:∀c∈w.i.2,c.2.2=0
 a:w.a= []
 N:w.N=0
 y:∀x∈w.c,x.y= []
theorem WAe(h:WI s n w)(o:DX w)(f:hL w=true):Rest w:=by
 have d:∀(k:Nat) (h:k<w.c.length),w.c[k].g=8:=λk a=>by
  unfold hL at f;rw[cS]at f;simpa using f _ (Xm a)
 have p:∀x∈w.c,x.g=8:=λx g=>by
  obtain⟨j,b,e⟩:=cN g;rw[<-e];exact d j b
 obtain⟨r,_,_,_⟩:=WK h.ok.i;refine⟨p,h.ok.i,λc m=>?_,?_,?_,λx g=>?_⟩
 .obtain⟨j,b,e⟩:=cN m;have q:Ep w.i (j:Int)=w.i.2[j].2.2:=by unfold Ep Wy ac;rw[Xf,Wk b]
  rw[<-e,<-q];rcases h.lx.ow (j:Int) Ω Ω with e|⟨k,a,e⟩
  .exact e
  .exact Wh e ((h.lx.x k a).no (by rw[d k a];omega) (j:Int) Ω Ω)
 .cases hh:w.a with
  |nil=>rfl
  |cons e l=>
   obtain⟨k,a,i⟩:=h.lx.hd e (by rw[hh];exact Xg ..);exact Wh (d k a) ((h.lx.x k a).hd e (by rw[hh];exact Xg ..) i).2
 .rcases h.lx.tk with e|⟨k,a,e⟩
  .exact e
  .exact Wh (d k a) ((h.lx.x k a).tk e).2
 .obtain⟨j,b,e⟩:=cN g;rw[<-e];exact o j b (d j b)
theorem WtM(d:dF s=true):Rest (fq s 6000 (kL s)).1/\hL (fq s 6000 (kL s)).1=true/\(fq s 6000 (kL s)).2<=6000/\∃m,WI s m (fq s 6000 (kL s)).1:=by
 obtain⟨a,b,m,c⟩:=Wtt d;obtain⟨l,_,e⟩:=VJ d;have f:DX (fq s 6000 (kL s)).1:=by
  rw[e];exact Wwx _ 0 _ (Hg d) λk h g=>by simp[aX]
 exact⟨WAe c f a,a,b,m,c⟩
theorem Wxw(c:SB s)(b:1048576<N)(a:dF s=false):yU N s=some ((),(d_World,((0:Int),()))):=by
 unfold yU;rw[Gc c b,a];rfl
theorem Wm5(a:1048576<N){b}(h:b.length<=1048576):∃s:Sc,MY N b=ret s/\SB s:=by
 unfold MY;obtain⟨c,g,q⟩:=Wyf h a;obtain⟨v,d,k⟩:=WyK (N:=N) h;have e:Ws .i64 40 v=40+v:=WB Λ;obtain⟨j,s,f,l,i⟩:=WCu (a:=40+v) a Ω g;simp only[q,d,ret,Xd,e,f];exact⟨_,rfl,i⟩
end
section

end
section
section
variable{N c:Nat}{s:Sc}{w:Wo}{G:Nat->Option GE}{k j:Nat}{n:Int}{R:Type}
theorem Wz0{c b:List Int}{d:Option R}{a:Ka8 R}:∀(f:Nat) (i:Int),EH N c b d a f i=vA N c b d a f i
 |0,_=>rfl
 |f+1,i=>by rw[EH,vA,Wz0 f]
theorem eqI{a b:List Int}:yn N a b=tA N a b:=by
 unfold yn tA;rw[Wz0]
theorem WDc{a b:Tg}:MG N a b=EZ N a b:=by
 unfold MG EZ;rw[eqI,eqI]
theorem Tt{l:List Int}{a:Int->Bool->Kai->(List Ki)->Option R}:∀(f:Nat) (i:Int) (c b),E1 N l (Wi l) s w.e a f i c b=vz N s w.e l a f i c b
 |0,_,_,_=>rfl
 |f+1,i,c,b=>by
  rw[E1,vz];simp only[Tt f,Wm];cases inb i l.length<;>rfl
theorem TY{l:List Int}{r:List Ke}{b:Int}{c m:List Int}{d:Option R}{a:Ka8 R}:∀(f:Nat) (i:Int),EI N l (Wi l) w.e r b c m d a f i=vx N w.e l r b c m d a f i
 |0,_=>rfl
 |f+1,i=>by
  rw[EI,vx];simp only[TY f,Wm,eqI];cases inb i l.length<;>cases inb i r.length<;>cases inb (Xc l (Xb i) 0) (Xa (P5 w.e))<;>rfl
theorem Ov{l:List Int}{i:Nat}(b:i<=l.length)(c:i<=3){t:Option R}{a r:Int->Bool->Option R}{v:R}(u:∀k,a i false=some v->r k false=some v):∀(f:Nat) (k:Nat),k<=i->sP N (i:Int) w.e l t a f (k:Int)=some v->AP N l l (Wi l) (i:Int) w.e t r f (k:Int)=some v
 |0,_,_,h=>by cases h
 |f+1,k,p,h=>by
  have n:Wi (bM i l)=(i:Int):=by unfold Wi;rw[gv];omega
  rw[sP]at h;rw[AP];simp only[Wm,Xf,n]at h|-;by_cases q:k<i
  .rw[Wf (show(k:Int)<(i:Int) by omega)]at h|-;simp only[We,vg]at h|-;obtain⟨_,_,o,d,h⟩:=h;have m:inb (k:Int) (bM i l).length=true:=Wp (by rw[gv];omega);have g:Xc (bM i l) k 0=Xc l k 0:=Θ
   simp only[m,g,d,We,true_and];have e:=Wl (j:=k);rw[e]at h|-;revert h;cases(Xc (P5 w.e) (Xb (Xc l i 0)) d_Root).1==(8:Int)
   .exact Ov b c u f (k+1) Ω
   .simp only[We];cases decide ((Xc (P5 w.e) (Xb (Xc l i 0)) d_Root).2.2.2.2.2.2.2.2.2.2.1<(Xc (P5 w.e) (Xb (Xc l k 0)) d_Root).2.2.2.2.2.2.2.2.2.1)
    .exact Ov b c u f (k+1) Ω
    .exact id
  .rw[Wj (show¬(k:Int)<(i:Int) by omega)]at h|-;have:k=i:=Ω
   subst this;exact u _ h
theorem WxF{m:Mm}(b:W4 m=true)(e:1048576<N):FC N m=ret (m.2.map (·.1)):=by
 obtain⟨o,_,_,_⟩:=WK b;unfold FC;rw[zs Ω e,b];simp only[ret,Xd,Xu,Wc];have d:=WF (l:=m.2) (V:=List Int) (R:=Unit×(List Int×Unit)) (c:=λn j v=>BX N m.2 (Wi m.2) (λh g c=>(some ((),(c,())))) n j v) (n:=N) Ω
  (b:=λj x v k=>bif WH (v.length+ [x.1].length)then k (List.append v [x.1])else none) (K:=λ_ v=>ret v)
  (λn i v a=>by simp only[BX,WM a,Wp a,Wu a,Wl (j:=i),We])
  (λn v=>by simp[BX,W0,Xj,Wc]) []
 refine d.trans ?_;rw[zt (f:=λx:Int×Int×Int=>x.1) m.2 0 [] Φ (λj x v k _=>rfl)];rfl
theorem WCM(h:ZX (c+2) c KZ0 KZ1 s n w G)(b:j<(rks w).length):(rw' w (rks w)[j]).B= []\/((s.2.1.getD (rks w)[j] pg0).2.length,(rw' w (rks w)[j]).B)∈gQ:=by
 obtain⟨a,o,_⟩:=WwW h b;cases oM:a with
 |false=>exact .inl (o.no oM)
 |true=>exact .inr (o.yes oM)
theorem Wvq(h:ZX (c+2) c KZ0 KZ1 s n w G)(f:1048576<c+2)(L:dF s=true)(u:(rks w).length<=4){R:Type}{a:Option R}{b:Int->Bool->Int->Kac->Ki->Ki->Option R}:∀(d j J:Nat),j+d=(rks w).length->d<J->
  A0 (c+2) ((rks w).map λk=>(rw' w k).B) ((rks w).map λk=>s.2.1.getD k pg0) a b J (j:Int) (chn w G ((rks w).take j) s.1).2.2 ((bJ j).map (rnA w G s)) (chn w G ((rks w).take j) s.1).1 (chn w G ((rks w).take j) s.1).2.1=b ((rks w).length:Int) false (chn w G (rks w) s.1).2.2 ((bJ (rks w).length).map (rnA w G s)) (chn w G (rks w) s.1).1 (chn w G (rks w) s.1).2.1
 |0,j,J,v,hf=>by
  obtain⟨g,rfl⟩:∃g,J=g+1:=⟨J-1,Ω⟩;have:j=(rks w).length:=Ω
  subst this;rw[A0,List.take_length];have e:decide (((rks w).length:Int)<Wi ((rks w).map λk=>s.2.1.getD k pg0))=false:=by
   simp[W0,Xj]
  rw[e,Wc]
 |d+1,j,J,v,hf=>by
  obtain⟨g,rfl⟩:∃g,J=g+1:=⟨J-1,Ω⟩;have K:j<(rks w).length:=Ω
  have m:j<((rks w).map λk=>s.2.1.getD k pg0).length:=Ψ
  have p:j<((rks w).map λk=>(rw' w k).B).length:=Ψ
  have l:=Wvq h f L u (a:=a) (b:=b) d (j+1) g Ω Ω;obtain⟨i,H⟩:=VV h f L K;have o:=u0 h ((rks w).take (j+1)) s.1 h.th;have I:=o.S.len;have F:=o.map.1;rw[List.range_succ,List.map_append,List.map_singleton]at l;have x:rnA w G s j=((rw' w (rks w)[j]).H,((rw' w (rks w)[j]).t,chn w G ((rks w).take (j+1)) s.1)):=by unfold rnA;rw[Wk K]
  rw[x]at l;have A:iL (s.2.1.getD (rks w)[j] pg0)=true:=by
   obtain⟨C,_⟩:=qs K;have B:(rks w)[j]<s.2.1.length:=by rw[<-h.oa.ok.len];exact C
   rw[Wk B];unfold dF at L
   grind
  have i:=WsY f A (u0 h ((rks w).take j) s.1 h.th) (WCM h K) i;have e:∀T:Tg,(T.1,(T.2.1,T.2.2))=T:=λ_=>rfl;have r:Xc ((rks w).map λk=>s.2.1.getD k pg0) (Xb (j:Int)) (([]:List Ka),([]:List Kaf))=s.2.1.getD (rks w)[j] pg0:=by rw[Wu m,eZ]
  have t:Xc ((rks w).map λk=>(rw' w k).B) (Xb (j:Int)) ([]:List Int)=(rw' w (rks w)[j]).B:=by rw[Wu p,eZ]
  have q:=HF (N:=c+2) (y:=chn w G ((rks w).take (j+1)) s.1) (Ww Ω) (Ww Ω);have D:∀z:Int×List Int×List Int×List Int×Int,WH ((Xa ((bJ j).map (rnA w G s)))+(Xa [z]))=true:=λz=>Ww Φ;rw[A0];simp only[Wm];rw[WM m,Wp m,Wp p,r,t,e,i];have E:((rw' w (rks w)[j]).H==(0:Int))=false:=Φ
  simp only[We,Xd,E,Wc,q,ret,D,C8,CY,Wl (j:=j)];exact l
theorem Wlf(h:ZX (c+2) c KZ0 KZ1 s n w G)(a:1048576<c+2)(b:dF s=true)(f:(rks w).length<=4):EU (c+2) ((rks w).map λk=>s.2.1.getD k pg0) ((rks w).map λk=>(rw' w k).B) s.1=some ((),((bJ (rks w).length).map (rnA w G s),(chn w G (rks w) s.1,()))):=by
 have e:=h.th.S.len;have d:=h.th.map.1;unfold EU;rw[show(Wi ((rks w).map λk=>s.2.1.getD k pg0) !=Wi ((rks w).map λk=>(rw' w k).B))=false by unfold Wi;simp,Wc,OR Ω Ω a,zL.2 h.th];simp only[ret,Xd,Xu,Wc,HF (y:=s.1) (Ww Ω) (Ww Ω)];exact Wvq h a b f (rks w).length 0 (c+2) Ω Ω
theorem Wrd(h:ZX (c+2) c KZ0 KZ1 s n w G)(f:SB s)(a:1048576<c+2)(e:dF s=true):FD (c+2) s w.e=some ((),((bJ (rks w).length).map (rnA w G s),(chn w G (rks w) s.1,()))):=by
 have b:w.c.length<=4:=by rw[h.oa.ok.len];exact h.oa.ok.l4
 have g:(rks w).length<=4:=by grind [pn,po]
 have d:P5 w.e=w.c.map Rt.e:=rfl;unfold FD;rw[Gc f a,e,d,Pq a b];simp only[ret,Xd,Xu,Wc];rw[show(Wi (w.c.map Rt.e) !=Wi s.2.1)=false by unfold Wi;rw[aP,h.oa.ok.len];simp,Wc,Tt];refine Eq.trans (PR b h.oa.ok.len (rks w).length 0 (c+2) Ω Ω) ?_
 grind [Wlf]
theorem WjP(h:ZX (c+2) c KZ0 KZ1 s n w G)(d:SB s)(a:1048576<c+2)(b:dF s=true):E2 (c+2) s w.e=ret true:=by
 have e:w.c.length<=4:=by rw[h.oa.ok.len];exact h.oa.ok.l4
 have g:(rks w).length<=4:=by grind [pn,po]
 have f:P5 w.e=w.c.map Rt.e:=rfl;unfold E2;rw[Gc d a,b,f,Pq a e,Wrd h d a b];simp only[ret,Xd,Xu,Wc];rw[show(Wi (w.c.map Rt.e) !=Wi s.2.1)=false by unfold Wi;rw[aP,h.oa.ok.len];simp,Wc];rw[show(Wi ((bJ (rks w).length).map (rnA w G s)) !=Wi ((rks w).map λk:Nat=>(k:Int)))=false by unfold Wi;simp,Wc,TY];refine Eq.trans (R2 h a g (rks w).length 0 (c+2) Ω Ω) ?_;rw[Qc e a];simp only[ret,Xd];cases ho:hL w with
 |false=>rfl
 |true=>
  simp only[Xu,Wc];rw[show w.e.2.2.1=w.i from rfl,show w.e.2.2.2.1.1=w.D.1 from rfl,show w.e.2.2.2.1.2=w.D.2 from rfl,WxF h.oa.ok.i a,WuF h.oa.ok.D.Q a];simp only[ret,Xd];rw[<-Wwf h ho,WDc,ZO (u0 h _ _ h.th) a];rfl
theorem Wzv(h:ZX N c KZ0 KZ1 s n w G)(o:1048576<N)(f:w.c.length<=4)(m:(rks w).length<=4){a:Option R}{v:R}:∀(d j e:Nat),j+d=(rks w).length->d<e->AS N ((rks w).map λk:Nat=>(k:Int)) (Wi ((rks w).map λk:Nat=>(k:Int))) w.e a (λ_ _=>some v) e (j:Int)=some v
 |0,j,e,p,hf=>by
  obtain⟨g,rfl⟩:∃g,e=g+1:=⟨e-1,Ω⟩;rw[AS,W0 Φ,Wc]
 |d+1,j,e,p,hf=>by
  obtain⟨g,rfl⟩:∃g,e=g+1:=⟨e-1,Ω⟩;have r:=Wzv h o f m (a:=a) (v:=v) d (j+1) g Ω Ω;have b:j<(rks w).length:=Ω
  have t:j<((rks w).map λk:Nat=>(k:Int)).length:=by simpa using b
  obtain⟨i,_⟩:=qs b;have l:w.e.2.2.2.2.2.1=w.c.map Rt.e:=rfl;have q:(decide ((0:Int)<=(j:Int))&&decide ((j:Int)<=((((rks w).map λk:Nat=>(k:Int)).length:Nat):Int)))=true:=Φ
  rw[AS,WM t,Wp t,Wu t,eZ,l,vc i,q];simp only[We];refine Ov (a:=λ_ _=>some v) Ω Ω (λ_ _=>?_) N 0 Ω (On f h b j 0 N Ω Ω);rw[Wl (j:=j)];exact r
theorem Wm2(b:1048576<N)(a:w.c.length<=4)(h:ZX N c KZ0 KZ1 s n w G):Fj N w.e=ret true:=by
 have d:(rks w).length<=4:=by rw[pn];exact po a
 unfold Fj;rw[Pq b a];exact Wzv h b a d (rks w).length 0 N Ω Ω
theorem WAY(e:1048576<N)(a:dF s=true){l:List Ac}(h:l.length<=99990):∃G,ZX N c KZ0 KZ1 s l.length (l.foldl (aq s) (aX s)) G:=by
 have d:∀k,∀m∈(s.2.1.getD k pg0).2,ff m=true:=λk m b=>by
  by_cases f:k<s.2.1.length
  .rw[Wk f]at b;unfold dF at a;simp only[Xl,cS]at a;have:=a.2.2.2 _ (Xm f);unfold iL at this;simp only[Xl,cS]at this;exact this.1 m b
  .rw[List.getD_eq_getElem?_getD,List.getElem?_eq_none Ω]at b;cases b
 obtain⟨G,g⟩:=Wus (i:=KZ0) (j:=KZ1) (r:=c) e d l 0 _ _ (WzH a) (R5 a) Ω;have:=Wvc l 0 _ (R5 a) Ω;rw[Int.zero_add]at this;exact⟨G,g,this,Wxb (c:=KZ0) (d:=KZ1) (e:=c) e d l 0 _ _ WCp (WzH a) (R5 a) Ω,(rP a).1,Ω⟩
theorem Wwi{a:List Int}(p:1048576<N):Zmq N a=ret true:=by
 unfold Zmq Ts;simp only[Xd];by_cases j:a.length<=1048576
 .have e0:decide (Wi a>1048576)=false:=by simp[Wi];omega
  obtain⟨s,i,r⟩:=Wm5 p j;rw[e0,i];simp only[Wc,ret,Xd];rw[OM r p];cases ao:dF s with
  |false=>
   rw[Wxw r p ao];rfl
  |true=>
   obtain⟨_,f,_,_⟩:=WtM ao;rw[Wug r p ao];obtain⟨l,o,e⟩:=VJ ao;obtain⟨G,b⟩:=WAY (c:=N-2) (l:=s.2.2++l) p ao Ω;rw[<-e]at b;generalize fq s 6000 (kL s)=q at*;have g:q.1.c.length<=4:=by rw[b.oa.ok.len];exact b.oa.ok.l4
   have m:(rks q.1).length=s.2.1.length:=by
    rw[pn,<-b.oa.ok.len];unfold slR;rw[List.filter_eq_self.2 λk d=>?_,List.length_range];have d:=List.mem_range.1 d;rw[kM d];unfold hL at f;have:=Wx (cS.1 f _ (Xm d));unfold stl;simp[this]
   have n:q.1.e.2.2.2.2.2.1=q.1.c.map Rt.e:=rfl;obtain⟨c,rfl⟩:∃c,N=c+2:=⟨N-2,Ω⟩;have h:(Wi ((rks q.1).map λk:Nat=>(k:Int))==Wi s.2.1)=true:=by unfold Wi;rw[aP,m];simp
   simp only[ret,Xd,Xu,Wc,WwK p r ao b,We,WzL g p,f,J0 p g,h,WjP b r p ao,Wm2 p g b]
 .have e0:decide (Wi a>1048576)=true:=by simp[Wi];omega
  rw[e0];rfl
theorem law_FnTop(d:gR [.v (.slice (.int .u8)) false])(a:LC [.v (.slice (.int .u8)) false] d):∃N o,Zmq N d.1=some (o,(true,())):=
 ⟨1048577,(),Wwi (N:=1048577) Ω⟩
end
end
end Go.Sx
