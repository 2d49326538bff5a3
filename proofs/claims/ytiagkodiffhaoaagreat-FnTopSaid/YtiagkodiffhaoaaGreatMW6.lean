/- Plain laws of the Lean functions. -/
import Derived.Test.YtiagkodiffhaoaaGreatMW5
open List renaming mem_cons_of_mem->Xe,mem_cons_self->Xg,mem_map->Xy,mem_append->Xo,pairwise_append->dZ,getElem?_eq_getElem->Xq,getElem_set->fE,getElem_mem->Xm,length_cons->Xv,getElem_of_mem->cN,eq_nil_of_length_eq_zero->eY,find?_eq_none->Sr,find?_append->Xhu,length_set->Xx,getD_eq_getElem?_getD->Xs,getElem?_set_ne->ly,foldl_cons->eM,pairwise_cons->Xz,mem_cons->Xr,pairwise_iff_getElem->fh,mem_iff_getElem->q8,take_of_length_le->nm,length_map->aP,take_succ_eq_append_getElem->pO,getElem_map->eZ,mem_of_mem_take->lv,foldl_append->p7,getElem_replicate->mw,nodup_cons->dH,mem_take_iff_getElem->HS,take_sublist->Xgg
open Bool renaming eq_false_iff->nn,not_true->Xu
open Nat renaming le_refl->Xj,zero_add->d4,zero_le->jI
open Option renaming bind_some->Xd
open Int renaming le_refl->Xt,toNat->Xb,toNat_natCast->Xf,tdiv_eq_ediv_of_nonneg->HO,tmod_eq_emod_of_nonneg->HM
namespace Go.Sx
set_option linter.unusedVariables false
set_option linter.unusedSimpArgs false
section
def uK1(u:Un)(i v:Int):Int:=if(u.1=1\/u.1=2)/\u.2.1=i then(if u.1=1 then u.2.2+1 else 0)else v
def mu(a:List Un)(i v:Int):Int:=a.foldr (λu v=>uK1 u i v) v
def dn(x:Rt):Bool:=stl x&&decide (x.H=1)
def ov(x:Rt)(i v:Int):Int:=if dn x=true then v else mu x.y i v
def oc(x:Rt):Int:=if dn x=true then 0 else dl x.y
section
variable{l hs:List Hd}{k j:Nat}{i v:Int}{w:Wo}{x y:Rt}{q:Wo×Rt}{p:Pg}{n:Int}{u:Un}{a:List Un}
theorem PD:mu (a++ [u]) i v=mu a i (uK1 u i v):=by simp[mu,List.foldr_append]
theorem WvW:∀{a},(∀u∈a,(u.1=1\/u.1=2)->u.2.1≠i)->mu a i v=v
 | [],_=>rfl
 |c::a,h=>by
  show uK1 c i (mu a i v)=v;rw[WvW λu b=>h u (Xe _ b)];unfold uK1;rw[Wa λz=>h c (Xg ..) z.1 z.2]
structure SE(w:Wo)(x:Rt)(k:Nat)(q:Wo×Rt):Prop where
 oth:∀j,j≠k->∀i,(hld q.1.a j i↔hld w.a j i)/\(xld q.1.a j i↔xld w.a j i)
 sh:∀i,0<=i->i<=7->WE q.1.D.1 i=WE w.D.1 i\/xld q.1.a k i
 k2:∀i,0<=i->i<=7->xld q.1.a k i->(xld w.a k i/\ov q.2 i (WE q.1.D.1 i)=ov x i (WE w.D.1 i))\/((∀j,¬xld w.a j i)/\ov q.2 i (WE q.1.D.1 i)=WE w.D.1 i)
 k1:∀i,0<=i->i<=7->¬xld q.1.a k i->xld w.a k i->ov x i (WE w.D.1 i)=WE w.D.1 i
 W:∀c,w.D.2=(c+oc x)%65536->q.1.D.2=(c+oc q.2)%65536
theorem SE.same(a:q.1.a=w.a)(b:q.1.D=w.D)(d:∀i v,ov q.2 i v=ov x i v)(e:oc q.2=oc x):SE w x k q:=
 ⟨λj _ i=>by rw[a];exact⟨Iff.rfl,Iff.rfl⟩,λi _ _=>.inl (by rw[b]),λi _ _ z=>.inl ⟨by rw[<-a];exact z,by rw[b,d]⟩,λi _ _ z g=>Wh (by rw[a];exact g) z,λc f=>by rw[b,e];exact f⟩
theorem TM(h:dn y=dn x)(a:y.y=x.y):(∀i v,ov y i v=ov x i v)/\oc y=oc x:=by
 unfold ov oc;rw[h,a];exact⟨λ_ _=>rfl,rfl⟩
theorem xW(h:dn x=false):(∀i v,ov x i v=mu x.y i v)/\oc x=dl x.y:=by
 unfold ov oc;rw[h];exact⟨λ_ _=>rfl,rfl⟩
theorem xV(h:stl x=false):dn x=false:=by unfold dn;rw[h];rfl
theorem SE.un(c:q.1.a=w.a)(d:q.1.D=w.D)(f:stl x=false)(g:stl q.2=false)(e:q.2.y=x.y):SE w x k q:=by
 obtain⟨a,b⟩:=TM ((xV g).trans (xV f).symm) e;exact .same c d a b
theorem SE.st(c:q.1.a=w.a)(d:q.1.D=w.D)(h:stl q.2=stl x)(e:q.2.H=x.H)(f:q.2.y=x.y):SE w x k q:=by
 obtain⟨a,b⟩:=TM (by unfold dn;rw[h,e]) f;exact .same c d a b
theorem Qb(h:ShOk w.D)(d:UnV u):WE (gL w.D u).1 i=uK1 u i (WE w.D.1 i)/\(gL w.D u).2=(if u.1=3 then(w.D.2-u.2.2+65536)%65536 else w.D.2):=by
 rcases d with⟨a,b,c⟩|⟨a,b,c⟩|⟨a,b,c⟩
 .have e:gL w.D u=(kN w.D.1 u.2.1 u.2.2,w.D.2):=by unfold gL;rw[Wb a]
  rw[e,Wa Ω];refine⟨?_,rfl⟩;simp only;rw[CZ h.Q b c];unfold uK1;by_cases e:i=u.2.1
  .rw[Wb e,Wb ⟨.inl a,e.symm⟩,Wb a]
  .rw[Wa e,Wa λz=>e z.2.symm]
 .have e:gL w.D u=(sc w.D.1 u.2.1,w.D.2):=by unfold gL;rw[Wa Ω,Wb a]
  rw[e,Wa Ω];refine⟨?_,rfl⟩;simp only;rw[Gq h.Q];unfold uK1;by_cases e:i=u.2.1
  .rw[Wb e,Wb ⟨.inr a,e.symm⟩,Wa Ω]
  .rw[Wa e,Wa λz=>e z.2.symm]
 .have e:gL w.D u=(w.D.1,(w.D.2-u.2.2+65536)%65536):=by unfold gL;rw[Wa Ω,Wa Ω,Wb a]
  rw[e,Wb a];refine⟨?_,rfl⟩;unfold uK1;rw[Wa Ω]
theorem WuD{s}{o}{r}(h:ShOk s)(a:Vals 4 r)(d:aj o=true)(f:12<=o.1):((WO o).1<=7/\(WO o).2=2/\(∀i,i≠(WO o).1->WE (WN s o r).1.1 i=WE s.1 i)/\(WN s o r).2.2=jX (WO o).1 (WE s.1 (WO o).1)/\(WN s o r).1.2=s.2)\/(((WO o).2=1\/(WO o).1=8)/\(WN s o r).1.1=s.1/\(((WN s o r).2.2.1=0/\(WN s o r).1.2=s.2)\/((WN s o r).2.2.1=3/\(WN s o r).1.2=(s.2+(WN s o r).2.2.2.2)%65536))):=by
 unfold WN WO;by_cases b:o.1=12
 .have o1:=kE.1 (u3 d b).1;have e:0<=ac r o.2.2.1 0/\ac r o.2.2.1 0<=65535:=a.get o.2.2.1.toNat;rw[Wb b,Wb (.inl b)];exact .inl ⟨o1.2,rfl,λi c=>by show WE (kN s.1 o.2.1 _) i=_;rw[CZ h.Q o1 e,Wa c],rfl,rfl⟩
 by_cases g:o.1=14
 .have o1:=kE.1 (u5 d g).1;simp only[Wa b,Wa (show¬o.1=13 by omega),Wb g,Wb (show o.1=12\/o.1=14 from .inr g)];exact .inl ⟨o1.2,trivial,λi c=>by rw[Gq h.Q,Wa c],trivial,trivial⟩
 grind
theorem RH(h:GOk w)(s:ROk p n x)(r:HU w.a k x)(o:x.y≠ [])(b:dn x=false):SE w x k (ez w x):=by
 have f:=Ww4 o;have l:eQ x.y (0,0,0)∈x.y:=by
  have:=f;generalize eQ x.y (0,0,0)=u at*;rw[this];simp
 have a:=s.y _ l;have g:dn (ez w x).2=false:=b;have y:∀i,0<=i/\i<=7->ov (ez w x).2 i (WE (ez w x).1.D.1 i)=ov x i (WE w.D.1 i):=λi C=>by
  unfold ov;rw[b,g,Wa Δ,Wa Δ]
  conv=>rhs;rw[f]
  rw[PD,<-(Qb h.D a).1];rfl
 refine⟨λj _ i=>⟨Iff.rfl,Iff.rfl⟩,λi d e=>?_,λi d e z=>.inl ⟨z,y i ⟨d,e⟩⟩,λi d e z B=>Wh B z,λc m=>?_⟩
 .show WE (gL w.D _).1 i=_\/_;rw[(Qb h.D a).1];by_cases z:((eQ x.y (0,0,0)).1=1\/(eQ x.y (0,0,0)).1=2)/\(eQ x.y (0,0,0)).2.1=i
  .right;have:=(r _ l).1 z.1;rw[z.2]at this;exact this
  .left;unfold uK1;rw[Wa z]
 .show(gL w.D _).2=_;rw[(Qb h.D a (i:=0)).2];have A:dl x.y=dl x.y.dropLast+(if(eQ x.y (0,0,0)).1=3 then(eQ x.y (0,0,0)).2.2 else 0):=by
   conv=>lhs;rw[f]
   exact w8
  have t:oc x=dl x.y:=by unfold oc;rw[b];rfl
  have v:oc (ez w x).2=dl x.y.dropLast:=by unfold oc;rw[g];rfl
  rw[t,A]at m;rw[v,m];have:(eQ x.y (0,0,0)).1=3->0<=(eQ x.y (0,0,0)).2.2/\(eQ x.y (0,0,0)).2.2<=65535:=λz=>by
   rcases a with q|q|q
   .omega
   .omega
   .exact q.2.2
  split<;>omega
theorem JD:stl (WA x)=false/\(WA x).y=x.y:=by
 unfold WA;split
 .unfold stl dE;simp
 .exact⟨gw (by show(3:Int)<=4;omega),rfl⟩
theorem WxW{o}(h:GOk w)(U:Vals 4 x.t)(I:aj o=true)(F:12<=o.1)(W:HU w.a k x)(G:x.g=1)(hH:∀e∈w.a,∃j:Nat,e.1=(j:Int)+1):SE w x k (eN w x k o):=by
 have J:stl x=false:=gw Ω;unfold eN;cases ha:fN w.a ((k:Int)+1) (WO o).1 (WO o).2 with
 |none=>exact SE.un rfl rfl J JD.1 JD.2
 |some hs=>
  obtain⟨mr,X⟩:=Wsp I F;have A:=TS h.a X ha;have T:=WuD h.D U I F;generalize WN w.D o x.t=b at*;have L:=xV J;have E:∀y:Rt,y.g=1->dn y=false:=λy z=>xV (gw Ω);have n:=(xW L).1;have p:=(xW (x:={x with t:=b.2.1,y:=if b.2.2.1=0 then x.y else x.y++ [b.2.2],k:=x.k+1}) (E _ G)).1;have D:=(xW L).2;have m:=(xW (x:={x with t:=b.2.1,y:=if b.2.2.1=0 then x.y else x.y++ [b.2.2],k:=x.k+1}) (E _ G)).2;have C:∀i,¬xld w.a k i->∀v,mu x.y i v=v:=λi z v=>WvW λu V B e=>z (e▸(W u V).1 B);rcases T with⟨P,q,r,Q,R⟩|⟨P,q,r⟩
  .have DV:b.2.2.1≠0/\uK1 b.2.2 (WO o).1 (WE b.1.1 (WO o).1)=WE w.D.1 (WO o).1/\(∀i,i≠(WO o).1->∀v,uK1 b.2.2 i v=v)/\b.2.2.1≠3:=by
    rw[Q];unfold jX uK1;have:=JZ w.D.1 (WO o).1;split<;>grind
   obtain⟨K,Y,Z,t4⟩:=DV;refine⟨A.oth,λi g l=>?_,λi g l z=>?_,λi g l z d=>Wh ((A.xx i).2 (.inl d)) z,λc f=>?_⟩
   .by_cases e:i=(WO o).1
    .exact .inr ((A.xx i).2 (.inr ⟨e,q⟩))
    .exact .inl (r i e)
   .rw[n,p,Wa K,PD];by_cases e:i=(WO o).1
    .subst e;rw[Y];by_cases d:xld w.a k (WO o).1
     .exact .inl ⟨d,rfl⟩
     .refine .inr ⟨λj H=>?_,C _ d _⟩;by_cases S:j=k
      .subst S;exact d H
      .obtain⟨a,M,a2,N,O⟩:=H;exact(A.X a M N Ω).2 O
    .left;rw[Z i e];refine⟨((A.xx i).1 z).resolve_right λz=>e z.1,?_⟩;show mu x.y i (WE b.1.1 i)=_;rw[r i e]
   .rw[m,Wa K,w8,Wa t4];show b.1.2=_;rw[R,f];congr 1;omega
  .have B:∀i v,mu (if b.2.2.1=0 then x.y else x.y++ [b.2.2]) i v=mu x.y i v:=λi v=>by
    split
    .rfl
    .rename_i z;rw[PD];unfold uK1;rw[Wa Ω]
   refine⟨A.oth,λi g l=>.inl (by show WE b.1.1 i=_;rw[q]),λi g l z=>.inl ⟨?_,?_⟩,λi g l z d=>Wh ((A.xx i).2 (.inl d)) z,λc f=>?_⟩
   .exact((A.xx i).1 z).resolve_right λz=>Ω
   .rw[n,p,B];show mu x.y i (WE b.1.1 i)=_;rw[q]
   .rw[D]at f;rw[m];show b.1.2=_;rcases r with⟨s,t⟩|⟨s,t⟩
    .rw[Wb s,t,f]
    .rw[Wa Ω,w8,Wb s,t,f];omega
theorem WsH{i}:(hld (W1 l ((k:Int)+1)) j i↔hld l j i/\j≠k)/\(xld (W1 l ((k:Int)+1)) j i↔xld l j i/\j≠k):=by
 have g:∀e:Hd,e∈W1 l ((k:Int)+1)↔e∈l/\e.1≠(k:Int)+1:=λe=>by
  unfold W1;simp
 constructor
 .constructor
  .rintro⟨e,c,d,f⟩;obtain⟨a,b⟩:=(g e).1 c;exact⟨⟨e,a,d,f⟩,Ω⟩
  .rintro⟨⟨e,c,d,f⟩,h⟩;exact⟨e,(g e).2 ⟨c,Ω⟩,d,f⟩
 .constructor
  .rintro⟨e,c,d,f⟩;obtain⟨a,b⟩:=(g e).1 c;exact⟨⟨e,a,d,f⟩,Ω⟩
  .rintro⟨⟨e,c,d,f⟩,h⟩;exact⟨e,(g e).2 ⟨c,Ω⟩,d,f⟩
theorem WuR(d:q.1.a=W1 w.a ((k:Int)+1))(e:q.1.D=w.D)(h:dn x=true\/x.y= [])(p:q.2.y= []):SE w x k q:=by
 have m:∀i v,ov x i v=v:=λi v=>by unfold ov;rcases h with z|z<;>rw[z]<;>simp[mu]
 have n:oc x=0:=by unfold oc;rcases h with z|z<;>rw[z]<;>simp[dl]
 have o:oc q.2=0:=by unfold oc;rw[p];simp[dl]
 refine⟨λj g i=>?_,λi _ _=>.inl (by rw[e]),λi _ _ z=>?_,λi _ _ _ _=>m _ _,λc f=>by rw[e,o];rw[n]at f;exact f⟩
 .rw[d];obtain⟨a,b⟩:=WsH (l:=w.a) (k:=k) (j:=j) (i:=i);exact⟨by rw[a];exact⟨λz=>z.1,λz=>⟨z,g⟩⟩,by rw[b];exact⟨λz=>z.1,λz=>⟨z,g⟩⟩⟩
 .rw[d,WsH.2]at z;exact Wh rfl z.2
end
end
section
section
variable{b:Int->Int}{s:Sc}{w v:Wo}{n:Int}{x y:Rt}{k:Nat}{p:Pg}{o:Opn}{m d:Mm}{H f:List Wr}{C e:Nat->Option Cm}{c:Cm}{a:Ac}
theorem WBN(g:MI b m H C)(i:CmOk c)(p:W4 m=true)(j:m.1<1000000)(o:C k=some c)(s:c.g<=3)(f:(Wv m c).2.g=4):(Wv m c).2.w=c.w/\∀h∈H,h.1≠(Wv m c).2.F:=by
 have q:=i.g;revert f;unfold Wv;simp only;by_cases a:c.g=1
 .rw[Wb a];split
  .intro f;have:(Wz c 2).g=1\/(Wz c 2).g=2:=by
    unfold Wz;split
    .right;show bm c 2=2;unfold bm;rw[Wa Ω,Wa Ω]
    .left;exact a
   simp_all
  grind [ml]
 rw[Wa a];by_cases e:c.g=2
 .have et:tick m=((m.1+1,m.2),m.1+1):=by unfold tick;rw[Wb j]
  have r:=(WK p).2.1;rw[Wb e,et];simp only;rw[Wa Ω];intro _;refine⟨rfl,λh d=>?_⟩;have:=g.st h d;show h.1≠m.1+1;omega
 rw[Wa e,Wb Ω];split
 .grind [ml]
 .intro _;obtain⟨l,_,n⟩:=wC c 4;refine⟨l,λh d=>?_⟩;rw[n];exact(g.fr k c o Ω).2.2 h d
theorem R6:∀(n:Nat) (l:List Int),l.Nodup->(∀x∈l,1<=x/\x<=n)->l.length<=n
 |0,l,_,h=>by
  cases l<;>grind [Xg]
 |n+1,l,a,h=>by
  by_cases c:((n+1:Nat):Int)∈l
  .have:=R6 n (l.erase ((n+1:Nat):Int)) (a.erase _) λx b=>by
    grind
   simp_all
  .have:=R6 n l a λx b=>by
    grind
   omega
structure HW(l:List Rt)(H:List Wr):Prop where
 J:∀h∈H,∃k:Nat,∃hk:k<l.length,h.2.1=(k:Int)+1/\stl l[k]=true
 nod:(H.map (·.2.1)).Nodup
 dist:H.Pairwise λa b=>a.1≠b.1
 up:∀h∈H,h.2.2.Pairwise λa b=>a.1<b.1
theorem HW.stay{l e}(h:HW l H)(g:l.length=e.length)(d:∀(i) (h) (j:i<e.length),stl l[i]=true->stl e[i]=true):HW e H:=
 ⟨λq a=>by
  obtain⟨k,f,b,c⟩:=h.J q a
  grind,h.nod,h.dist,h.up⟩
theorem HW.len{l}(h:HW l H)(g:l.length<=4):H.length<=4:=by
 have a:=R6 4 (H.map (·.2.1)) h.nod λz c=>by
  obtain⟨e,b,rfl⟩:=Xy.1 c;obtain⟨k,f,d,_⟩:=h.J e b;omega
 simpa using a
theorem HW.app{l A:List Rt}(h:HW l H)(w:k<l.length)(x:A.length=l.length)(d:∀(i) (h:i<l.length) (q:i<A.length),stl l[i]=true->stl A[i]=true){e:Wr}(v:e.2.1=(k:Int)+1)(r:stl l[k]=false)(s:stl (A[k]'Ω)=true)(t:∀z∈H,z.1≠e.1)(y:e.2.2.Pairwise λa b=>a.1<b.1):HW A (H++ [e]):=by
 refine⟨λz c=>?_,?_,?_,λz c=>?_⟩
 .rcases Xo.1 c with c|c
  .obtain⟨j,n,g,m⟩:=h.J z c
   grind
  grind
 .rw[List.map_append,List.nodup_append];refine⟨h.nod,Δ,λz c u f=>?_⟩;obtain⟨p,o,rfl⟩:=Xy.1 c;simp only[List.map_cons,List.map_nil,List.mem_singleton]at f;obtain⟨j,n,g,m⟩:=h.J p o
  grind
 .rw[dZ];refine⟨h.dist,List.pairwise_singleton ..,λz c u f=>?_⟩<;>grind
 .rcases Xo.1 c with c|c
  .exact h.up z c
  simp_all
theorem WAV(O:WOk s.2.1 n w)(r:WX w)(K:WT w)(J:MI b w.i w.C (aU w.c))(l:HW w.c w.C)(N:n<=99999):HW (aq s w a).c (aq s w a).C:=by
 have q:=C3 (a:=a) O r;have t:=q.2.len;have m:=λi D E P=>((q.2.x i D E).st P).1;have u:w.i.1<1000000:=by have:=K.clk;have:=O.j;omega
 have F:(aq s w a).C=w.C\/∃k:Nat,∃c:k<w.c.length,(w.c[k].g=5/\w.c[k].U=false/\w.c[k].l.g<=3/\(Wv w.i w.c[k].l).2.g=4)/\(aq s w a).C=w.C++ [((Wv w.i w.c[k].l).2.F,(k:Int)+1,(Wv w.i w.c[k].l).2.w)]/\(aq s w a).c[k]?=some (cX {w.c[k]with l:=(Wv w.i w.c[k].l).2}):=by
  unfold aq;simp only;split
  .have c:a.2.1.toNat<w.c.length:=Ω
   generalize a.2.1.toNat=k at*;split
   .unfold m9;rw[Wk (c)];have d:=qu O c;show(WS {w with j:=w.j+1} w.c[k] k (s.2.1.getD k pg0)).1.C=_\/_;by_cases h:w.c[k].g=5
    .by_cases o:w.c[k].U=false
     .obtain⟨M,B,C⟩:=KH (w:={w with j:=w.j+1}) (x:=w.c[k]) (k:=k) (p:=s.2.1.getD k pg0) h o;by_cases j:w.c[k].l.g<=3/\(Wv w.i w.c[k].l).2.g=4
      .right;refine⟨k,c,⟨h,o,j.1,j.2⟩,?_,?_⟩
       .show(WS {w with j:=w.j+1} w.c[k] k (s.2.1.getD k pg0)).1.C=_;rw[B];unfold c5;rw[Wb j]
       .show((WS {w with j:=w.j+1} w.c[k] k (s.2.1.getD k pg0)).1.c.set k _)[k]?=_;rw[d,List.getElem?_set_self c,C]
      simp_all [c5,Wa]
     simp_all [WS,Wa,Wb,W7]
    .left;obtain⟨_,I,_⟩:=KF (w:={w with j:=w.j+1}) (k:=k) (p:=s.2.1.getD k pg0) h;exact I
   .left;split
    .split<;>rfl
    .split
     .split<;>rfl
     .rfl
  .left;rfl
 rcases F with e|⟨k,c,⟨f,L,v,y⟩,e,g⟩
 .rw[e];exact l.stay t m
 .rw[e];obtain⟨G,H⟩:=WBN (k:=k) J ((O.x k c).R f) O.i u (by rw[DB c];unfold cmX;rw[Wb f]) v y;have A:k<(aq s w a).c.length:=Ω
  rw[Xq A]at g;have g:=Option.some.inj g;refine l.app (k:=k) (e:=((Wv w.i w.c[k].l).2.F,(k:Int)+1,(Wv w.i w.c[k].l).2.w)) c Ω m rfl ?_ ?_ H (by rw[G];exact((O.x k c).R f).pup)
  .rw[nn];intro z;rcases WP.1 z with z|z|z<;>omega
  simp_all [cX,Wv,Wa,WP]
def ROs(b:Int->Int)(s:Sc)(w:Wo):Prop:=∀(k:Nat) (h:k<w.c.length),RO b w.i w.C (aU w.c) (s.2.1.getD k pg0) w.c[k]
structure OA(b:Int->Int)(s:Sc)(n:Int)(w:Wo):Prop where
 ok:WOk s.2.1 n w
 wx:WX w
 lx:LX w
 wt:WT w
 mi:MI b w.i w.C (aU w.c)
 ro:ROs b s w
 hw:HW w.c w.C
theorem Rp(h:OA b s n w)(K:n<=99999):OA b s (n+1) (aq s w a):=by
 have M:=C3 (a:=a) h.ok h.wx;have O:=nV (a:=a) h.ok;have f:=Wv3 (a:=a) h.ok h.lx h.wx h.wt Ω h.mi;refine⟨O,M.1,Ld h.ok h.wx h.lx,RB h.ok h.wt,f.1,?_,?_⟩
 .have aa:=h.ok.len;have E:w.i.1<1000000:=by have:=h.wt.clk;have:=h.ok.j;omega
  have r:=RP h.ok h.lx;revert f;unfold LZ aq;simp only;split
  .have hk:a.2.1.toNat<w.c.length:=Ω
   rw[Wk hk];generalize a.2.1.toNat=k at*;split
   .unfold m9;rw[Wk (hk)];have S:=h.ok.x k hk;have d:=qu h.ok hk;have B:=WxY (b:=b) (p:=s.2.1.getD k pg0) h.ok h.wx hk rfl;have v:=(WwD (n:=n) (h.wx k hk) S ⟨h.ok.i,h.ok.D,h.ok.a⟩ (w:={w with j:=w.j+1}) (k:=k) ⟨(h.lx.x k hk).l,(h.lx.x k hk).no,(h.lx.x k hk).hd,(h.lx.x k hk).tk⟩).clk;have o:POk (s.2.1.getD k pg0):=h.ok.O _ Θ;generalize l:WS {w with j:=w.j+1} w.c[k] k (s.2.1.getD k pg0)=q at*;intro f;have C:=f.2;intro j i;change j<(q.1.c.set k q.2).length at i;have F:j<w.c.length:=Ψ
    show RO b q.1.i q.1.C (aU (Wo.put q k).c) _ ((q.1.c.set k q.2)[j]'i);rw[fE];split
    .rename_i e;subst e;have:=WAJ (w:={w with j:=w.j+1}) (k:=k) (h:=aU (Wo.put q k).c) o (h.ro k hk) h.mi r h.ok.i E S (by rw[l];exact C) (by rw[l];exact B) (by rw[l];exact v);simp_all
    .simp only[d];exact(h.ro j F).keep C B v
   .have same:∀y:Rt,cmX y=cmX w.c[k]->RO b w.i w.C (aU w.c) (s.2.1.getD k pg0) y->ROs b s (Wo.put ({w with j:=w.j+1},y) k):=λy L c j i=>by
     have A:(Wo.put ({w with j:=w.j+1},y) k).c=w.c.set k y:=rfl;have J:aU (Wo.put ({w with j:=w.j+1},y) k).c=aU w.c:=by
      rw[A,KY hk,L,<-DB hk]
      grind [c7]
     rw[J];simp only[A,fE];split
     .rename_i e;subst e;exact c
     .exact h.ro j Ψ
    split
    .split
     .rename_i hc;intro _;have g:=hc.1;have S:=h.ok.x k hk;have D:=S.Ev Ω;obtain⟨_,_,x⟩:=D.V g;obtain⟨u,P,G⟩:=(h.ro k hk).n g;have o:POk (s.2.1.getD k pg0):=h.ok.O _ Θ;have t:a.2.2.toNat<(s.2.1.getD k pg0).2.length:=Ω
      have N:(s.2.1.getD k pg0).2.getD a.2.2.toNat []=(s.2.1.getD k pg0).2[a.2.2.toNat]:=Wk t _;obtain⟨H,I,Q,R⟩:=Wy5 (m:=w.i) (k:=a.2.2.toNat) (d:=(s.2.1.getD k pg0).2.getD a.2.2.toNat []) G x (by rw[x.len];exact t) h.ok.i (by rw[N];exact o.κ _ (Xm _)) rfl (by rw[u];exact TW h.mi r Ω (h.ro k hk).u);have c:=h.ro k hk;refine same {w.c[k]with n:=aC w.i w.c[k].n a.2.2.toNat ((s.2.1.getD k pg0).2.getD a.2.2.toNat [])} rfl ⟨c.u,c.Eo,c.rd,c.E,c.ext,λ_=>⟨I.trans u,?_,H⟩,λz=>Wh g z⟩;simp_all
     .intro _;exact h.ro
    .split
     .split
      .intro _;have c:=h.ro k hk;exact same {w.c[k]with U:=true} rfl ⟨c.u,c.Eo,c.rd,c.E,c.ext,c.n,c.fam0⟩
      .intro _;exact h.ro
     .intro _;exact h.ro
  .intro _;exact h.ro
 .exact WAV h.ok h.wx h.wt h.mi h.hw K
theorem Wvc:∀(l:List Ac) (n) (w),OA b s n w->n+l.length<=99999->OA b s (n+l.length) (l.foldl (aq s) w)
 | [],n,w,h,_=>by simpa using h
 |e::l,n,w,h,hn=>by
  simp only[Xv]at hn;have:=Wvc l (n+1) _ (Rp (a:=e) h Ω) Ω
  grind
end
end
section
def ow(x:Rt):Option Int:=if x.g=5/\x.l.g=3 then some x.l.F else if stl x=true/\x.u<Wn x then some (Wn x)else none
section
variable{R:Type}{N d:Nat}{a:Ka5 R}{b:Ka4 R}
 {M I:V3} {f:Int->Int->Prop} {e:List Rw} {g:Option GE} {k:Nat} {p:Pg} {w:Wo} {x y:Rt} {q:Wo×Rt} {n:Int} {i:Nat} {o:Opn} {m:Mm} {c:Cm}
structure NO(N d:Nat)(a:Ka5 R)(b:Ka4 R)(M I:V3)(f:Int->Int->Prop)(e:List Rw)(g:Option GE)(k:Nat)(p:Pg)(w:Wo)(x:Rt)(q:Wo×Rt):Prop where
 ra:RA N d a b M I f e q.1.a q.1.D g k p q.2
 se:SE w x k q
 ow:ow q.2=none\/(ow q.2=ow x/\(x.g=5/\x.l.g=3\/stl x=true))\/(ow q.2=some (w.i.1+1)/\q.1.i.1=w.i.1+1)
 hh:x.g=5->q.1.a=w.a
 p5:q.2.g=5->q.2.l.g=3->x.g=5
 C:q.1.C=w.C
 nst:x.g=5->stl x=false->stl q.2=false
structure SO(N d:Nat)(a:Ka5 R)(b:Ka4 R)(M:V3)(f:Int->Int->Prop)(k:Nat)(p:Pg)(w:Wo)(x:Rt)(q:Wo×Rt):Prop where
 hh:q.1.a=w.a
 hs:q.1.D=w.D
 h5:x.g=5
 sx:stl x=false
 sy:stl q.2=true
 u:q.2.u<Wn q.2
 ow:(x.l.g=3/\x.l.F=Wn q.2)\/(Wn q.2=w.i.1+1/\q.1.i.1=w.i.1+1)
 np:q.2.g=5->q.2.l.g≠3
 H:q.2.H=x.H
 und:q.2.y=x.y
 C:q.1.C=if x.l.w= []then w.C else w.C++ [(Wn q.2,(k:Int)+1,x.l.w)]
 ra:∀(e:V3) (c:Int->Int->Prop),(∀i,(0<=i/\i<=7/\hld w.a k i)\/(i=8/\xld w.a k 8)->∃z,f i z/\e (Wn q.2-1) i z)->RA N d a b M e c x.l.w w.a w.D (vi w.a w.D k x (Wn q.2)) k p q.2
theorem u4(b:stl x=false)(a:x.g≠5\/x.l.g≠3):ow x=none:=by
 unfold ow;rw[Wa Ω,b,Wa Δ]
theorem Og(a:stl x=true)(b:stl y=true)(d:Wn y=Wn x)(e:y.u=x.u):ow y=ow x:=by
 have c:∀z:Rt,stl z=true->¬(z.g=5/\z.l.g=3):=λz h=>by
  rw[WP]at h;omega
 unfold ow;rw[Wa (c x a),Wa (c y b),a,b,d,e]
theorem YY{out}(e:x.g=1)(c:HU w.a k x)(f:∀u∈x.y,UnV u)(b:stl x=false):SE w x k (W9 w x k out)/\ow (W9 w x k out).2=none/\((W9 w x k out).2.g=5->(W9 w x k out).2.l.g≠3)/\(W9 w x k out).1.C=w.C:=by
 unfold W9;simp only;generalize (if out=2 then []else x.A)=g;split
 .rename_i hz;have a:=WzC c f λi=>WzD hz.2;have d:stl (gi w {x with H:=out,ED:=x.u} k).2=true:=by rw[WP];exact .inl rfl
  refine⟨SE.same rfl rfl (λi v=>?_) ?_,?_,λz=>by(change (8:Int)=5 at z;omega),rfl⟩
  .unfold ov;rw[a];show(if _ then v else mu [] i v)=_;simp[mu]
  .unfold oc;rw[a];show(if _ then(0:Int)else dl [])=_;simp[dl]
  .unfold ow;rw[Wa (by show¬((8:Int)=5/\_);omega),d];have:Wn (gi w {x with H:=out,ED:=x.u} k).2=x.u:=by unfold Wn;rw[Wb d];rfl
   rw[this];show(if true=true/\x.u<x.u then _ else _)=_;rw[Wa Ω]
 .have hc:(cx ((k:Int)+1) x.u g x.o).g=1\/(cx ((k:Int)+1) x.u g x.o).g=2:=by
   simp only[cx];split<;>simp
  have d:stl {x with H:=out,l:=cx ((k:Int)+1) x.u g x.o,g:=5}=false:=by
   cases z:stl {x with H:=out,l:=cx ((k:Int)+1) x.u g x.o,g:=5}
   .rfl
   .rw[WP]at z;simp only at z;omega
  exact⟨SE.un rfl rfl b d rfl,u4 d (.inr (by show(cx _ _ _ _).g≠3;omega)),λ_=>by show(cx _ _ _ _).g≠3;omega,rfl⟩
theorem low(h:y.g<=4):ow y=none/\(y.g=5->y.l.g≠3):=⟨u4 (gw h) (.inl Ω),λz=>Ω⟩
theorem qm:stl (dE x)=false/\ow (dE x)=none/\((dE x).g=5->(dE x).l.g≠3):=by
 have h:stl (dE x)=false:=by unfold stl dE;simp
 exact⟨h,u4 h (.inl (by show(6:Int)≠5;omega)),λz=>by(change (6:Int)=5 at z;omega)⟩
theorem O2:ow (WA x)=none/\((WA x).g=5->(WA x).l.g≠3):=by
 unfold WA;split
 .exact qm.2
 .exact low (by show(3:Int)<=4;omega)
theorem WAG(a:x.g=1):stl (dX w x o)=false/\(dX w x o).y=x.y/\ow (dX w x o)=none/\((dX w x o).g=5->(dX w x o).l.g≠3):=by
 unfold dX;cases bf x.A o.2.2.1 with
 |some v=>exact⟨gw (by show x.g<=4;omega),rfl,low (by show x.g<=4;omega)⟩
 |none=>
  simp only;generalize WU w.i x.u _=q;split
  .exact⟨JD.1,JD.2,O2⟩
  split<;>exact⟨gw (by show x.g<=4;omega),rfl,low (by show x.g<=4;omega)⟩
theorem WBS(s:POk p)(f:x.g=1)(m:ROk p n x)(r:GOk w)(h:HU w.a k x)(v:∀e∈w.a,∃j:Nat,e.1=(j:Int)+1):SE w x k (am w x k p)/\ow (am w x k p).2=none/\((am w x k p).2.g=5->(am w x k p).2.l.g≠3)/\(am w x k p).1.C=w.C:=by
 have g:=m.Ev Ω;have d:stl x=false:=gw Ω;have q:∀y:Rt,y.g<=4->y.y=x.y->SE w x k (w,y)/\ow y=none/\(y.g=5->y.l.g≠3)/\w.C=w.C:=λy a b=>⟨SE.un rfl rfl d (gw a) b,(low a).1,(low a).2,rfl⟩;unfold am;split
 .exact YY f h m.y d
 rename_i D;obtain⟨i,u,E,B⟩:=jV (l:=p.1) g.k.1 Ω;obtain⟨C,G,F⟩:=s.Y.ok i u;simp only[B];split
 .obtain⟨a,b,c,H⟩:=WAG (w:=w) (o:=p.1[i]) f;exact⟨SE.un rfl rfl d a b,c,H,rfl⟩
 split
 .unfold fV;split
  .exact YY f h m.y d
  rename_i A;split
  .rename_i ab;have t:x.y≠ []:=λz=>by
    rw[z]at ab;have:=(g.upd _ (Hi g s A).2.2).2.2.2;simp at ab;omega
   have:=RH (k:=k) r m h t (xV d);exact⟨this,(low (y:=(ez w x).2) (by show x.g<=4;omega)).1,λz=>by(change x.g=5 at z;omega),rfl⟩
  .exact q _ (by show x.g<=4;omega) rfl
 split
 .exact q _ (by show(2:Int)<=4;omega) rfl
 split
 .rename_i cU;refine⟨WxW r g.t C cU h f v,?_⟩;unfold eN;cases fN w.a ((k:Int)+1) (WO p.1[i]).1 (WO p.1[i]).2 with
  |none=>exact⟨O2.1,O2.2,rfl⟩
  |some d=>exact⟨(low (by show x.g<=4;omega)).1,λz=>by(change x.g=5 at z;omega),rfl⟩
 repeat' split
 all_goals exact q _ (by show x.g<=4;omega) rfl
end
end
section
section
variable{R:Type}{N U:Nat}{Y:Ka5 R}{Z:Ka4 R}
 {M I:V3} {X:Int->Int->Prop} {W:List Rw} {g:Option GE} {k:Nat} {p:Pg} {w:Wo} {x y:Rt} {q:Wo×Rt} {n:Int} {i:Nat} {o:Opn} {m:Mm} {c:Cm}
theorem pC{v}(a:v.a=w.a)(c:v.D=w.D)(d:v.C=w.C)(i:stl x=false)(b:stl y=false)(h:y.y=x.y)(j:RA N U Y Z M I X W w.a w.D g k p y)(e:ow y=none\/(ow y=ow x/\(x.g=5/\x.l.g=3\/stl x=true))\/(ow y=some (w.i.1+1)/\v.i.1=w.i.1+1))(f:y.g=5->y.l.g=3->x.g=5):NO N U Y Z M I X W g k p w x (v,y):=
 ⟨Ψ,SE.un a c i b h,e,λ_=>a,f,d,λ_ _=>b⟩
theorem LN{v}(b:v.a=w.a)(d:v.D=w.D)(e:v.C=w.C)(a:stl x=true)(c:stl y=true)(j:y.y=x.y)(i:y.H=x.H)(f:Wn y=Wn x)(h:y.u=x.u)(l:RA N U Y Z M I X W w.a w.D g k p y):NO N U Y Z M I X W g k p w x (v,y):=
 ⟨Ψ,SE.st b d (c.trans a.symm) i j,.inr (.inl ⟨Og a c f h,.inr a⟩),λ_=>b,λz m=>by grind [WP],e,λ_ z=>Ψ⟩
theorem Ow{b}(a:x.g=5)(d:c.g≠4/\c.g≠5):stl {x with l:=c,U:=b}=false:=by
 grind [stl,WP]
theorem WtK(h:RA N U Y Z M I X W w.a w.D g k p x)(K:stl x=false->W= [])(d:x.g=5)(hd:x.U=false)(O:CmOk x.l)(zN:x.l.g≠6/\x.l.g≠8)(qa4:w.i.1<1000000)(h0:0<=w.i.1)(gF:x.u<=w.i.1)(hk:stl x=false->SK X w k x)(hH:HOk w.a)
  (mI:x.l.g=3->¬(((Wy w.i (ac x.l.o x.l.pos 0)).2.2≠0/\(Wy w.i (ac x.l.o x.l.pos 0)).2.2≠x.l.J)\/(Wy w.i (ac x.l.o x.l.pos 0)).2.1>x.l.u)->∀v,(ac x.l.o x.l.pos 0,v)∈x.o->M (x.l.F-1) (ac x.l.o x.l.pos 0) v):NO N U Y Z M I X W g k p w x (W7 w x k)\/SO N U Y Z M X k p w x (W7 w x k):=by
 have wY:=h.fa;have Q:=wY.2.2.1 (.inl d);obtain⟨cl1,cl2,cl3⟩:=h.cl d;have qa5:=O.g;have dg:=O.pos;unfold W7;rw[Wa Θ];simp only;by_cases S:stl x=true
 .
  have R:x.l.g=4\/x.l.g=5:=by
   grind [WP]
  have hq:(Wv w.i x.l).2.F=x.l.F/\(Wv w.i x.l).2.u=x.l.u/\(Wv w.i x.l).2.o=x.l.o/\(Wv w.i x.l).2.w=x.l.w/\((Wv w.i x.l).2.g=4\/(Wv w.i x.l).2.g=5\/(Wv w.i x.l).2.g=6):=by
   have hn:∀i,i=5\/i=6->(Wz x.l i).F=x.l.F/\(Wz x.l i).u=x.l.u/\(Wz x.l i).o=x.l.o/\(Wz x.l i).w=x.l.w/\((Wz x.l i).g=4\/(Wz x.l i).g=5\/(Wz x.l i).g=6):=λi qa5=>by
    unfold Wz ei bm;split
    .grind
    simp_all
   unfold Wv
   grind
  left;have qa2:(if x.l.g<=3/\(Wv w.i x.l).2.g=4 then w.C++ [((Wv w.i x.l).2.F,(k:Int)+1,(Wv w.i x.l).2.w)]else w.C)=w.C:=Wa Ω;rw[qa2];generalize Wv w.i x.l=q at*;obtain⟨q1,q2,q3,q4,q5⟩:=hq;have DI:Wn x=x.l.F:=by unfold Wn;rw[Wb S,Wb d]
  unfold cX;rw[Wa Θ];simp only;by_cases E:q.2.g=6
  .rw[Wb E];have c:stl {x with ED:=q.2.F,l:={},g:=if x.H=2 then 6 else 7}=true:=by
    rw[WP];simp only;split<;>omega
   have n:Wn {x with ED:=q.2.F,l:={},g:=if x.H=2 then 6 else 7}=Wn x:=by
    unfold Wn
    grind
   exact LN rfl rfl rfl S c rfl rfl n rfl (LF h S c n rfl rfl rfl rfl rfl (λz=>by simp only at z;split at z<;>omega) h.hu ⟨Q,λz=>by simp only at z|-;split at z<;>omega⟩ ⟨by simp only;split<;>omega,λz=>by simp only at z;split at z<;>omega⟩ λ_=>Ω)
  .rw[Wa E];have c:stl {x with l:=q.2}=true:=by grind [WP]
   have n:Wn {x with l:=q.2}=Wn x:=by
    unfold Wn;rw[Wb c,Wb S];simp only;rw[Wb d,Wb d,q1]
   exact LN rfl rfl rfl S c rfl rfl n rfl (LF h S c n rfl rfl rfl rfl rfl (λz=>Ψ) h.hu ⟨Q,λz=>Ψ⟩ ⟨Ψ,λ_=>⟨d,Θ,q2,q3,q4⟩⟩ λ_=>Ω)
 have S:stl x=false:=Ψ
 have K:=K S;subst K;have R:x.l.g≠4/\x.l.g≠5:=by
  refine⟨λz=>?_,λz=>?_⟩<;> · grind [WP]
 have f:∀(L:Mm) (V:Cm),V.u=x.l.u/\V.o=x.l.o/\V.w=x.l.w->V.g=7\/V.g=8->NO N U Y Z M I X [] g k p w x ({w with i:=L,C:=if x.l.g<=3/\V.g=4 then w.C++ [(V.F,(k:Int)+1,V.w)]else w.C},cX {x with l:=V}):=λL V l C=>by
  rw[Wa (show¬(x.l.g<=3/\V.g=4) by omega)];unfold cX;by_cases P:V.g=8
  .rw[Wb P];exact pC (y:=dE x) rfl rfl rfl S qm.1 rfl (Ha h S) (.inl qm.2.1) λz=>Ω
  .rw[Wa P,Wa Ψ];have c:stl {x with l:=V}=false:=by grind [Ow]
   exact pC rfl rfl rfl S c rfl (QY (b:=x.U) h d S l Ω λz=>Ω) (.inl (u4 c (.inr Ψ))) λz=>Ω
 have F:∀(L:Mm) (V:Cm),V.u=x.l.u/\V.o=x.l.o/\V.w=x.l.w->V.g=1\/V.g=2\/V.g=3->(V.g=3->(x.u<V.F/\∀(j:Nat) (J:j<x.l.o.length),(j:Int)<V.pos->∀v,(x.l.o[j],v)∈x.o->M (V.F-1) x.l.o[j] v)/\(x.l.g=3/\V.F=x.l.F\/V.F=w.i.1+1/\L.1=w.i.1+1))->NO N U Y Z M I X [] g k p w x ({w with i:=L,C:=if x.l.g<=3/\V.g=4 then w.C++ [(V.F,(k:Int)+1,V.w)]else w.C},cX {x with l:=V}):=λL V l C D=>by
  rw[Wa (show¬(x.l.g<=3/\V.g=4) by omega)];unfold cX;rw[Wa Θ,Wa Θ];have c:stl {x with l:=V}=false:=by grind [Ow]
  refine pC rfl rfl rfl S c rfl (QY (b:=x.U) h d S l Ω λz=>(D z).1) ?_ λz=>Ω
  by_cases e:V.g=3
  .have ho:ow {x with l:=V}=some V.F:=by unfold ow;rw[Wb ⟨d,e⟩]
   rcases(D e).2 with⟨a,b⟩|⟨a,b⟩
   .refine .inr (.inl ⟨?_,.inl ⟨d,a⟩⟩);rw[ho,b];unfold ow;rw[Wb ⟨d,a⟩]
   simp_all
  grind [u4]
 have set:∀(L:Mm) (V:Cm),V.u=x.l.u/\V.o=x.l.o/\V.w=x.l.w->x.l.g<=3->(V.g=4/\x.l.w≠ []\/V.g=6/\x.l.w= [])->x.u<V.F->(∀r∈x.o,M (V.F-1) r.1 r.2)->(x.l.g=3/\V.F=x.l.F\/V.F=w.i.1+1/\L.1=w.i.1+1)->SO N U Y Z M X k p w x ({w with i:=L,C:=if x.l.g<=3/\V.g=4 then w.C++ [(V.F,(k:Int)+1,V.w)]else w.C},cX {x with l:=V}):=λL V l D C e4 e5 E=>by
  have mk:∀y:Rt,stl y=true->Wn y=V.F->y.u=x.u->y.B=x.B->y.H=x.H->y.t=x.t->y.o=x.o->y.y=x.y->(y.g=5/\y.l.g≠3/\y.l.u=x.l.u/\y.l.o=x.l.o/\y.l.w=x.l.w\/y.g=6/\x.H=2\/y.g=7/\x.H≠2)->SO N U Y Z M X k p w x ({w with i:=L,C:=if x.l.g<=3/\V.g=4 then w.C++ [(V.F,(k:Int)+1,V.w)]else w.C},y):=λy f1 f2 f3 f4 f5 f6 f7 f8 f9=>by
   refine⟨rfl,rfl,d,S,f1,?_,?_,λz=>?_,f5,f8,?_,λI' T G=>?_⟩
   .simp_all
   .grind
   .simp_all
   .grind
   .have G:=G;rw[f2]at G|-
    grind [Wwv]
  unfold cX;rw[Wa (show¬V.g=8 by omega)];rcases C with⟨a,b⟩|⟨a,b⟩
  .rw[Wa (show¬V.g=6 by omega)];have c:stl {x with l:=V}=true:=by grind [WP]
   exact mk _ c (by unfold Wn;rw[Wb c,Wb d]) rfl rfl rfl rfl rfl rfl (.inl ⟨d,Ψ,l.1,l.2.1,l.2.2⟩)
  .rw[Wb (show V.g=6 from a)];have c:stl {x with ED:=V.F,l:={},g:=if x.H=2 then 6 else 7}=true:=by
    rw[WP];simp only;split<;>omega
   refine mk _ c (by unfold Wn;rw[Wb c,Wa (by simp only;split<;>omega)]) rfl rfl rfl rfl rfl rfl (.inr ?_);simp only;split<;>omega
 have aG:x.l.g=3->x.l.steps=x.l.o.length:=λz=>by unfold Cm.steps;rw[Wa Ω,Wb z]
 by_cases o:x.l.g=1
 .left;unfold Wv;rw[Wb o];split
  .refine F _ _ ?_ ?_ λz=>?_
   .unfold Wz ei;split<;>exact⟨rfl,rfl,rfl⟩
   .grind [Wz,ei,bm]
   grind [Wz,ei,bm]
  .refine f _ _ ?_ (ml _ _);unfold cw;split<;>exact⟨rfl,rfl,rfl⟩
 by_cases u:x.l.g=2
 .have et:tick w.i=((w.i.1+1,w.i.2),w.i.1+1):=by unfold tick;rw[Wb qa4]
  unfold Wv;simp only;rw[Wa o,Wb u,et];simp only;rw[Wa Ω];have H:∀V:Cm,V=ei {x.l with F:=w.i.1+1} 3->(V.u=x.l.u/\V.o=x.l.o/\V.w=x.l.w)/\V.F=w.i.1+1/\V.pos=0/\(x.l.o.length=0/\x.l.w.length=0/\V.g=6\/x.l.o.length=0/\x.l.w.length≠0/\V.g=4\/x.l.o.length≠0/\V.g=3):=λV e=>by
   subst e;refine⟨⟨rfl,rfl,rfl⟩,rfl,rfl,?_⟩
   grind [ei,bm]
  generalize ei {x.l with F:=w.i.1+1} 3=V at*;obtain⟨A,B,d3,t⟩:=H V rfl;have mB:x.l.o.length=0->∀r∈x.o,M (V.F-1) r.1 r.2:=λep r bj=>by
   simp_all
  rcases t with⟨qa7,qa3,m⟩|⟨qa7,qa3,m⟩|⟨qa7,m⟩
  .grind
  .grind
  .exact .inl (F _ V A (.inr (.inr m)) λ_=>⟨⟨Ω,λj J hp=>Ω⟩,.inr ⟨B,rfl⟩⟩)
 by_cases s:x.l.g=3
 .obtain⟨qa0,qa1⟩:=h.ck d s;unfold Wv;simp only;rw[Wa o,Wa u,Wb s];split
  .left;refine f _ _ ?_ (ml _ _);unfold cw;split<;>exact⟨rfl,rfl,rfl⟩
  .have gV:∀(j:Nat) (J:j<x.l.o.length),(j:Int)<x.l.pos+1->∀v,(x.l.o[j],v)∈x.o->M (x.l.F-1) x.l.o[j] v:=λj J qD v hv=>by
    grind [ac,Wk]
   have H:∀V:Cm,V=Wz x.l 4->(V.u=x.l.u/\V.o=x.l.o/\V.w=x.l.w)/\V.F=x.l.F/\(x.l.pos+1=x.l.steps/\(x.l.w.length=0/\V.g=6\/x.l.w.length≠0/\V.g=4)\/V.g=3/\V.pos=x.l.pos+1):=λV e=>by
    subst e;unfold Wz ei bm;split
    .grind
    simp_all
   generalize Wz x.l 4=V at*;obtain⟨A,B,t⟩:=H V rfl;rcases t with⟨cG,t⟩|⟨m,a4⟩
   .grind [cN,eY]
   .left;exact F _ V A (.inr (.inr m)) λ_=>⟨⟨Ω,Ψ⟩,.inl ⟨s,B⟩⟩
 .left;have qa6:x.l.g=7:=Ω
  unfold Wv;simp only;rw[Wa o,Wa u,Wa s,Wa Ω,Wa Ω,Wb qa6];refine f _ _ ?_ (ml _ _);unfold cw;split<;>exact⟨rfl,rfl,rfl⟩
end
end
section
section
variable{R:Type}{N kk:Nat}{j:Ka5 R}{u:Ka4 R}
 {M I:V3} {Kc:Int->Int->Prop} {hr:List Rw} {g:Option GE} {k:Nat} {p:Pg} {w:Wo} {x y:Rt} {q:Wo×Rt} {n:Int} {i:Nat} {o:Opn} {m:Mm} {c:Cm}
theorem WxC(Y:1048576<N)(A:POk p)(cL:∀c∈p.2,ff c=true)(h:RA N kk j u M I Kc hr w.a w.D g k p x)(E:stl x=false->hr= [])(l:ROk p n x)(s:GOk w)(hX:RX x)(hb:LB w k x)(zN:x.g=5->x.l.g≠6/\x.l.g≠8)(bE:w.i.1<1000000)(h0:0<=w.i.1)(gF:x.u<=w.i.1)(hM:∀qa2∈x.o,M x.u qa2.1 qa2.2)(T:x.g=2->∃Z,FB (M x.u) Z p.2 x.n)(hk:stl x=false->SK Kc w k x)(hH:∀e∈w.a,∃qa0:Nat,e.1=(qa0:Int)+1)
  (mI:x.g=5->x.l.g=3->¬(((Wy w.i (ac x.l.o x.l.pos 0)).2.2≠0/\(Wy w.i (ac x.l.o x.l.pos 0)).2.2≠x.l.J)\/(Wy w.i (ac x.l.o x.l.pos 0)).2.1>x.l.u)->∀v,(ac x.l.o x.l.pos 0,v)∈x.o->M (x.l.F-1) (ac x.l.o x.l.pos 0) v):NO N kk j u M I Kc hr g k p w x (WS w x k p)\/SO N kk j u M Kc k p w x (WS w x k p):=by
 have bN:=l.g;unfold WS;by_cases F:x.U=true/\1<=x.g/\x.g<=4
 .rw[Wb F];have r:=gw F.2.2;exact .inl (pC rfl rfl rfl r qm.1 rfl (Ha h r) (.inl qm.2.1) λz=>by(change (6:Int)=5 at z;omega))
 rw[Wa F];by_cases G:x.g=0
 .rw[Wb G];have r:stl x=false:=gw Ω;have P:=h.z0 (.inl G);have same:∀v:Wo,v.a=w.a->v.D=w.D->v.C=w.C->NO N kk j u M I Kc hr g k p w x (v,x):=λv a b c=>pC a b c r r rfl h (.inl (low Ω).1) λz=>Ω
  left;unfold gH;split
  .exact same _ rfl rfl rfl
  split
  .exact same _ rfl rfl rfl
  split
  .exact same _ rfl rfl rfl
  .exact pC rfl rfl rfl r (gw (by show(1:Int)<=4;omega)) P.symm (WyR (h.g0 Ω) λi ⟨e,e1,e2,_⟩=>(hb.hd e e1 e2).1 G) (.inl (low (by show(1:Int)<=4;omega)).1) λz=>by(change (1:Int)=5 at z;omega)
 rw[Wa G];by_cases H:x.g=1
 .rw[Wb H];have r:stl x=false:=gw Ω;have E:=E r;subst E;have t:x.U=false:=by
   cases f:x.U
   .rfl
   .exact Wh ⟨f,Ω,Ω⟩ F
  obtain⟨s1,s2,s3,s4⟩:=WBS (k:=k) (w:=w) A H l s h.hu hH;exact .inl ⟨WB5 Y A h H l s t hM (hk r),s1,.inl s2,λz=>Ω,λz C=>Wh C (s3 z),s4,λz=>Ω⟩
 rw[Wa H];by_cases J:x.g=2
 .rw[Wb J];have r:stl x=false:=gw Ω;obtain⟨Z,T⟩:=T J;have o:=Wz8 Y A cL h J l T;have f:stl (ch x)=false/\(ch x).y=x.y/\ow (ch x)=none/\((ch x).g=5->(ch x).l.g≠3):=by
   unfold ch;split
   .exact⟨qm.1,rfl,qm.2⟩
   split
   .exact⟨gw (by show(1:Int)<=4;omega),rfl,low (by show(1:Int)<=4;omega)⟩
   .exact⟨r,rfl,low Ω⟩
  exact .inl (pC rfl rfl rfl r f.1 f.2.1 o (.inl f.2.2.1) λz C=>Wh C (f.2.2.2 z))
 rw[Wa J];by_cases K:x.g=3
 .rw[Wb K];have r:stl x=false:=gw Ω;have o:=WuH A h s.D l K;have Q:=l.Ev Ω;have hz:=Q.back (.inl K);left;revert o;unfold fK;split
  .rename_i ab;intro o;have D:x.y≠ []:=λz=>by
    rw[z]at ab;have:=(Q.upd _ (Hi Q A hz).2.2).2.2.2;simp at ab;omega
   exact⟨o,RH s l h.hu D (xV r),.inl (low (y:=(ez w x).2) (by show x.g<=4;omega)).1,λ_=>rfl,λz=>by(change x.g=5 at z;omega),rfl,λz=>Ω⟩
  .intro o;exact pC rfl rfl rfl r (gw (by show(4:Int)<=4;omega)) rfl o (.inl (low (by show(4:Int)<=4;omega)).1) λz=>by(change (4:Int)=5 at z;omega)
 rw[Wa K];by_cases S:x.g=4
 .rw[Wb S];have r:stl x=false:=gw Ω;have o:=Wv8 (w:=w) A h l S;have f:stl (W6 w x)=false/\(W6 w x).y=x.y/\ow (W6 w x)=none/\((W6 w x).g=5->(W6 w x).l.g≠3):=by
   unfold W6;split
   .simp only;split
    .exact⟨qm.1,rfl,qm.2⟩
    .exact⟨gw (by show x.g<=4;omega),rfl,low (by show x.g<=4;omega)⟩
   .exact⟨gw (by show(1:Int)<=4;omega),rfl,low (by show(1:Int)<=4;omega)⟩
  exact .inl (pC rfl rfl rfl r f.1 f.2.1 o (.inl f.2.2.1) λz C=>Wh C (f.2.2.2 z))
 rw[Wa S];by_cases m:x.g=5
 .rw[Wb m];have V:=l.R m;cases t:x.U with
  |false=>exact WtK h E m t V (zN m) bE h0 gF hk s.a (mI m)
  |true=>
   left;have tG:x.l.g<=3:=by
    rcases hX.doom t with e|e
    .omega
    .exact e.2
   have r:stl x=false:=by
    cases z:stl x
    .rfl
    .rw[WP]at z;omega
   have mO:=V.g;have zJ:(WY x.l).g=7\/(WY x.l).g=8:=by
    unfold WY;split
    .exact ml _ _
    .rw[Wb Ω];exact ml _ _
   have D0:(WY x.l).u=x.l.u/\(WY x.l).o=x.l.o/\(WY x.l).w=x.l.w:=by
    unfold WY cw
    repeat' split
    all_goals exact⟨rfl,rfl,rfl⟩
   unfold W7;rw[Wb t];by_cases W:(WY x.l).g=8
   .rw[Wb W];exact pC rfl rfl rfl r qm.1 rfl (Ha h r) (.inl qm.2.1) λz=>by(change (6:Int)=5 at z;omega)
   .rw[Wa W];have d:=Ow (x:=x) (c:=WY x.l) (b:=false) m Ω;exact pC rfl rfl rfl r d rfl (QY h m r D0 Ω λz=>Ω) (.inl (u4 d (.inr (by simp only;omega)))) λz=>by simp only;omega
 rw[Wa m];have np:stl x=true\/stl x=false:=by cases stl x<;>simp
 have oun:stl x=false->∀y:Rt,y.g≠5->stl y=false->ow y=none:=λ_ y a b=>u4 b (.inl a);by_cases L:x.g=6
 .rw[Wb L];left;have tN:=h.fa.2.2.2 L;split
  .rename_i ab;have D:x.y≠ []:=λz=>by rw[z]at ab;simp at ab
   have t:dn x=false:=by unfold dn;simp[tN]
   have U:stl (ez w x).2=stl x:=rfl;refine⟨QF h s.D l (.inr L) D,RH s l h.hu D t,?_,λ_=>rfl,λz=>by(change x.g=5 at z;omega),rfl,λz=>Ω⟩;rcases np with z|z
   .exact .inr (.inl ⟨Og z (U.trans z) rfl rfl,.inr z⟩)
   .exact .inl (u4 (U.trans z) (.inl (by show x.g≠5;omega)))
  .rename_i ab;have P:x.y= []:=eY Ω;by_cases q:x.H=0
   .have r:stl x=false:=by
     cases z:stl x
     .rfl
     .rw[WP]at z;omega
    have d:stl {x with g:=7}=false:=by
     cases z:stl {x with g:=7}
     .rfl
     .rw[WP]at z;simp only at z;omega
    exact pC rfl rfl rfl r d rfl (RA.EE (h.gn r) (.inr (.inr rfl)) q (λ_=>P) h.hu) (.inl (u4 d (.inl (by show(7:Int)≠5;omega)))) λz=>by(change (7:Int)=5 at z;omega)
   .have r:stl x=true:=by rw[WP];omega
    have d:stl {x with g:=7}=true:=by rw[WP];exact .inr (.inr ⟨.inr rfl,q⟩)
    have B:Wn {x with g:=7}=Wn x:=by
     unfold Wn;rw[Wb d,Wb r,Wa (by show¬(7:Int)=5;omega),Wa m]
    exact LN rfl rfl rfl r d rfl rfl B rfl (LF h r d B rfl rfl rfl rfl rfl (λ_=>P) h.hu ⟨q,λz=>by(change (7:Int)=6 at z;omega)⟩ ⟨by show(5:Int)<=7;omega,λz=>by(change (7:Int)=5 at z;omega)⟩ λ_=>Ω)
 rw[Wa L];by_cases O:x.g=7
 .rw[Wb O];left;have X:dn x=true\/x.y= []:=by
   by_cases q:x.H=1
   .left;unfold dn;rw[WP.2 (.inr (.inr ⟨.inr O,Ω⟩))];simp[q]
   .exact .inr (h.z0 (.inr (.inr ⟨O,q⟩)))
  split
  .rename_i q;have r:stl x=false:=by
    cases z:stl x
    .rfl
    .rw[WP]at z;omega
   exact⟨RA.EE (h.gn r) (.inl rfl) rfl (λ_=>rfl) (λqa1 R=>by cases R),WuR rfl rfl X rfl,.inl (low (by show(0:Int)<=4;omega)).1,λz=>Ω,λz=>by(change (0:Int)=5 at z;omega),rfl,λz=>Ω⟩
  .rename_i q;have r:stl x=true:=by rw[WP];omega
   have d:stl (gi {w with a:=W1 w.a ((k:Int)+1)} x k).2=true:=by rw[WP];exact .inl rfl
   have B:Wn (gi {w with a:=W1 w.a ((k:Int)+1)} x k).2=Wn x:=by
    unfold Wn;rw[Wb d,Wb r,Wa (by show¬(8:Int)=5;omega),Wa m];rfl
   exact⟨LF h r d B rfl rfl rfl rfl rfl (λ_=>rfl) (λqa1 R=>by cases R) ⟨q,λz=>by(change (8:Int)=6 at z;omega)⟩ ⟨by show(5:Int)<=8;omega,λz=>by(change (8:Int)=5 at z;omega)⟩ (λ_=>Ω),WuR rfl rfl X rfl,.inr (.inl ⟨Og r d B rfl,.inr r⟩),λz=>Ω,λz=>by(change (8:Int)=5 at z;omega),rfl,λz=>Ω⟩
 rw[Wa O];have r:stl x=true:=by rw[WP];omega
 exact .inl (LN rfl rfl rfl r r rfl rfl rfl rfl h)
end
end
section
def dA:Nat->(Nat->Int)->Int
 |0,_=>0
 |n+1,f=>dA n f+f n
theorem Gt{f a}:∀{n},(∀k,k<n->a k=f k)->dA n a=dA n f
 |0,_=>rfl
 |n+1,h=>by rw[dA,dA,Gt λk b=>h k Ω,h n Ω]
theorem J8{f a}{k}:∀{n},k<n->(∀j,j≠k->a j=f j)->dA n a=dA n f-f k+a k
 |n+1,b,h=>by
  rw[dA,dA];by_cases e:k=n
  .subst e;rw[Gt λj c=>h j Ω];omega
  .rw[J8 Ω h,h n λz=>e z.symm];omega
theorem ZR{f}{k}:∀{n},k<n->(∀j,j<n->j≠k->f j=0)->dA n f=f k
 |n+1,g,h=>by
  have z0:∀m,m<=n->(∀j,j<m->f j=0)->dA m f=0:=λm=>by
   induction m with
   |zero=>intros;rfl
   |succ m ih=>intro a b;rw[dA,ih Ω λj c=>b j Ω,b m Ω];rfl
  rw[dA];by_cases e:k=n
  .subst e;rw[z0 k (Xj _) λj c=>h j Ω Ω];omega
  .rw[ZR Ω λj c d=>h j Ω d,h n Ω λz=>e z.symm];omega
def KVr(G:Nat->Option GE)(b v i x:Int):Prop:=(x=b/\∀k g,G k=some g->g.st<=v->g.f i=none)\/(∃k g,G k=some g/\g.st<=v/\g.f i=some x/\∀c a,G c=some a->a.st<=v->a.f i≠none->a.st<=g.st)
def gd(G:Nat->Option GE)(v:Int)(k:Nat):Int:=match G k with
 |some g=>if g.st<=v then g.d else 0
 |none=>0
def VA(n:Nat)(a:Tg)(G:Nat->Option GE)(v i x:Int):Prop:=if i=8 then x=(a.2.2+dA n (gd G v))%65536 else KVr G (a.2.1.getD i.toNat 0) v i x
section
variable{n:Nat}{b:Tg}{G a:Nat->Option GE}{v i x c:Int}{k:Nat}{e:GE}
theorem Hx(r:∀j k g f,G j=some g->G k=some f->g.st=f.st->j=k)(h:VA n b G v i x)(m:VA n b G v i c):x=c:=by
 unfold VA at h m;split at h
 .rename_i h8;rw[Wb h8]at m;rw[h,m]
 .rename_i h8;rw[Wa h8]at m;rcases h with⟨a,t⟩|⟨k,g,a,t,u,d⟩<;>rcases m with⟨e,o⟩|⟨p,f,e,o,l,q⟩
  .rw[a,e]
  .rw[t p f e o]at l;cases l
  .rw[o k g a t]at u;cases u
  .have e1:=d p f e o (by rw[l];simp);have s:=q k g a t (by rw[u];simp);have:=r k p g f a e Ω;subst this;rw[a]at e;cases e;rw[u]at l;cases l;rfl
theorem Wz3(F:i≠8->∀k x,(∃g,G k=some g/\g.st<=v/\g.f i=some x/\True)↔(∃g,a k=some g/\g.st<=v/\g.f i=some x/\True))(r:i≠8->∀k g j,G k=some g->a k=some j->g.f i≠none->j.f i≠none->g.st=j.st)(H:i=8->∀k,k<n->gd G v k=gd a v k):VA n b G v i x->VA n b a v i x:=by
 intro h;unfold VA at h|-;split
 .rename_i e;rw[Wb e]at h;rw[h,Gt λk J=>H e k J]
 .rename_i e;rw[Wa e]at h;have p:=F e;rcases h with⟨f,N⟩|⟨k,g,f,N,c,d⟩
  .refine .inl ⟨f,λk g I M=>?_⟩;cases o:g.f i with
   |none=>rfl
   |some z=>
    obtain⟨j,E,m,l,_⟩:=(p k z).2 ⟨g,I,M,o,trivial⟩;rw[N k j E m]at l;cases l
  .obtain⟨m,s,B,t,_⟩:=(p k x).1 ⟨g,f,N,c,trivial⟩;refine .inr ⟨k,m,s,B,t,λq j u C w=>?_⟩;cases o:j.f i with
   |none=>exact Wh o w
   |some z=>
    obtain⟨l,y,D,A,_⟩:=(p q z).2 ⟨j,u,C,o,trivial⟩;have:=d q l y D (by rw[A];simp);have K:=r e k g m f s (by rw[c];simp) (by rw[t];simp);have L:=r e q l j y u (by rw[A];simp) w;omega
theorem WCw{c}(s:v<=c)(h:∀k g,G k=some g->v<g.st->g.st<=c->(i≠8->g.f i=none)/\(i=8->g.d=0)):VA n b G c i x↔VA n b G v i x:=by
 unfold VA;by_cases e:i=8
 .rw[Wb e,Wb e,Gt (f:=gd G v) (a:=gd G c) λk r=>?_];unfold gd;cases hg:G k with
  |none=>rfl
  |some g=>
   simp only;by_cases a:g.st<=v
   .rw[Wb a,Wb Ω]
   .rw[Wa a];split
    .exact(h k g hg Ω Ω).2 e
    .rfl
 .rw[Wa e,Wa e];unfold KVr;have o:∀k g,G k=some g->g.st<=c->g.f i≠none->g.st<=v:=λk g a t u=>by
   by_cases d:g.st<=v
   .exact d
   .exact Wh ((h k g a Ω t).1 e) u
  constructor
  .rintro(⟨a,t⟩|⟨k,g,a,t,u,d⟩)
   .exact .inl ⟨a,λk g u d=>t k g u Ω⟩
   .exact .inr ⟨k,g,a,o k g a t (by rw[u];simp),u,λm l j p=>d m l j Ω⟩
  .rintro(⟨a,t⟩|⟨k,g,a,t,u,d⟩)
   .refine .inl ⟨a,λk g u d=>?_⟩;cases hf:g.f i with
    |none=>rfl
    |some z=>
     have:=t k g u (o k g u d (by rw[hf];simp));rw[this]at hf;cases hf
   .exact .inr ⟨k,g,a,Ω,u,λm l j p q=>d m l j (o m l j p q) q⟩
def fB(G:Nat->Option GE)(k:Nat)(o:Option GE):Nat->Option GE:=λj=>if j=k then o else G j
theorem PJ(h:G k=none):fB G k none=G:=by
 funext j;unfold fB;split
 .rename_i e;rw[e,h]
 .rfl
theorem WCK(h:G k=none)(u:v<e.st\/((i≠8->e.f i=none)/\(i=8->e.d=0))):VA n b (fB G k (some e)) v i x↔VA n b G v i x:=by
 have t:fB G k (some e) k=some e:=by unfold fB;rw[Wb rfl]
 have o:∀j,j≠k->fB G k (some e) j=G j:=λj z=>by unfold fB;rw[Wa z]
 have p:i≠8->∀j x,(∃g,G j=some g/\g.st<=v/\g.f i=some x/\True)↔(∃g,fB G k (some e) j=some g/\g.st<=v/\g.f i=some x/\True):=λl j x=>by
  by_cases z:j=k
  .subst z;rw[t,h];constructor
   .rintro⟨g,a,_⟩;cases a
   .rintro⟨g,a,f,c,_⟩;cases a;rcases u with q|q
    .omega
    .rw[q.1 l]at c;cases c
  .rw[o j z]
 have r:i≠8->∀j g m,G j=some g->fB G k (some e) j=some m->g.f i≠none->m.f i≠none->g.st=m.st:=λl j g m a f _ _=>by
  by_cases z:j=k
  .subst z;rw[h]at a;cases a
  .rw[o j z,a]at f;cases f;rfl
 have s:i=8->∀j,j<n->gd G v j=gd (fB G k (some e)) v j:=λl j _=>by
  unfold gd;by_cases z:j=k
  .subst z;rw[t,h];simp only;split
   .rcases u with q|q
    .omega
    .exact(q.2 l).symm
   .rfl
  .rw[o j z]
 exact⟨Wz3 (λl j x=>(p l j x).symm) (λl j g m a f c d=>(r l j m g f a d c).symm) (λl j o=>(s l j o).symm),Wz3 p r s⟩
end
def tch(l:List Hd)(k:Nat)(i:Int):Prop:=(i=8->hld l k 8)/\(i≠8->xld l k i)
def RI(a:Tg)(G:Nat->Option GE)(w:Wo)(v i x:Int):Prop:=VA w.c.length a G v i x/\v<=w.i.1/\∀(k:Nat) (h:k<w.c.length),w.c[k].g=5->w.c[k].l.g=3->w.c[k].l.F<=v->¬tch w.a k i
def ae(k:Nat)(H:List Wr):List Rw:=match H.find? (λh=>decide (h.2.1=(k:Int)+1))with
 |some h=>h.2.2
 |none=>[]
theorem WwU{k:Nat}{H}(h:∀e∈H,e.2.1≠(k:Int)+1):ae k H= []:=by
 unfold ae;rw[Sr.2 λe a=>by simpa using h e a]
theorem Wyz{k:Nat}{H}{e}(a:e.2.1≠(k:Int)+1):ae k (H++ [e])=ae k H:=by
 unfold ae;rw[Xhu];cases H.find? (λh=>decide (h.2.1=(k:Int)+1))with
 |some h=>rfl
 |none=>simp[a]
theorem Wzj{k:Nat}{H}{e}(h:∀e∈H,e.2.1≠(k:Int)+1)(b:e.2.1=(k:Int)+1):ae k (H++ [e])=e.2.2:=by
 unfold ae;rw[Xhu,Sr.2 λe a=>by simpa using h e a];simp[b]
end
section
section
variable{R:Type}{N f:Nat}{c:Ka5 R}{d:Ka4 R}
 {b:Int->Int} {s:Sc} {w g:Wo} {G e:Nat->Option GE} {k:Nat} {x y:Rt} {q:Wo×Rt} {n:Int} {p:Pg} {a:Ac}
structure GA(N f:Nat)(c:Ka5 R)(d:Ka4 R)(b:Int->Int)(s:Sc)(w:Wo)(G:Nat->Option GE):Prop where
 ra:∀(k:Nat) (h:k<w.c.length),RA N f c d (RC b w.i w.C (aU w.c)) (RI s.1 G w) (VA w.c.length s.1 G 2000000) (ae k w.C) w.a w.D (G k) k (s.2.1.getD k pg0) w.c[k]
 out:∀k,w.c.length<=k->G k=none
 uq:∀(j k:Nat) (hj:j<w.c.length) (hk:k<w.c.length),j≠k->∀a,ow w.c[j]=some a->ow w.c[k]≠some a
 le:∀(k:Nat) (hk:k<w.c.length) a,ow w.c[k]=some a->a<=w.i.1
 X:∀i,0<=i->i<=7->(∀j,¬xld w.a j i)->VA w.c.length s.1 G 2000000 i (WE w.D.1 i)
 held:∀i,0<=i->i<=7->∀(k:Nat) (hk:k<w.c.length),xld w.a k i->VA w.c.length s.1 G 2000000 i (ov w.c[k] i (WE w.D.1 i))
 W:w.D.2=(s.1.2.2+dA w.c.length (gd G 2000000)+dA w.c.length (λk=>oc (w.c.getD k rt0)))%65536
 jk:∀(k:Nat) (hk:k<w.c.length),w.c[k].g=5->w.c[k].l.g=3->∀r g,G r=some g->w.c[k].l.F<g.st->(∀i,0<=i->i<=7->hld w.a k i->g.f i=none)/\(xld w.a k 8->g.d=0)
 hs:∀e∈w.C,∀(k:Nat) (hk:k<w.c.length),e.2.1=(k:Int)+1->e.1=Wn w.c[k]
 rg:∀k g i z,G k=some g->g.f i=some z->0<=z/\z<=65536
theorem GA.ent(h:GA N f c d b s w G){r}{g}(a:G r=some g):∃e:r<w.c.length,stl w.c[r]=true/\w.c[r].H=1/\ow w.c[r]=some g.st/\g.st<=w.i.1:=by
 have e:r<w.c.length:=Classical.byContradiction λz=>by
  rw[h.out r Ω]at a;cases a
 have j:=h.ra r e;have t:stl w.c[r]=true:=by
  cases z:stl w.c[r]
  .rw[j.gn z]at a;cases a
  .rfl
 have m:=(j.fin t).gst;have l:=m.1 (.inl (by rw[a];simp));have i:=m.2 g a;have o:ow w.c[r]=some g.st:=by
  unfold ow;rw[Wa (by rw[WP]at t;omega),t,Wb ⟨rfl,l.1⟩,i]
 exact⟨e,t,l.2,o,h.le r e _ o⟩
theorem GA.dis(h:GA N f c d b s w G):∀j k g a,G j=some g->G k=some a->g.st=a.st->j=k:=λj k g a l m e=>by
 obtain⟨o,_,_,r,_⟩:=h.ent l;obtain⟨t,_,_,i,_⟩:=h.ent m;refine Classical.byContradiction λz=>h.uq j k o t z _ r ?_;rw[i,e]
theorem GA.sk(h:GA N f c d b s w G)(B:∀F∈w.a,∃j:Nat,j<w.c.length/\F.1=(j:Int)+1)(hk)(e:stl w.c[k]=false):SK (VA w.c.length s.1 G 2000000) w k w.c[k]:=by
 refine⟨λi v C=>Hx h.dis,λi y z q=>h.X i y z λj ⟨F,a,m,E,n⟩=>q F a E n,λp D H=>?_⟩;unfold VA at H;rw[Wb rfl]at H;have x:∀j,j<w.c.length->j≠k->oc (w.c.getD j rt0)=0:=λj g A=>by
  rw[Wk g];unfold oc;split
  .rfl
  .refine WzV λu t o=>?_;obtain⟨F,a,m,E⟩:=((h.ra j g).hu u t).2 o;have:=p F a E;omega
 have l:=h.W;rw[ZR hk x,Wk hk]at l;have r:=(xW (xV e)).2;rw[l,H,r];omega
theorem GA.oth(E:GA N f c d b s w G){j}(hj)(a:j≠k){M}(n:∀v A z,RC b w.i w.C (aU w.c) v A z->M v A z){I}(l:∀v A z,RI s.1 G w v A z->I v A z){h}(m:∀i,0<=i->i<=7->hld w.a j i->∀v,h i v->VA w.c.length s.1 G 2000000 i v)(B:xld w.a j 8->∀v,h 8 v->VA w.c.length s.1 G 2000000 8 v){e}(x:e=ae j w.C){g}(o:g=G j)(D:∀j,j≠k->∀i,(hld q.1.a j i↔hld w.a j i)/\(xld q.1.a j i↔xld w.a j i))(t:∀i,0<=i->i<=7->WE q.1.D.1 i=WE w.D.1 i\/xld q.1.a k i)(C:HOk q.1.a):RA N f c d M I h e q.1.a q.1.D g j (s.2.1.getD j pg0) w.c[j]:=by
 subst x o;refine(E.ra j hj).wk n l m B (λi=>(D j a i).1) (λi=>(D j a i).2) λi p r z=>(t i p r).resolve_right λu=>?_;exact a (rY C ((D j a i).1.2 z) u)
theorem qi{l:List Rt}{k j}{y}(hj):(l.set k y)[j]=if k=j then y else l[j]'(by rw[Xx]at hj;exact hj):=fE hj
theorem GA.same(h:GA N f c d b s w G)(hk)(D:cmX y=cmX w.c[k])(A:ow y=ow w.c[k])(I:∀i v,ov y i v=ov w.c[k] i v)(E:oc y=oc w.c[k])(q:y.g=w.c[k].g/\y.l=w.c[k].l)(C:Wn y=Wn w.c[k])(Q:RA N f c d (RC b w.i w.C (aU w.c)) (RI s.1 G w) (VA w.c.length s.1 G 2000000) (ae k w.C) w.a w.D (G k) k (s.2.1.getD k pg0) y){nw}:GA N f c d b s {w with j:=nw,c:=w.c.set k y} G:=by
 have m:(w.c.set k y).length=w.c.length:=Xx;have O:aU (w.c.set k y)=aU w.c:=by
  rw[KY hk,D,<-DB hk];funext i;unfold c7;split
  .rename_i e;rw[e]
  .rfl
 have p:∀(P:Rt->Prop),(P w.c[k]->P y)->∀(j:Nat) (l:j<(w.c.set k y).length),(∀n:j<w.c.length,P w.c[j])->P (w.c.set k y)[j]:=λP J j l x=>by
  rw[qi l];split
  .rename_i e;subst e;exact J (x hk)
  .exact x _
 have o:∀v T z,RI s.1 G w v T z->RI s.1 G {w with j:=nw,c:=w.c.set k y} v T z:=λv T z ⟨a,B,S⟩=>by
  refine⟨by show VA (w.c.set k y).length _ _ _ _ _;rw[m];exact a,B,λj l=>?_⟩;exact p (λt=>t.g=5->t.l.g=3->t.l.F<=v->¬tch w.a j T) (λz=>by rw[q.1,q.2];exact z) j l λn=>S j n
 refine⟨λj l=>?_,λj l=>h.out j (by rw[<-m];exact l),λi j H l M a=>?_,λj l a=>?_,?_,λi K L j l=>?_,?_,λj l=>?_,λe F j l R=>?_,h.rg⟩
 .show RA N f c d (RC b w.i w.C (aU (w.c.set k y))) _ (VA (w.c.set k y).length _ _ _) _ _ _ _ _ _ _;rw[O,m];have u:∀v T z,RC b w.i w.C (aU w.c) v T z->RC b w.i w.C (aU w.c) v T z:=λ_ _ _ z=>z;by_cases e:k=j
  .subst e;have:(w.c.set k y)[k]'l=y:=by rw[qi l,Wb rfl]
   show RA N f c d _ _ _ _ _ _ _ _ _ ((w.c.set k y)[k]'l);rw[this];exact Q.wk u o (λ_ _ _ _ _ z=>z) (λ_ _ z=>z) (λ_=>Iff.rfl) (λ_=>Iff.rfl) λ_ _ _ _=>rfl
  .have:(w.c.set k y)[j]'l=w.c[j]'(by rw[<-m];exact l):=by rw[qi l,Wa e]
   show RA N f c d _ _ _ _ _ _ _ _ _ ((w.c.set k y)[j]'l);rw[this];exact(h.ra j _).wk u o (λ_ _ _ _ _ z=>z) (λ_ _ z=>z) (λ_=>Iff.rfl) (λ_=>Iff.rfl) λ_ _ _ _=>rfl
 .have e:∀(j:Nat) (l:j<(w.c.set k y).length),ow (w.c.set k y)[j]=ow (w.c[j]'(by rw[<-m];exact l)):=λj l=>by
   rw[qi l];split
   .rename_i z;subst z;exact A
   .rfl
  show ow (w.c.set k y)[i]=_->ow (w.c.set k y)[j]≠_;rw[e i H,e j l];exact h.uq i j _ _ M a
 .exact p (λt=>ow t=some a->a<=w.i.1) (λz=>by rw[A];exact z) j l λn=>h.le j n a
 .show∀i,0<=i->i<=7->(∀j,¬xld w.a j i)->VA (w.c.set k y).length _ _ _ _ _;rw[m];exact h.X
 .show xld w.a j i->VA (w.c.set k y).length s.1 G 2000000 i (ov (w.c.set k y)[j] i (WE w.D.1 i));rw[m];exact p (λt=>xld w.a j i->VA w.c.length s.1 G 2000000 i (ov t i (WE w.D.1 i))) (λz=>by rw[I];exact z) j l λn=>h.held i K L j n
 .show w.D.2=(_+dA (w.c.set k y).length _+dA (w.c.set k y).length λj=>oc ((w.c.set k y).getD j rt0))%65536;have e:dA w.c.length (λj=>oc ((w.c.set k y).getD j rt0))=dA w.c.length λk=>oc (w.c.getD k rt0):=Gt λj l=>by
   rw[Wk (Ω:j<(w.c.set k y).length),Wk l,qi];split
   .rename_i e;subst e;exact E
   .rfl
  rw[m,e];exact h.W
 .exact p (λt=>t.g=5->t.l.g=3->∀r g,G r=some g->t.l.F<g.st->(∀i,0<=i->i<=7->hld w.a j i->g.f i=none)/\(xld w.a j 8->g.d=0)) (λz=>by rw[q.1,q.2];exact z) j l λn=>h.jk j n
 .have:=h.hs e F j (by rw[<-m];exact l) R;show e.1=Wn (w.c.set k y)[j];rw[qi l];split
  .rename_i z;subst z;rw[C];exact this
  .exact this
end
end
section
section
variable{R:Type}{N W:Nat}{u:Ka5 R}{L:Ka4 R}
 {b:Int->Int} {s:Sc} {w e:Wo} {G d:Nat->Option GE} {k:Nat} {x y:Rt} {q:Wo×Rt} {n:Int} {p:Pg} {a:Ac} {M I:V3} {f:Int->Int->Prop} {c:List Rw} {g:Option GE}
theorem WBf{l a}{j}{i}(h:∀i,(hld a j i↔hld l j i)/\(xld a j i↔xld l j i)):tch a j i↔tch l j i:=by
 unfold tch;rw[(h 8).1,(h i).2]
theorem Wui(j:NO N W u L M I f c g k p w x q)(d:stl x=true->stl q.2=true)(i:q.2.g=5)(h:q.2.l.g=3):(x.g=5/\x.l.g=3/\x.l.F=q.2.l.F)\/q.2.l.F=w.i.1+1:=by
 have m:stl q.2=false:=by
  cases z:stl q.2
  .rfl
  .rw[WP]at z;omega
 have b:ow q.2=some q.2.l.F:=by unfold ow;rw[Wb ⟨i,h⟩]
 rcases j.ow with e|⟨e,o⟩|⟨e,_⟩
 .rw[b]at e;cases e
 .rcases o with⟨a,l⟩|a
  .have hx:ow x=some x.l.F:=by unfold ow;rw[Wb ⟨a,l⟩]
   rw[b,hx]at e;injection e with e;exact .inl ⟨a,l,e.symm⟩
  .rw[d a]at m;cases m
 .rw[b]at e;injection e with e;exact .inr e
theorem TH(hk)(r:q.1.c=w.c)(y:w.i.1<=q.1.i.1)(m:stl w.c[k]=true->stl q.2=true)(C:NO N W u L M I f c g k p w w.c[k] q):∀v B z,RI s.1 G w v B z->RI s.1 G (Wo.put q k) v B z:=λv B z ⟨l,A,h⟩=>by
 have n:(w.c.set k q.2).length=w.c.length:=Xx;unfold RI Wo.put;simp only[r];refine⟨by rw[n];exact l,Ω,λj t b a d=>?_⟩;rw[qi t]at b a d;by_cases e:k=j
 .subst e;rw[Wb rfl]at b a d;rcases Wui C m b a with⟨i,o,x⟩|i
  .rw[C.hh (C.p5 b a)];exact h k hk i o Ω
  .omega
 .rw[Wa e]at b a d;rw[WBf (C.se.oth j λz=>e z.symm)];exact h j Ω b a d
theorem WzJ{l:List Rt}{k}{y}(hk):dA l.length (λj=>oc ((l.set k y).getD j rt0))=dA l.length (λj=>oc (l.getD j rt0)) -oc l[k]+oc y:=by
 have c:(l.set k y).length=l.length:=Xx;have a:(l.set k y).getD k rt0=y:=by rw[Wk (Ω:k<(l.set k y).length),qi,Wb rfl]
 rw[J8 (f:=λj=>oc (l.getD j rt0)) hk λj b=>by
  rw[Xs,Xs,ly (λz=>b z.symm)],a,Wk hk]
theorem WDh(h:GA N W u L b s w G)(hH:HOk w.a)(t:HOk q.1.a)(hk)(A:q.1.c=w.c)(hM:∀v c z,RC b w.i w.C (aU w.c) v c z->RC b q.1.i q.1.C (aU (w.c.set k q.2)) v c z)(X:w.i.1<=q.1.i.1)(P:stl w.c[k]=true->stl q.2=true)(gz:stl w.c[k]=true->Wn q.2=Wn w.c[k])(hW:∀e∈w.C,e.2.1=(k:Int)+1->stl w.c[k]=true)(hp:p=s.2.1.getD k pg0)(f:NO N W u L (RC b q.1.i q.1.C (aU (w.c.set k q.2))) (RI s.1 G (Wo.put q k)) (VA w.c.length s.1 G 2000000) (ae k w.C) (G k) k p w w.c[k] q):GA N W u L b s (Wo.put q k) G:=by
 have qa1:=TH (s:=s) (G:=G) hk A X P f;have I:(w.c.set k q.2).length=w.c.length:=Xx;have o:∀(j:Nat) (d:j<w.c.length),(w.c.set k q.2)[j]'(by rw[I];exact d)=if k=j then q.2 else w.c[j]:=λj d=>qi (by rw[I];exact d);have ca:=λi l m=>h.X i l m;subst hp;refine⟨?_,?_,?_,?_,?_,?_,?_,?_,?_,h.rg⟩
 all_goals(try unfold Wo.put);(try simp only[A,I])
 .intro j d;rw[f.C];rw[o j d];have qa0:=λv c z hz=>by
   have:=qa1 v c z hz;unfold Wo.put at this;rw[A]at this;exact this
  by_cases e:k=j
  .subst e;rw[Wb rfl];have:=f.ra;unfold Wo.put at this;rw[A,f.C]at this;exact this
  .rw[Wa e];have:=hM;rw[f.C]at this;exact h.oth (k:=k) Ω (λz=>e z.symm) this qa0 (λ_ _ _ _ _ z=>z) (λ_ _ z=>z) rfl rfl f.se.oth f.se.sh t
 .intro j d;exact h.out j d
 .intro i j M d iA a;rw[o i M,o j d];have y:∀(j:Nat) (d:j<w.c.length),j≠k->ow q.2=some a->ow w.c[j]≠some a:=λj d B n V=>by
   rcases f.ow with e|⟨e,_⟩|⟨e,_⟩
   .rw[n]at e;cases e
   .exact h.uq k j hk d (λz=>B z.symm) a (by rw[<-e];exact n) V
   .rw[n]at e;have:=h.le j d a V;injection e with e;omega
  by_cases J:k=i
  .subst J;rw[Wb rfl,Wa iA]
   exactλz=>y j Ω (λz=>iA z.symm) z
  .rw[Wa J];by_cases K:k=j
   .subst K;rw[Wb rfl]
    exactλz O=>y i Ω (λz=>J z.symm) O z
   .rw[Wa K];exact h.uq i j Ω Ω iA a
 .intro j d a;rw[o j d];split
  .rename_i e;subst e;intro n;rcases f.ow with e|⟨e,_⟩|⟨e,K⟩
   .rw[n]at e;cases e
   .have:=h.le k hk a (by rw[<-e];exact n);omega
   .rw[n]at e;injection e with e;omega
  .intro n;have:=h.le j Ω a n;omega
 .intro i l m bV;have hs:=(f.se.sh i l m).resolve_right (bV k);rw[hs];by_cases z:xld w.a k i
  .have:=h.held i l m k hk z;rw[f.se.k1 i l m (bV k) z]at this;exact this
  .refine h.X i l m λj d=>?_;by_cases e:j=k
   .subst e;exact z d
   .exact bV j (((f.se.oth j e i).2).2 d)
 .intro i l m j d x;rw[o j d];by_cases e:k=j
  .subst e;rw[Wb rfl];rcases f.se.k2 i l m x with⟨F,H⟩|⟨F,H⟩
   .rw[H];exact h.held i l m k hk F
   .rw[H];exact h.X i l m F
  .rw[Wa e];have B:j≠k:=λz=>e z.symm;have hs:=(f.se.sh i l m).resolve_right λO=>B (rY t x.h O);rw[hs];exact h.held i l m j Ω ((f.se.oth j B i).2.1 x)
 .rw[WzJ hk];have:=f.se.W (s.1.2.2+dA w.c.length (gd G 2000000)+(dA w.c.length (λj=>oc (w.c.getD j rt0)) -oc w.c[k])) (by have:=h.W;rw[this];congr 1;omega);rw[this];congr 1;omega
 .intro j d;rw[o j d];by_cases e:k=j
  .subst e;rw[Wb rfl];intro D C r g E Q;rcases Wui f P D C with⟨R,qa2,b3⟩|R
   .rw[f.hh (f.p5 D C)];exact h.jk k hk R qa2 r g E Ω
   .have:=(h.ent E).2.2.2.2;omega
  .rw[Wa e];intro D C r g E Q;obtain⟨Y,Z⟩:=h.jk j Ω D C r g E Q;have T:=f.se.oth j λz=>e z.symm;exact⟨λi l m M=>Y i l m ((T i).1.1 M),λx=>Z ((T 8).2.1 x)⟩
 .rw[f.C];intro e S j d U;have:=h.hs e S j d U;rw[o j d];split
  .rename_i z;subst z;rw[gz (hW e S U)];exact this
  .exact this
end
end
section
section
variable{R:Type}{N kk:Nat}{f:Ka5 R}{K1:Ka4 R}
 {b:Int->Int} {s:Sc} {w e:Wo} {G d:Nat->Option GE} {k:Nat} {x y:Rt} {q:Wo×Rt} {n:Int} {p:Pg} {a:Ac} {M I:V3} {h:Int->Int->Prop} {c:List Rw} {g:Option GE}
theorem WzS(h:HU w.a k x)(b:¬hld w.a k 8):dl x.y=0:=WzV λu c a=>b ((h u c).2 a)
theorem WC7(h:GA N kk f K1 b s w G)(O:HOk w.a)(hk)(Z:q.1.c=w.c)(hM:∀v c z,RC b w.i w.C (aU w.c) v c z->RC b q.1.i q.1.C (aU (w.c.set k q.2)) v c z)(bE:w.i.1<=q.1.i.1)(rn:q.1.i.1<=1000000)(hW:∀e∈w.C,e.2.1≠(k:Int)+1)(hp:p=s.2.1.getD k pg0)(l:SO N kk f K1 (RC b q.1.i q.1.C (aU (w.c.set k q.2))) (VA w.c.length s.1 G 2000000) k p w w.c[k] q):GA N kk f K1 b s (Wo.put q k) (fB G k (vi w.a w.D k w.c[k] (Wn q.2))):=by
 have U:(w.c.set k q.2).length=w.c.length:=Xx;have I:∀(j:Nat) (m:j<w.c.length),(w.c.set k q.2)[j]'(by rw[U];exact m)=if k=j then q.2 else w.c[j]:=λj m=>qi (by rw[U];exact m);have eT:=h.ra k hk;have D:=eT.gn l.sx;have wZ:=xV l.sx;obtain⟨ovx,Y⟩:=xW wZ;have K:(w.c[k].l.g=3/\ow w.c[k]=some (Wn q.2)/\Wn q.2<=w.i.1/\w.c[k].l.F=Wn q.2)\/(Wn q.2=w.i.1+1/\q.1.i.1=w.i.1+1):=by
  rcases l.ow with⟨a,c⟩|e
  .have Q:ow w.c[k]=some (Wn q.2):=by unfold ow;rw[Wb ⟨l.h5,a⟩,c]
   exact .inl ⟨a,Q,h.le k hk _ Q,c⟩
  .exact .inr e
 have D1:ow q.2=some (Wn q.2):=by
  unfold ow;rw[Wa (λz=>l.np z.1 z.2),Wb ⟨l.sy,l.u⟩]
 have F1:∀r g,G r=some g->Wn q.2<=g.st->(∀i,0<=i->i<=7->hld w.a k i->g.f i=none)/\(xld w.a k 8->g.d=0):=λr g t aO=>by
  obtain⟨r1,r2,r3,r4,r5⟩:=h.ent t;rcases K with⟨a,c,d,e⟩|⟨a,_⟩
  .have oH:k≠r:=λz=>Ψ
   have:=h.uq k r hk r1 oH _ c;rw[r4]at this;refine h.jk k hk l.h5 a r g t ?_<;>grind
  .omega
 generalize Q:vi w.a w.D k w.c[k] (Wn q.2)=o at*;have w4:o=none/\w.c[k].H≠1\/∃e,o=some e/\w.c[k].H=1/\e.st=Wn q.2/\(∀i,0<=i->i<=7->xld w.a k i->e.f i=some (WE w.D.1 i))/\(∀i,¬xld w.a k i->e.f i=none)/\e.d=dl w.c[k].y/\∀i z,e.f i=some z->0<=z/\z<=65536:=by
  unfold vi at Q;by_cases hf:w.c[k].H=1
  .right;rw[Wb hf]at Q;exact⟨_,Q.symm,hf,rfl,λi x A z=>Wb ⟨z,x,A⟩,λi z=>Wa λy=>z y.1,rfl,λi z F=>by
    simp only at F;split at F
    .injection F with F;rw[<-F];exact JZ _ _
    .cases F⟩
  simp_all
 have n:∀v i z,(v<Wn q.2\/((i≠8->¬xld w.a k i)/\(i=8->¬hld w.a k 8)))->(VA w.c.length s.1 (fB G k o) v i z↔VA w.c.length s.1 G v i z):=λv i z L=>by
  rcases w4 with⟨e,_⟩|⟨e,H,_,W,e3,X,S,_⟩
  .rw[e,PJ D]
  .rw[H];refine WCK D (L.imp (λz=>Ω) λ⟨z1,z2⟩=>⟨λh8=>X i (z1 h8),λh8=>?_⟩);rw[S];exact WzS eT.hu (z2 h8)
 have hRI:∀v c z,RI s.1 G w v c z->RI s.1 (fB G k o) (Wo.put q k) v c z:=λv c z ⟨M,R,T⟩=>by
  unfold RI Wo.put;simp only[Z,U];refine⟨(n v c z ?_).2 M,Ω,λj m C B hw=>?_⟩
  .by_cases L:v<Wn q.2
   .exact .inl L
   .right;rcases K with⟨a,c',d,e⟩|⟨a,_⟩
    .have:=T k hk l.h5 a Ω;constructor
     .intro c8 u;exact this ⟨λz=>Wh z c8,λ_=>u⟩
     .intro c8 u;exact this ⟨λ_=>u,λz=>Wh c8 z⟩
    .omega
  .rw[I j m]at C B hw;by_cases e:k=j
   .subst e;rw[Wb rfl]at C B;exact Wh B (l.np C)
   .rw[Wa e]at C B hw;rw[l.hh];simp_all
 have gE:∀i,0<=i->i<=7->hld w.a k i->∃z,VA w.c.length s.1 G 2000000 i z:=λi x A J=>by
  by_cases z:xld w.a k i
  .exact⟨_,h.held i x A k hk z⟩
  .refine⟨_,h.X i x A λj m=>?_⟩<;>grind [rY]
 have wg:∀j,j≠k->ae j q.1.C=ae j w.C:=λj m=>by
  rw[l.C]
  grind [Wyz]
 subst hp;refine⟨?_,?_,?_,?_,?_,?_,?_,?_,?_,?_⟩
 all_goals(try unfold Wo.put);(try simp only[Z,U])
 .intro j m;rw[I j m];by_cases e:k=j
  .subst e;rw[Wb rfl];have wX:ae k q.1.C=w.c[k].l.w:=by
    rw[l.C];split
    .rename_i e;rw[WwU hW,e]
    .exact Wzj hW rfl
   have sU:=l.ra (RI s.1 (fB G k o) (Wo.put q k)) (VA w.c.length s.1 (fB G k o) 2000000) λi J=>by
    have L:∃z,VA w.c.length s.1 G 2000000 i z:=by
     rcases J with⟨M,R,T⟩|⟨M,R⟩
     .exact gE i M R T
     simp_all [VA,Wb]
    obtain⟨z,F⟩:=L;refine⟨z,F,?_⟩;unfold RI;rw[show(Wo.put q k).c=w.c.set k q.2 by grind [Wo.put]];simp only[U];refine⟨(n _ i z (.inl Ω)).2 ((WCw (by rcases K with z|z<;>omega) λr g t h1 h2=>?_).1 F),?_,λj m C B hw=>?_⟩
    .grind
    .show _<=q.1.i.1;rcases K with z|z<;>omega
    .rw[I j m]at C B hw;by_cases e:k=j
     .subst e;rw[Wb rfl]at C B;exact Wh B (l.np C)
     .show¬tch q.1.a j i;rw[l.hh];intro ht;rcases J with⟨M,R,T⟩|⟨M,R⟩
      .exact e (rY O T (ht.2 Ω))
      .exact e (rY O (ht.1 M) R).symm
   rw[wX,show fB G k o k=o by unfold fB;rw[Wb rfl]];unfold Wo.put at sU;rw[Z,Q,<-l.hh,<-l.hs]at sU;exact sU
  .rw[Wa e];have E:=hRI;unfold Wo.put at E;rw[Z]at E;refine h.oth (k:=k) (q:=q) m (λz=>e z.symm) hM E (λi x A J v L=>?_) (λu v L=>?_) (wg j λz=>e z.symm) (by unfold fB;rw[Wa λz=>e z.symm]) (λj _ i=>by rw[l.hh];simp_all) (λi _ _=>.inl (by rw[l.hs])) (by rw[l.hh];exact O)
   .grind [rY]
   .exact(n _ 8 v (.inr ⟨λz=>Wh rfl z,λ_ z=>e (rY O z u)⟩)).1 L
 .intro j m;unfold fB;rw[Wa Ω];exact h.out j m
 .intro i j J m iA a;rw[I i J,I j m];have key:∀(j:Nat) (m:j<w.c.length),j≠k->ow w.c[j]≠some (Wn q.2):=λj m c9 we=>by
   rcases K with⟨_,e,_⟩|⟨e,_⟩
   .exact h.uq k j hk m (λz=>c9 z.symm) _ e we
   .have:=h.le j m _ we;omega
  by_cases H:k=i
  .grind
  .rw[Wa H];by_cases W:k=j
   .grind
   .rw[Wa W];exact h.uq i j J m iA a
 .intro j m a;rw[I j m];split
  .rw[D1];intro z;injection z with z;rcases K with q|q<;>omega
  .intro z;have:=h.le j m a z;omega
 .intro i x A bV;rw[l.hh]at bV;rw[l.hs];exact(n _ i _ (.inr ⟨λ_=>bV k,λz=>Ω⟩)).2 (h.X i x A bV)
 .intro i x A j m u;rw[l.hh]at u;rw[I j m,l.hs];by_cases e:k=j
  .subst e;rw[Wb rfl];rcases w4 with⟨e,ef⟩|⟨e,H,V,W,e3,X,S,_⟩
   .rw[e,PJ D];have:ov q.2 i (WE w.D.1 i)=ov w.c[k] i (WE w.D.1 i):=by
     have P:dn q.2=false:=by unfold dn;rw[l.H];simp[ef]
     rw[(xW P).1,ovx,l.und]
    rw[this];exact h.held i x A k hk u
   .have P:dn q.2=true:=by unfold dn;rw[l.H,l.sy];simp[V]
    have:ov q.2 i (WE w.D.1 i)=WE w.D.1 i:=by unfold ov;rw[Wb P]
    rw[this,H];unfold VA;rw[Wa Ω];refine .inr ⟨k,e,by unfold fB;rw[Wb rfl],by rcases K with z|z<;>omega,e3 i x A u,λj' g' gW dP pL=>?_⟩;unfold fB at gW;split at gW
    .simp_all
    .refine Classical.byContradiction λz=>pL ((F1 j' g' gW Ω).1 i x A u.h)
  .rw[Wa e];exact(n _ i _ (.inr ⟨λ_ z=>e (rY O u.h z).symm,λz=>Ω⟩)).2 (h.held i x A j m u)
 .rw[WzJ hk,l.hs,h.W];rcases w4 with⟨e,ef⟩|⟨e,H,V,W,e3,X,S,_⟩
  .rw[e,PJ D];have:oc q.2=oc w.c[k]:=by
    have P:dn q.2=false:=by unfold dn;rw[l.H];simp[ef]
    rw[(xW P).2,Y,l.und]
   omega
  .have P:dn q.2=true:=by unfold dn;rw[l.H,l.sy];simp[V]
   have kw:oc q.2=0:=by unfold oc;rw[Wb P]
   have nz:gd G 2000000 k=0:=by unfold gd;rw[D]
   have uJ:gd (fB G k o) 2000000 k=e.d:=by
    unfold gd fB;rw[Wb rfl,H];simp only;rw[Wb (by rcases K with z|z<;>omega)]
   rw[J8 (f:=gd G 2000000) (a:=gd (fB G k o) 2000000) hk λj m=>by unfold gd fB;rw[Wa m],nz,uJ,kw,Y,S];congr 1;omega
 .intro j m;rw[I j m];by_cases e:k=j
  .subst e;rw[Wb rfl];intro C B;exact Wh B (l.np C)
  .rw[Wa e,l.hh];intro C B r g t ab;unfold fB at t;split at t
   .rcases w4 with⟨V,_⟩|⟨e',H,V,W,e3,X,S,_⟩
    .simp_all
    .rw[H]at t;injection t with t;subst t;refine⟨λi x A J=>X i λz=>e (rY O J z).symm,λu=>?_⟩;rw[S];exact WzS eT.hu λz=>e (rY O z u)
   .exact h.jk j m C B r g t ab
 .intro e he j m sT;have old:e∈w.C->e.1=Wn (if k=j then q.2 else w.c[j]):=λhe=>by
   rw[Wa λz=>hW e he (by rw[sT,z])];exact h.hs e he j m sT
  rw[I j m];rw[l.C]at he
  grind
 .intro j g i z t F;unfold fB at t;split at t
  .grind
  .exact h.rg j g i z t F
end
end
section
section
variable{N:Nat}{b i v:Int}{H S:List Wr}{h e:Wr}{l:List Rw}{a:List Int}
theorem OJ:Lin cfW:=⟨λx=>by unfold cfW;omega,λx y z=>by unfold cfW;omega,λx y z=>by unfold cfW;omega⟩
theorem TZ{x y:Wr}:Ap cfW x y↔x.1≠y.1:=by unfold Ap cfW;omega
theorem Wxy{x y}(d:x.1≠y.1)(r):cM i v (cM i v r x) y=cM i v (cM i v r y) x:=by
 unfold cM;cases pick x.2.2 i with
 |none=>cases pick y.2.2 i<;>rfl
 |some p=>
  cases pick y.2.2 i with
  |none=>rfl
  |some q=>
   simp only;by_cases b:x.1<=v/\r.1<x.1
   .rw[Wb b];by_cases a:y.1<=v/\r.1<y.1
    .rw[Wb a];by_cases c:x.1<y.1
     .rw[Wb (show y.1<=v/\x.1<y.1 from⟨a.1,c⟩),Wa (by simp only;omega)]
     .rw[Wa (by simp only;omega),Wb (show x.1<=v/\y.1<x.1 from⟨b.1,Ω⟩)]
    .rw[Wa a,Wa (by simp only;omega),Wb b]
   .rw[Wa b];by_cases a:y.1<=v/\r.1<y.1
    .rw[Wb a,Wa (by simp only;omega)]
    .rw[Wa a,Wa b]
theorem QJ:∀(S:List Wr) (r),(∀z∈S,z.1≠e.1)->S.foldl (cM i v) (cM i v r e)=cM i v (S.foldl (cM i v) r) e
 | [],r,_=>rfl
 |z::S,r,h=>by
  rw[eM,eM,Wxy (h z (Xg ..)).symm,QJ S _ λy a=>h y (Xe _ a)]
theorem Wu6:∀(S:List Wr) (r),(∀z∈S,z.1≠e.1)->(gA cfW S e).foldl (cM i v) r=cM i v (S.foldl (cM i v) r) e
 | [],r,_=>rfl
 |z::S,r,h=>by
  have f:=h z (Xg ..);have b:=λy d=>h y (Xe _ d);rw[gA];split
  .rw[eM,Wu6 S _ b,eM]
  .split
   .rw[eM,QJ (z::S) r h]
   .rename_i a c;unfold cfW at a c;omega
def aV(H:List Wr):List Wr:=H.foldr (λh l=>gA cfW l h) []
theorem Ay:∀{H},H.Pairwise (λa b=>a.1≠b.1)->Ris cfW (aV H)/\(∀x,x∈aV H↔x∈H)
 | [],_=>⟨List.Pairwise.nil,λx=>Iff.rfl⟩
 |h::H,hp=>by
  obtain⟨d,e⟩:=Xz.1 hp;obtain⟨a,c⟩:=Ay e;refine⟨rF OJ a,λx=>?_⟩;show x∈gA cfW (aV H) h↔_;rw[nF OJ a,c,Xr];refine or_congr Iff.rfl ⟨λz=>z.1,λz=>⟨z,TZ.2 (d x z).symm⟩⟩
theorem G8(d:H.Pairwise λa b=>a.1≠b.1):(aV H).length=H.length:=by
 obtain⟨a,c⟩:=Ay d;rw[<-Ds OJ a (d.imp λz=>TZ.2 z) λx=>(c x).symm];unfold n7;exact List.length_mergeSort _
theorem Wua:∀(H) (r),H.Pairwise (λa b=>a.1≠b.1)->(aV H).foldl (cM i v) r=H.foldl (cM i v) r
 | [],r,_=>rfl
 |h::H,r,hp=>by
  obtain⟨d,e⟩:=Xz.1 hp;show(gA cfW (aV H) h).foldl (cM i v) r=_;rw[Wu6 _ _ λz c=>(d z ((Ay e).2 z|>.1 c)).symm,Wua H r e,eM,QJ H r λz c=>(d z c).symm]
theorem KW(d:l.Pairwise λa b=>a.1<b.1):pick l i=lst l i:=by
 cases hp:pick l i with
 |some x=>exact(Hy (r:=(i,x)) d (GO hp)).symm
 |none=>
  cases hl:lst l i with
  |none=>rfl
  |some x=>
   unfold pick at hp;have c:l.find? (λr=>decide (r.1=i))=none:=by
    cases hf:l.find? (λr=>decide (r.1=i))with
    |none=>rfl
    |some r=>rw[hf]at hp;cases hp
   have:=Sr.1 c _ (Dx hl);simp at this
structure HG(H:List Wr):Prop where
 len:H.length<=4
 I:∀h∈H,(1<=h.1/\h.1<=1000000)/\(1<=h.2.1/\h.2.1<=99)/\bT h.2.2/\h.2.2.length<=300
 up:∀h∈H,h.2.2.Pairwise λa b=>a.1<b.1
 dist:H.Pairwise λa b=>a.1≠b.1
def ovW(v:Int)(l:List Int)(h:Wr):List Int:=if h.1<=v then ovl l h.2.2 else l
def stA(a:List Int)(H:List Wr)(v:Int):List Int:=(aV H).foldl (ovW v) a
theorem YB{A}(c:Vals 8 A)(a:bT h.2.2):Vals 8 (ovW v A h):=by
 unfold ovW;split
 .exact lY c a
 .exact c
theorem Wxn{c}(j:0<=c)(l:c<=7):∀(S:List Wr) (A) (r),Vals 8 A->Ris cfW S->(∀h∈S,bT h.2.2/\h.2.2.Pairwise λq b=>q.1<b.1)->(∀h∈S,r.1<h.1)->A.getD c.toNat 0=r.2->Vals 8 (S.foldl (ovW v) A)/\(S.foldl (ovW v) A).getD c.toNat 0=(S.foldl (cM c v) r).2
 | [],A,r,d,_,_,_,e=>⟨d,e⟩
 |h::S,A,r,d,s,t,i,e=>by
  obtain⟨a,p⟩:=Xz.1 s;obtain⟨m,o⟩:=t h (Xg ..);have n:=i h (Xg ..);rw[eM,eM];refine Wxn j l S _ _ (YB d m) p (λy g=>t y (Xe _ g)) (λy g=>?_) ?_
  .have h1:=a y g;have k:=i y (Xe _ g);unfold cfW at h1;unfold cM;split
   .split
    .simp only;omega
    .exact k
   .exact k
  .unfold ovW cM;rw[KW o];by_cases f:h.1<=v
   .rw[Wb f,qj d m j l];cases lst h.2.2 c with
    |some x=>simp only;rw[Wb ⟨f,n⟩]
    |none=>exact e
   .rw[Wa f];cases lst h.2.2 c with
    |some x=>simp only;rw[Wa (λz=>f z.1)];exact e
    |none=>exact e
theorem Lz(j:HG H)(i:Vals 8 a):Vals 8 (stA a H v)/\∀c:Int,0<=c->c<=7->(stA a H v).getD c.toNat 0=(bst (a.getD c.toNat 0) c v H).2:=by
 obtain⟨k,g⟩:=Ay j.dist;have b:∀c:Int,0<=c->c<=7->_:=λc e f=>Wxn (v:=v) e f (aV H) a (0,a.getD c.toNat 0) i k (λh d=>⟨(j.I h ((g h).1 d)).2.2.1,j.up h ((g h).1 d)⟩) (λh d=>by have:=(j.I h ((g h).1 d)).1;simp only;omega) rfl;refine⟨(b 0 Ω Ω).1,λc e f=>?_⟩;have:=(b c e f).2;rw[Wua H _ j.dist]at this;exact this
end
end
section
section
variable{N:Nat}{b i v:Int}{H S:List Wr}{h e:Wr}{l:List Rw}{a:List Int}
theorem WBq(d:H.Pairwise λf b=>f.1≠b.1){i k}(a:i<H.length)(c:k<i):H[k].1≠H[i].1:=fh.1 d k i Ω a c
theorem Wzm{R}{a}{c:Ka8 R}(e:H.Pairwise λn b=>n.1≠b.1){i}(d:i<H.length)(k:H.length<=1000):∀(p j o),j+p=i->p<o->Bh N H (i:Int) a c o (j:Int)=c (i:Int) false
 |0,j,o,h,hf=>by
  obtain⟨g,rfl⟩:∃g,o=g+1:=⟨o-1,Ω⟩;simp_all [Bh,Wj,Wc]
 |p+1,j,o,h,hf=>by
  obtain⟨g,rfl⟩:∃g,o=g+1:=⟨o-1,Ω⟩;have f:j<i:=Ω
  have l:=WBq e d f;have m:=Wzm (a:=a) (c:=c) e d k p (j+1) g Ω Ω;simp only[Bh,Wf (show(j:Int)<(i:Int) by omega),We,Wp (Ω:j<H.length),Wp d,Wu Ω,Wu d,Wl (j:=j)]
  grind
theorem OZ(b:HG H)(m:1048576<N):za N H=ret true:=by
 unfold za;have u:=b.len;rw[Wj (show¬Wi H>200 by unfold Wi;omega),Wc];have h:=WF (l:=H) (V:=Unit) (R:=Unit×Ks) (c:=λn j v=>Bi N H (some ((),(false,()))) (λp o=>some ((),(true,()))) n j) (n:=N) Ω
  (b:=λj x v k=>k v) (K:=λ_ v=>some ((),(true,())))
  (λn i v a=>by
   obtain⟨⟨q,r⟩,⟨s,t⟩,c,d⟩:=b.I _ (Xm a);have e:(decide (1<=H[i].1)&&decide (H[i].1<=1000000))=true:=Φ
   have g:(decide (1<=H[i].2.1)&&decide (H[i].2.1<=99))=true:=Φ
   simp only[Bi,WM a,Wp a,Wu a,Wl (j:=i),We,oN,e,g,ret,Xd,Xu,Wc,CV (Ω:H[i].2.2.length<=1048576) m,zx c d];rw[show(0:Int)=((0:Nat):Int)from rfl,Wzm b.dist a Ω i 0 N Ω Ω])
  (λn v=>by simp[Bi,W0,Xj,Wc]) ()
 refine h.trans ?_;rw[zv (f:=λv _=>v) H 0 () (λj x v k _=>rfl)]
def mnW(a c:Int)(x:Wr):Int:=if x.1>a then(if x.1<c then x.1 else c)else c
theorem TL{a}:∀(H:List Wr) (best),H.foldl (mnW a) best<=best/\(∀x∈H,x.1>a->H.foldl (mnW a) best<=x.1)/\(H.foldl (mnW a) best=best\/∃x∈H,x.1=H.foldl (mnW a) best/\x.1>a)
 | [],best=>⟨Xt _,(λx b=>by cases b),.inl rfl⟩
 |y::H,best=>by
  obtain⟨g,c,d⟩:=TL (a:=a) H (mnW a best y);rw[eM];have f:mnW a best y<=best/\(y.1>a->mnW a best y<=y.1)/\(mnW a best y=best\/(y.1=mnW a best y/\y.1>a)):=by
   unfold mnW;omega
  refine⟨Ω,λx b e=>?_,?_⟩
  .grind
  grind
def lsW(S:List Wr)(j:Nat):Int:=if j=0 then 0 else(S.getD (j-1) (0,0,[])).1
theorem WBh(b:HG H){j}(hj):H.foldl (mnW (lsW (aV H) j)) 1000001=(aV H)[j].1:=by
 obtain⟨a,i⟩:=Ay b.dist;have o:∀(u c:Nat) (e:u<(aV H).length) (f:c<(aV H).length),u<c->(aV H)[u].1<(aV H)[c].1:=λu c e f h=>by
  have:=fh.1 a u c e f h
  grind [cfW]
 have g:=(i _).1 (Xm hj);have s:=(b.I _ g).1;have m:lsW (aV H) j<(aV H)[j].1:=by
  grind [lsW,Xq,aV]
 obtain⟨u,c,d⟩:=TL (a:=lsW (aV H) j) H 1000001;have r:=c _ g Ω;rcases d with d|⟨x,n,p,q⟩
 .omega
 .obtain⟨k,t,rfl⟩:=q8.1 ((i x).2 n);by_cases l:j<=k
  .grind
  .have:(aV H)[k].1<=lsW (aV H) j:=by
    unfold lsW
    grind
   omega
theorem WA9{R}{bi}{m:Ka7 R}{a}(d:H.length<=1000)(c:1048576<N):sX N H a bi m N 1000001 0=m (H.foldl (mnW a) 1000001) (H.length:Int) false:=by
 have b:=WF (l:=H) (V:=Int) (R:=R) (c:=λn j v=>sX N H a bi m n v j) (n:=N) Ω
  (b:=λj x v k=>k (mnW a v x)) (K:=λj v=>m v j false)
  (λn i v g=>by
   simp only[sX,WM g,Wp g,Wu g,Wl (j:=i),We,jP]
   grind [mnW])
  (λn v=>by simp[sX,W0,Xj,Wc]) 1000001
 refine b.trans ?_;rw[zv (f:=λv x=>mnW a v x) H 0 1000001 (λj x v k _=>rfl),d4]
theorem WvB(b:HG H)(c:1048576<N):∀(d j p),j+d=(aV H).length->d<p->BO N H (λo n h=>(some ((),(h,())))) p (lsW (aV H) j) (((aV H).map (·.1)).take j)=ret ((aV H).map (·.1))
 |0,j,p,f,hf=>by
  obtain⟨g,rfl⟩:∃g,p=g+1:=⟨p-1,Ω⟩;have a:=G8 b.dist
  grind [aV,nm,aP,BO,decide_eq_false,Wi]
 |d+1,j,p,f,hf=>by
  obtain⟨g,rfl⟩:∃g,p=g+1:=⟨p-1,Ω⟩;have a:=G8 b.dist;have l:=b.len;have e:j<(aV H).length:=Ω
  have i:j<((aV H).map (·.1)).length:=Ψ
  have m:=WvB b c d (j+1) g Ω Ω;rw[BO,Wf (by grind [Wi]),We,WA9 Ω c,WBh b e];rw[Ww Θ,We];have k:lsW (aV H) (j+1)=(aV H)[j].1:=by
   simp_all [lsW,Wa,Xs,Nat.add_sub_cancel,Xq]
  simp_all [aV,List.append,pO,eZ]
theorem Wlh(d:HG H)(b:1048576<N):FK N H=ret ((aV H).map (·.1)):=by
 unfold FK;rw[OZ d b];have a:=G8 d.dist;have c:=d.len;exact WvB d b (aV H).length 0 N Ω Ω
theorem Wse:∀(H:List Wr) (A),H.Pairwise (λa b=>a.1≠b.1)->e∈H->H.foldl (λv x=>if x.1=e.1 then ovl v x.2.2 else v) A=ovl A e.2.2
 | [],_,_,h=>by cases h
 |y::H,A,f,h=>by
  obtain⟨c,d⟩:=Xz.1 f;have none:∀(H:List Wr) (A:List Int),(∀z∈H,z.1≠e.1)->H.foldl (λv x=>if x.1=e.1 then ovl v x.2.2 else v) A=A:=by
   intro H
   induction H with
   |nil=>simp_all
   |cons z H ih=>
    grind
  rw[eM];rcases Xr.1 h with rfl|h
  .grind
  .rw[Wa (c e h)];exact Wse H A d h
theorem WB8{R}{t:Int->Bool->List Int->Option R}(s:HG H)(m:1048576<N){j}(q:j<(aV H).length){A:List Int}(h:Vals 8 A):vH N H v (j:Int) ((aV H).map (·.1)) t N 0 A=t (H.length:Int) false (ovl A (aV H)[j].2.2):=by
 have b:=s.len;have e:j<((aV H).map (·.1)).length:=Ψ
 have p:((aV H).map (·.1))[j]=(aV H)[j].1:=eZ ..;obtain⟨a,r⟩:=Ay s.dist;have g:=WF (l:=H) (V:=List Int) (R:=R) (c:=λn k l=>vH N H v (j:Int) ((aV H).map (·.1)) t n k l) (n:=N) Ω
  (b:=λk x l u=>bif x.1==(aV H)[j].1 then(vU N l x.2.2).bind (λo=>u o.2.1)else u l) (K:=λk l=>t k false l)
  (λn i l d=>by simp only[vH,WM d,Wp d,Wu d,Wp e,Wu e,p,Wl (j:=i),We])
  (λn l=>by simp[vH,W0,Xj,Wc]) A
 refine g.trans ?_;rw[QT (a:=Unit) (f:=λl x=>if x.1=(aV H)[j].1 then ovl l x.2.2 else l) (λl=>Vals 8 l) H 0 A h (λx c l b=>by
   split
   .exact lY b (s.I x c).2.2.1
   .exact b) (λk x l u c b=>by
   simp only[WJ];split
   .rw[Pa b (s.I x c).2.2.1 (s.I x c).2.2.2 m];rfl
   .rfl),d4,Wse H A s.dist ((r _).1 (Xm q))]
theorem Wuv:∀(S:List Wr) (A),(∀z∈S,¬z.1<=v)->S.foldl (ovW v) A=A
 | [],_,_=>rfl
 |z::S,A,h=>by
  rw[eM,show ovW v A z=A by unfold ovW;rw[Wa (h z (Xg ..))]];exact Wuv S A λy a=>h y (Xe _ a)
theorem WwT(b:HG H)(d:Vals 8 a)(S:List Wr)(f:∀z∈S,z∈H):Vals 8 (S.foldl (ovW v) a):=by
 induction S generalizing a with
 |nil=>exact d
 |cons z S ih=>
  exact ih (YB d (b.I z (f z (Xg ..))).2.2.1) λy c=>f y (Xe _ c)
theorem WzZ(b:HG H)(l:Vals 8 a)(i:1048576<N):∀(d j u),j+d=(aV H).length->d<u->Bp N H v ((aV H).map (·.1)) (λt s p=>(some ((),(p,())))) u (j:Int) (((aV H).take j).foldl (ovW v) a)=ret (stA a H v)
 |0,j,u,o,hf=>by
  obtain⟨g,rfl⟩:∃g,u=g+1:=⟨u-1,Ω⟩;rw[Bp,W0 Ψ,nm Ω];rfl
 |d+1,j,u,o,hf=>by
  obtain⟨g,rfl⟩:∃g,u=g+1:=⟨u-1,Ω⟩;have c:j<(aV H).length:=Ω
  have f:j<((aV H).map (·.1)).length:=Ψ
  have n:((aV H).map (·.1))[j]=(aV H)[j].1:=eZ ..;obtain⟨x,q⟩:=Ay b.dist;have w:=G8 b.dist;have r:=b.len;rw[Bp,WM f,Wp f,Wu f,n];simp only[We,jP];by_cases m:(aV H)[j].1<=v
  .have ih:=WzZ b l i d (j+1) g Ω Ω;rw[Wb m,WB8 b i c (WwT b l _ λz h=>(q z).1 (lv h)),Wl];rw[pO c,p7]at ih;simp_all [aV,ovW,ovl,Wb]
  .rw[Wa m];unfold stA
   conv=>rhs;rw[<-List.take_append_drop j (aV H),p7]
   rw[Wuv ((aV H).drop j) _ λz h=>by
    obtain⟨k,hk,rfl⟩:=q8.1 h;rw[List.length_drop]at hk;by_cases e:k=0
    .simp_all
    .have:=fh.1 x j (j+k) c Ω Ω
     grind [cfW]]
theorem WmG(f:HG H)(c:Vals 8 a)(b:1048576<N):Cb N a H v=ret (stA a H v):=by
 unfold Cb;have d:=c.len;have g:=G8 f.dist;have e:=f.len;rw[Gm Ω b,uy.2 c,OZ f b];rw[Ww Φ,We,Wlh f b];exact WzZ f c b (aV H).length 0 N Ω Ω
end
end
section
section
variable{N:Nat}{s:Sc}{w:Wo}{n:Int}{x:Rt}{k:Nat}{p:Pg}{m:Mm}{H:List Wr}{C:Nat->Option Cm}{e:List Int}{b:Int->Int}
theorem Wzg{s}(d:Vals 8 s.1.1):MI (λi=>s.1.1.getD i.toNat 0) (aX s).i (aX s).C (aU (aX s).c):=by
 have a:∀k c,aU (aX s).c k=some c->False:=λk c h=>by
  obtain⟨n,l,_⟩:=PV h;have:(aX s).c[k].g=0:=by simp[aX,mw]
  omega
 refine⟨(λh f=>by cases f),λk c h=>Wh h (λh=>a k c h),λk p c g _ h=>Wh h (λh=>a k c h),λi j m _=>?_,λk c h=>Wh h (λh=>a k c h)⟩;have o:=d.len;have b:i.toNat<s.1.1.length:=Ω
 have e:Wy (aX s).i i=(s.1.1.getD i.toNat 0,0,0):=by
  unfold Wy ac aX DR;rw[Wk (by simpa using b),Wk b,eZ];rfl
 rw[e];exact⟨rfl,rfl⟩
theorem R5(a:dF s=true):OA (λi=>s.1.1.getD i.toNat 0) s 0 (aX s):=by
 refine⟨Hg a,Wz6,Wt4 a,WuJ,Wzg (rP a).1.S,λk c=>?_,⟨(λh b=>by cases b),List.nodup_nil,List.Pairwise.nil,(λh b=>by cases b)⟩⟩;have e:(aX s).c[k]={}:=by simp[aX,mw]
 rw[e];exact RO.nil (Xt _) ⟨Xt _,Xt _⟩ rfl rfl (by show(0:Int)≠2;omega) (by show(0:Int)≠4;omega) rfl
theorem OA.hg(h:OA b s n w)(m:n<=1000000):HG w.C:=by
 have f:w.c.length<=4:=by rw[h.ok.len];exact h.ok.l4
 have d:=h.hw.len f;refine⟨d,λe a=>?_,h.hw.up,h.hw.dist⟩;obtain⟨g,c,i,j⟩:=h.ok.histE e a;obtain⟨k,l⟩:=h.mi.st e a;have:=h.wt.clk;have:=h.ok.j;exact⟨Ω,Ω,c,Ω⟩
structure LK(e:List Int)(H:List Wr)(x:Rt):Prop where
 Eo:bT x.o/\x.o.length<=300
 rd:∀r∈x.o,(stA e H x.u).getD r.1.toNat 0=r.2
 fz:FZ x.n
 ft:Hw (stA e H x.n.u) x.n
theorem TA{v i z}(c:HG H)(d:Vals 8 e)(a:0<=i)(b:i<=7)(h:RC (λi=>e.getD i.toNat 0) m H C v i z):(stA e H v).getD i.toNat 0=z:=by
 rw[(Lz c d).2 i a b,h.val]
theorem WAf(h:OA (λi=>s.1.1.getD i.toNat 0) s n w)(x:n<=1000000)(B:Vals 8 s.1.1)(hk):LK s.1.1 w.C w.c[k]:=by
 have j:=h.hg x;have d:=h.ro k hk;have l:=h.ok.x k hk;have b:POk (s.2.1.getD k pg0):=h.ok.O _ (by rw[Wk (show k<s.2.1.length by rw[<-h.ok.len];exact hk)];exact Xm _);have A:=l.g;have e:bT w.c[k].o/\w.c[k].o.length<=300:=by
  by_cases y:1<=w.c[k].g/\w.c[k].g<=4
  .exact Pz (l.Ev y) b.Y
  .exact d.Eo Ω
 suffices hf:FZ w.c[k].n/\Hw (stA s.1.1 w.C w.c[k].n.u) w.c[k].n from⟨e,λr a=>TA j B (e.1 r a).1.1 (e.1 r a).1.2 (d.rd r a),hf.1,hf.2⟩
 by_cases g:w.c[k].g=2
 .obtain⟨t,⟨z,m⟩,f⟩:=d.n g;obtain⟨_,_,o⟩:=(l.Ev Ω).V g;refine⟨FZ.of f.fp.ft o b.k3 (λc B=>(b.κ c B).len) m,?_⟩;rw[t];exact Wuq f.fp.ft (FZ.of f.fp.ft o b.k3 (λc B=>(b.κ c B).len) m) (Lz j B).1 λc v p q u=>TA j B p q u
 .rw[d.fam0 g];refine⟨⟨⟨(λr a=>by cases a),jI _⟩,jI _,(λr a=>by cases a),(λr a=>by cases a),jI _,(λr a=>by cases a)⟩,λr a=>by cases a⟩
section
variable{R:Type}{d:Sc}{a:Option R}{c:Ka8 R}{A:List Int}
theorem Oz(hk):List.getD (w.c.map Rt.e) (Xb (k:Int)) d_Root=Rt.e w.c[k]:=by
 rw[Xf,Wk (show k<(w.c.map Rt.e).length by simpa using hk),eZ]
theorem Wwu(hk)(h:Vals 8 A)(u:bT w.c[k].o/\w.c[k].o.length<=300)(i:∀r∈w.c[k].o,A.getD r.1.toNat 0=r.2):∀(t j e),j+t=w.c[k].o.length->t<e->BP N (k:Int) d w.e A a c e (j:Int)=c (w.c[k].o.length:Int) false
 |0,j,e,m,hf=>by
  obtain⟨g,rfl⟩:∃g,e=g+1:=⟨e-1,Ω⟩;have:j=w.c[k].o.length:=Ω
  subst this;have q:P5 w.e=w.c.map Rt.e:=rfl;have f:P13 (Rt.e w.c[k])=w.c[k].o:=rfl;simp only[BP,Wm,q,Oz hk,f,W0 (Xj _),Wc]
 |t+1,j,e,m,hf=>by
  obtain⟨g,rfl⟩:∃g,e=g+1:=⟨e-1,Ω⟩;have b:j<w.c[k].o.length:=Ω
  have q:P5 w.e=w.c.map Rt.e:=rfl;have f:P13 (Rt.e w.c[k])=w.c[k].o:=rfl;have o:=u.1 _ (Xm b);have l:inb w.c[k].o[j].1 A.length=true:=by unfold inb;rw[h.len];simp;omega
  have n:=Wwu hk h u i t (j+1) g Ω Ω;simp only[BP,Wm,q,Oz hk,f,WM b,Wp b,Wu b,We,l,Wl (j:=j)];rw[i _ (Xm b),bne_self_eq_false,Wc];exact n
end
end
end
section
section
variable{R:Type}{N r:Nat}{i:Ka5 R}{j:Ka4 R}
 {b:Int->Int} {s:Sc} {w c:Wo} {G A:Nat->Option GE} {k:Nat} {x y:Rt} {q:Wo×Rt} {n:Int} {p:Pg} {a:Ac}
theorem HC(h:GA N r i j b s w G){t}:GA N r i j b s {w with j:=t} G:=
 ⟨h.ra,h.out,h.uq,h.le,h.X,h.held,h.W,h.jk,h.hs,h.rg⟩
theorem WAW(X:1048576<N)(h:GA N r i j b s w G)(a:OA b s n w)(hn:n<=99990)(hk)(R:∀k,∀c∈(s.2.1.getD k pg0).2,ff c=true):∃A,GA N r i j b s (Wo.put (WS {w with j:=w.j+1} w.c[k] k (s.2.1.getD k pg0)) k) A:=by
 have u:=HC (t:=w.j+1) h;have J:POk (s.2.1.getD k pg0):=a.ok.O _ (by rw[Wk (show k<s.2.1.length by rw[<-a.ok.len];exact hk)];exact Xm _);have B:=a.ok.x k hk;have H:=a.wx k hk;have Z:LB {w with j:=w.j+1} k w.c[k]:=⟨(a.lx.x k hk).l,(a.lx.x k hk).no,(a.lx.x k hk).hd,(a.lx.x k hk).tk⟩;have t:=qu a.ok hk;have P:=RP a.ok a.lx;have tP:=Wsz (b:=b) a.ok a.lx a.wx a.wt Ω a.mi hk rfl t;have d:=Wvv (w:={w with j:=w.j+1}) (k:=k) (p:=s.2.1.getD k pg0) H B.g;have V:GOk {w with j:=w.j+1}:=⟨a.ok.i,a.ok.D,a.ok.a⟩;have nH:k<=8:=by have:=a.ok.l4;have:=a.ok.len;omega
 have Y:=Dj (w:={w with j:=w.j+1}) (k:=k) J ⟨a.ok.i,a.ok.D,a.ok.a⟩ B nH a.ok.n0;have bE:w.i.1<=99999:=by have:=a.wt.clk;have:=a.ok.j;omega
 have M:=(WK a.ok.i).2.1;have l:=a.ro k hk;have y:stl w.c[k]=false->∀e∈w.C,e.2.1≠(k:Int)+1:=λp e f z=>by
  obtain⟨k',cI,D,E⟩:=a.hw.J e f;have:k'=k:=Ω
  subst this;rw[p]at E;cases E
 have qa2:∀e∈w.C,e.2.1=(k:Int)+1->stl w.c[k]=true:=λe f z=>by
  cases p:stl w.c[k]
  .exact Wh z (y p e f)
  .rfl
 have Bb:(WS {w with j:=w.j+1} w.c[k] k (s.2.1.getD k pg0)).1.i.1<=w.i.1+1:=by
  have:=(PF (w:={w with j:=w.j+1}) (x:=w.c[k]) (k:=k) (p:=s.2.1.getD k pg0));rcases this with e|⟨_,e⟩
  .rw[e];show w.i.1<=_;omega
  .rw[e];exact XD a.ok.i
 generalize hq:WS {w with j:=w.j+1} w.c[k] k (s.2.1.getD k pg0)=q at*;have m:∀v c z,RC b w.i w.C (aU w.c) v c z->RC b q.1.i q.1.C (aU (w.c.set k q.2)) v c z:=by
  have:=tP.2;unfold Wo.put at this;rw[t]at this;exact this
 have mI:w.c[k].g=5->w.c[k].l.g=3->¬(((Wy w.i (ac w.c[k].l.o w.c[k].l.pos 0)).2.2≠0/\(Wy w.i (ac w.c[k].l.o w.c[k].l.pos 0)).2.2≠w.c[k].l.J)\/(Wy w.i (ac w.c[k].l.o w.c[k].l.pos 0)).2.1>w.c[k].l.u)->∀v,(ac w.c[k].l.o w.c[k].l.pos 0,v)∈w.c[k].o->RC b q.1.i q.1.C (aU (w.c.set k q.2)) (w.c[k].l.F-1) (ac w.c[k].l.o w.c[k].l.pos 0) v:=λo F ao v K=>by
  have S:=(h.ra k hk).cl o;have fF:=((h.ra k hk).ck o F).1;have U:aU w.c k=some w.c[k].l:=by rw[DB hk];unfold cmX;rw[Wb o]
  have C:=(l.Eo (.inr Ω)).1 _ K;refine m _ _ _ (WBK (i:=ac w.c[k].l.o w.c[k].l.pos 0) Ω a.mi P U F Ω (by have:=l.u;omega) C.1.1 C.1.2 ?_ Ω ?_)
  .unfold Ep;omega
  .rw[S.1];exact l.rd _ K
 have g:=λ(I:V3) (W:∀v c z,RI s.1 G w v c z->I v c z)=>WxC (w:={w with j:=w.j+1}) (I:=I) X J (R k) ((u.ra k hk).wk m W (λ_ _ _ _ _ z=>z) (λ_ _ z=>z) (λ_=>Iff.rfl) (λ_=>Iff.rfl) λ_ _ _ _=>rfl) (λp=>WwU (y p)) B V H Z (λo=>(a.wt.x k hk).l o) (Ω:w.i.1<1000000) M l.u.2 (λqa1 Q=>m _ _ _ (l.rd qa1 Q)) (λT=>⟨_,(l.n T).2.2.wk (λc z=>m _ c z) λ_ z=>z⟩) (λp=>u.sk (λe f=>a.lx.hd e f) hk p) (λe f=>by obtain⟨qa0,_,D⟩:=a.lx.hd e f;exact⟨qa0,D⟩) mI;rw[hq]at g;rcases g (λ_ _ _=>True) (λ_ _ _ _=>trivial)with L|so
 .have hRI:=TH (s:=s) (G:=G) (w:={w with j:=w.j+1}) hk t d.K (λz=>(d.stay.st z).1) L;rcases g _ hRI with O|so
  .exact⟨G,WDh u a.ok.a Y.a hk t m d.K (λz=>(d.stay.st z).1) (λz=>(d.stay.st z).2.1) qa2 rfl O⟩
  .exact Wh so.sy (by rw[L.nst so.h5 so.sx];simp)
 .exact⟨_,WC7 u a.ok.a hk t m d.K Ω (y so.sx) rfl so⟩
theorem Wz5(o:1048576<N)(h:GA N r i j b s w G)(e:OA b s n w)(p:n<=99990)(z:∀k,∀c∈(s.2.1.getD k pg0).2,ff c=true):∃A,GA N r i j b s (aq s w a) A:=by
 unfold aq;simp only;split
 .rename_i hb;have d:a.2.1.toNat<w.c.length:=Ω
  rw[Wk d];generalize a.2.1.toNat=k at*;split
  .unfold m9;rw[Wk (d)];exact WAW o h e p d z
  .split
   .split
    .rename_i hc;have g:=e.ok.x k d;have v:=g.Ev Ω;obtain⟨_,_,m⟩:=v.V hc.1;obtain⟨t,u,l⟩:=(e.ro k d).n hc.1;have q:POk (s.2.1.getD k pg0):=e.ok.O _ (by rw[Wk (show k<s.2.1.length by rw[<-e.ok.len];exact d)];exact Xm _);have f:a.2.2.toNat<(s.2.1.getD k pg0).2.length:=Ω
     have B:(s.2.1.getD k pg0).2.getD a.2.2.toNat []=(s.2.1.getD k pg0).2[a.2.2.toNat]:=Wk f _;exact⟨G,h.same (y:={w.c[k]with n:=aC w.i w.c[k].n a.2.2.toNat ((s.2.1.getD k pg0).2.getD a.2.2.toNat [])}) d rfl rfl (λ_ _=>rfl) rfl ⟨rfl,rfl⟩ rfl (WCB (h.ra k d) hc.1 g l (by rw[m.len];exact f) (by rw[B];exact q.κ _ (Xm _)))⟩
    .exact⟨G,HC h⟩
   .split
    .split
     .exact⟨G,h.same (y:={w.c[k]with U:=true}) d rfl rfl (λ_ _=>rfl) rfl ⟨rfl,rfl⟩ rfl (WAk (h.ra k d))⟩
     .exact⟨G,HC h⟩
    .exact⟨G,HC h⟩
 .exact⟨G,HC h⟩
theorem Wus(f:1048576<N)(d:∀k,∀c∈(s.2.1.getD k pg0).2,ff c=true):∀(l:List Ac) (n) (w) (G),GA N r i j b s w G->OA b s n w->n+l.length<=99990->∃A,GA N r i j b s (l.foldl (aq s) w) A
 | [],n,w,G,h,_,_=>⟨G,h⟩
 |e::l,n,w,G,h,g,hn=>by
  simp only[Xv]at hn
  push_cast at hn
  obtain⟨A,m⟩:=Wz5 (a:=e) f h g Ω d;exact Wus f d l (n+1) _ A m (Rp g Ω) Ω
theorem WzH(o:dF s=true):GA N r i j b s (aX s) λ_=>none:=by
 obtain⟨f,w,x,y⟩:=rP o;have v:(aX s).c.length=s.2.1.length:=by simp[aX]
 have d:∀(k:Nat) (c:k<(aX s).c.length),(aX s).c[k]={}:=λk c=>by simp[aX,mw]
 have F:∀E D,¬xld (aX s).a E D:=λE D ⟨e,h,_⟩=>by cases h
 have m:ow ({}:Rt)=none:=(low (by show(0:Int)<=4;omega)).1;refine⟨λk c=>?_,λ_ _=>rfl,λE k p c _ a=>?_,λk c a=>?_,λD B C _=>?_,λD _ _ k _ z=>Wh z (F k D),?_,λk c l=>?_,λe h=>(by cases h),λk g D z d=>(by cases d)⟩
 .rw[d k c];exact RA.EE rfl (.inl rfl) rfl (λ_=>rfl) λu q=>by cases q
 .rw[d E p,m];intro z;cases z
 .rw[d k c,m];intro z;cases z
 .unfold VA;rw[Wa Ω];refine .inl ⟨?_,λk g z=>by cases z⟩;show WE (DT s.1.2.1) D=_;have:=Wty f.map.1 f.map.2 (Ω:D.toNat<8);rw[show((D.toNat:Nat):Int)=D by omega]at this;exact this
 .have z1:∀n,dA n (gd (λ_=>none) 2000000)=0:=λn=>by
   induction n with
   |zero=>rfl
   |succ n ih=>rw[dA,ih];rfl
  have t:dA (aX s).c.length (λk=>oc ((aX s).c.getD k rt0))=0:=by
   have:∀n,n<=(aX s).c.length->dA n (λk=>oc ((aX s).c.getD k rt0))=0:=λn=>by
    induction n with
    |zero=>intro _;rfl
    |succ n ih=>
     intro A;rw[dA,ih Ω,Wk Ω,d n Ω];rfl
   exact this _ (Xj _)
  rw[z1,t];show s.1.2.2=_;have:=f.W;omega
 .rw[d k c]at l;change (0:Int)=5 at l;omega
end
end
section
section
variable{R:Type}{N e:Nat}{c:Ka5 R}{d:Ka4 R}
 {b:Int->Int} {s:Sc} {w g:Wo} {G f:Nat->Option GE} {k:Nat} {x y:Rt} {q:Wo×Rt} {n:Int} {p:Pg} {a:Ac} {o:Opn}
structure PT(w:Wo)(x y:Rt):Prop where
 bg:(y.EA=x.EA/\x.u<=y.u)\/y.EA=0\/(y.EA=w.j/\y.u=w.i.1)
 en:y.g=8->(x.g=8/\y=x)\/(y.EB=w.j/\y.EA=x.EA)
theorem PT.keep(a:y.EA=x.EA)(c:y.u=x.u)(b:y.g≠8):PT w x y:=⟨.inl ⟨a,Ω⟩,λz=>Wh z b⟩
theorem PT.fail:PT w x (dE y):=⟨.inr (.inl rfl),λz=>by(change (6:Int)=8 at z;omega)⟩
theorem PT.conflict(a:y.EA=x.EA)(b:y.u=x.u):PT w x (WA y):=by
 unfold WA;split
 .exact PT.fail
 .exact PT.keep a b (by show(3:Int)≠8;omega)
theorem PT.close{out}:PT w x (W9 w x k out).2:=by
 unfold W9;simp only;generalize (if out=2 then []else x.A)=a;split
 .exact⟨.inl ⟨rfl,Xt _⟩,λ_=>.inr ⟨rfl,rfl⟩⟩
 .exact PT.keep rfl rfl (by show(5:Int)≠8;omega)
theorem WCo(i:x.g=1):PT w x (am w x k p).2:=by
 have d:∀y:Rt,y.EA=x.EA->y.u=x.u->y.g=x.g->PT w x y:=λy a b c=>PT.keep a b Ω;unfold am;split
 .exact PT.close
 simp only;generalize opN p.1 x.k=o;by_cases h:o.1=5
 .rw[Wb h];unfold dX;cases bf x.A o.2.2.1 with
  |some v=>exact d _ rfl rfl rfl
  |none=>
   simp only;generalize WU w.i x.u _=q;split
   .exact PT.conflict rfl rfl
   split<;>exact d _ rfl rfl rfl
 rw[Wa h];by_cases f:o.1=10
 .rw[Wb f];unfold fV;split
  .exact PT.close
  split<;>exact d _ rfl rfl rfl
 rw[Wa f];by_cases g:o.1=11
 .rw[Wb g];exact PT.keep rfl rfl (by show(2:Int)≠8;omega)
 rw[Wa g];by_cases j:o.1>=12
 .rw[Wb j];unfold eN;cases fN w.a ((k:Int)+1) (WO o).1 (WO o).2 with
  |none=>exact PT.conflict rfl rfl
  |some e=>exact d _ rfl rfl rfl
 rw[Wa j]
 repeat' split
 all_goals exact d _ rfl rfl rfl
theorem Wy4(q:x.g=4->x.u<=x.EC):PT w x (WS w x k p).2:=by
 have e:∀y:Rt,y.EA=x.EA->y.u=x.u->y.g=x.g->x.g≠8->PT w x y:=λy a b c d=>PT.keep a b Ω;unfold WS;by_cases h:x.U=true/\1<=x.g/\x.g<=4
 .rw[Wb h];exact PT.fail
 rw[Wa h];by_cases i:x.g=0
 .rw[Wb i];unfold gH
  repeat' split
  all_goals first|exact e _ rfl rfl rfl Ω|exact⟨.inr (.inr ⟨rfl,rfl⟩),λz=>by(change (1:Int)=8 at z;omega)⟩
 rw[Wa i];by_cases f:x.g=1
 .rw[Wb f];exact WCo f
 rw[Wa f];by_cases j:x.g=2
 .rw[Wb j];show PT w x (ch x);unfold ch;split
  .exact PT.fail
  split
  .exact PT.keep rfl rfl (by show(1:Int)≠8;omega)
  .exact e _ rfl rfl rfl Ω
 rw[Wa j];by_cases l:x.g=3
 .rw[Wb l];unfold fK;split
  .exact e _ rfl rfl rfl Ω
  .exact PT.keep rfl rfl (by show(4:Int)≠8;omega)
 rw[Wa l];by_cases g:x.g=4
 .rw[Wb g];show PT w x (W6 w x);unfold W6;split
  .simp only;split
   .exact PT.fail
   .exact e _ rfl rfl rfl Ω
  .exact⟨.inl ⟨rfl,q g⟩,λz=>by(change (1:Int)=8 at z;omega)⟩
 rw[Wa g];by_cases m:x.g=5
 .rw[Wb m];unfold W7;split
  .show PT w x (if _ then _ else _);split
   .exact PT.fail
   .exact e _ rfl rfl rfl Ω
  .show PT w x (cX _);unfold cX;split
   .exact PT.fail
   split
   .exact PT.keep rfl rfl (by show(if _ then(6:Int)else 7)≠8;split<;>omega)
   .exact e _ rfl rfl rfl Ω
 rw[Wa m];by_cases n:x.g=6
 .rw[Wb n];split
  .exact e _ rfl rfl rfl Ω
  .exact PT.keep rfl rfl (by show(7:Int)≠8;omega)
 rw[Wa n];by_cases o:x.g=7
 .rw[Wb o];split
  .exact⟨.inr (.inl rfl),λz=>by(change (0:Int)=8 at z;omega)⟩
  .exact⟨.inl ⟨rfl,Xt _⟩,λ_=>.inr ⟨rfl,rfl⟩⟩
 rw[Wa o];exact⟨.inl ⟨rfl,Xt _⟩,λz=>.inl ⟨z,rfl⟩⟩
structure TTl(l:List Rt)(now:Int):Prop where
 bg:∀(k:Nat) (h:k<l.length),0<=l[k].EA/\l[k].EA<=now
 en:∀(k:Nat) (h:k<l.length),l[k].g=8->l[k].EA<=l[k].EB/\l[k].EB<=now
 rt:∀(a b:Nat) (ha:a<l.length) (hb:b<l.length),l[a].g=8->l[a].EB<l[b].EA->Wn l[a]<=l[b].u
def TT(w:Wo):Prop:=TTl w.c w.j
theorem GA.clk(h:GA N e c d b s w G)(a:OA b s n w)(hk)(g:stl w.c[k]=true):w.c[k].u<=Wn w.c[k]/\Wn w.c[k]<=w.i.1:=by
 have f:=((h.ra k hk).fin g).u;refine⟨f,?_⟩;by_cases z:w.c[k].u<Wn w.c[k]
 .refine h.le k hk _ ?_;unfold ow;rw[Wa (by rw[WP]at g;omega),g,Wb ⟨rfl,z⟩]
 .have:=(a.ro k hk).u;omega
theorem RQ(h:TT w)(hk)(B:PT {w with j:=w.j+1} w.c[k] y)(t:∀(a) (D:a<w.c.length),w.c[a].g=8->Wn w.c[a]<=w.i.1)(E:0<=w.j){v}(u:v.c=w.c)(x:v.j=w.j+1):TT (Wo.put (v,y) k):=by
 have g:(w.c.set k y).length=w.c.length:=Xx;have o:∀(j:Nat) (b:j<w.c.length),(w.c.set k y)[j]'(by rw[g];exact b)=if k=j then y else w.c[j]:=λj b=>qi (by rw[g];exact b);obtain⟨r,p⟩:=B;have C:=h.bg k hk;simp only at r p;show TTl (v.c.set k y) v.j;rw[u,x];have q:y.g=8->y.EA<=y.EB/\y.EB<=w.j+1:=λc=>by
  rcases p c with⟨d,f⟩|⟨d,f⟩
  .subst f;have:=h.en k hk d;omega
  .omega
 refine⟨λj n=>?_,λj n=>?_,λi j A n=>?_⟩
 .have b:=g▸n;rw[o j b];split
  .omega
  .have:=h.bg j b;omega
 .have b:=g▸n;rw[o j b];split
  .exact q
  .intro z;have:=h.en j b z;omega
 .have b:=g▸n;have l:=g▸A;rw[o i l,o j b];by_cases s:k=i
  .subst s;rw[Wb rfl];intro c e;have F:=q c;by_cases m:k=j
   .subst m;rw[Wb rfl]at e;omega
   .rw[Wa m]at e|-;rcases p c with⟨d,f⟩|⟨d,f⟩
    .subst f;exact h.rt k j hk b d e
    .have:=h.bg j b;omega
  .rw[Wa s];intro c e;by_cases m:k=j
   .subst m;rw[Wb rfl]at e|-;rcases r with⟨d,f⟩|d|⟨d,f⟩
    .have:=h.rt i k l hk c Ω;omega
    .have:=h.en i l c;have:=h.bg i l;omega
    .have:=t i l c;omega
   .rw[Wa m]at e|-;exact h.rt i j l b c e
theorem WBP(h:TT w)(j:GA N e c d b s w G)(t:OA b s n w):TT (aq s w a):=by
 have g:0<=w.j:=by have:=t.ok.j;have:=t.ok.n0;omega
 have r:TTl w.c (w.j+1):=⟨λk u=>by have:=h.bg k u;omega,λk u z=>by have:=h.en k u z;omega,h.rt⟩;have A:∀(a:Nat) (i:a<w.c.length),w.c[a].g=8->Wn w.c[a]<=w.i.1:=λa i m=>(j.clk t i (by rw[WP];exact .inl m)).2;unfold aq;simp only;split
 .rename_i hb;have u:a.2.1.toNat<w.c.length:=Ω
  rw[Wk u];generalize a.2.1.toNat=k at*;split
  .unfold m9;rw[Wk (u)];have f:=qu t.ok u;have o:=(Dj (w:={w with j:=w.j+1}) (k:=k) (t.ok.O _ (by rw[Wk (show k<s.2.1.length by rw[<-t.ok.len];exact u)];exact Xm _)) ⟨t.ok.i,t.ok.D,t.ok.a⟩ (t.ok.x k u) (by have:=t.ok.l4;have:=t.ok.len;omega) t.ok.n0).j;exact RQ (v:=(WS {w with j:=w.j+1} w.c[k] k (s.2.1.getD k pg0)).1) h u (Wy4 λl=>((t.ro k u).ext l).1) A g f o
  .split
   .split
    .rename_i hc;exact RQ (v:={w with j:=w.j+1}) (y:={w.c[k]with n:=aC w.i w.c[k].n a.2.2.toNat ((s.2.1.getD k pg0).2.getD a.2.2.toNat [])}) h u (PT.keep rfl rfl (by show w.c[k].g≠8;omega)) A g rfl rfl
    .exact r
   .split
    .split
     .rename_i hc;exact RQ (v:={w with j:=w.j+1}) (y:={w.c[k]with U:=true}) h u (PT.keep rfl rfl (by show w.c[k].g≠8;omega)) A g rfl rfl
     .exact r
    .exact r
 .exact r
theorem Wxb(i:1048576<N)(u:∀k,∀m∈(s.2.1.getD k pg0).2,ff m=true):∀(l:List Ac) (n) (w) (G),TT w->GA N e c d b s w G->OA b s n w->n+l.length<=99990->TT (l.foldl (aq s) w)
 | [],n,w,G,h,_,_,_=>h
 |t::l,n,w,G,h,g,r,hn=>by
  simp only[Xv]at hn
  push_cast at hn
  obtain⟨f,j⟩:=Wz5 (a:=t) i g r Ω u;exact Wxb i u l (n+1) _ f (WBP h g r) j (Rp r Ω) Ω
theorem WCp:TT (aX s):=by
 unfold TT;have d:∀(k:Nat) (c:k<(aX s).c.length),(aX s).c[k]={}:=λk c=>by simp[aX,mw]
 refine⟨λk c=>?_,λk c=>?_,λa b e f=>?_⟩
 .rw[d k c];exact⟨Xt _,Xt _⟩
 .rw[d k c];intro z;(change (0:Int)=8 at z);omega
 .rw[d a e];intro z;(change (0:Int)=8 at z);omega
end
end
section
section
variable{G:Nat->Option GE}{n:Nat}{l:List Nat}{v i b:Int}{k:Nat}
def fv(G:Nat->Option GE)(k:Nat)(i:Int):Option Int:=(G k).bind λg=>g.f i
def lw(G:Nat->Option GE)(l:List Nat)(i b:Int):Int:=l.foldl (λx k=>(fv G k i).getD x) b
theorem YR:∀(l) (b),(lw G l i b=b/\∀k∈l,fv G k i=none)\/∃a k c,l=a++k::c/\fv G k i=some (lw G l i b)/\∀f∈c,fv G f i=none
 | [],b=>.inl ⟨rfl,λk d=>by cases d⟩
 |k::l,b=>by
  have m:=YR l ((fv G k i).getD b);have e:lw G (k::l) i b=lw G l i ((fv G k i).getD b):=rfl;rw[e];rcases m with⟨a,o⟩|⟨a,f,c,g,h,j⟩
  .cases hf:fv G k i with
   |none=>
    rw[hf]at a;refine .inl ⟨a,λf d=>?_⟩;rcases Xr.1 d with rfl|d
    .exact hf
    .exact o f d
   |some z=>
    rw[hf]at a;exact .inr ⟨[],k,l,rfl,by rw[a];exact hf,o⟩
  .exact .inr ⟨k::a,f,c,by rw[g];rfl,h,j⟩
theorem WwN{z}(h:fv G k i=some z):∃g,G k=some g/\g.f i=some z:=by
 unfold fv at h;cases hg:G k with
 |none=>rw[hg]at h;cases h
 |some g=>rw[hg]at h;exact⟨g,rfl,h⟩
structure UpTo(G:Nat->Option GE)(l:List Nat)(v:Int):Prop where
 p:∀k g,G k=some g->g.st<=v->k∈l
 q:∀k∈l,∀g,G k=some g->g.st<=v
 r:l.Pairwise λa b=>∀ga gb,G a=some ga->G b=some gb->ga.st<=gb.st
theorem Ox(h:UpTo G l v):KVr G b v i (lw G l i b):=by
 rcases YR (G:=G) (i:=i) l b with⟨p,r⟩|⟨p,k,c,j,o,s⟩
 .refine .inl ⟨p,λk g d q=>?_⟩;have:=r k (h.p k g d q);unfold fv at this;rw[d]at this;exact this
 .obtain⟨g,d,u⟩:=WwN o;have w:k∈l:=by rw[j];simp
  refine .inr ⟨k,g,d,h.q k w g d,u,λm t f n x=>?_⟩;have e:=h.p m t f n;rw[j,Xo,Xr]at e;have a:=h.r;rw[j]at a;rcases e with e|rfl|e
  .exact(dZ.1 a).2.2 m e k (Xg ..) _ _ f d
  .rw[d]at f;cases f;exact Xt _
  .have:=s m e;unfold fv at this;rw[f]at this;exact Wh this x
theorem WzR(o:∀j k g d,G j=some g->G k=some d->g.st=d.st->j=k){x c}(f:i≠8){a:Tg}(e:a.2.1.getD i.toNat 0=b)(h:KVr G b v i x)(m:KVr G b v i c):x=c:=
 Hx (n:=0) (b:=a) o (by unfold VA;rw[Wa f,e];exact h) (by unfold VA;rw[Wa f,e];exact m)
theorem Wxa{f:Nat->Int}:∀{l:List Nat} {f},l.Nodup->(∀k∈l,k<n)->(∀k,k<n->k∉l->f k=0)->l.foldl (λs k=>s+f k) v=v+dA n f:=λ{l}=>by
 induction l generalizing v with
 |nil=>
  intro f _ _ h;have:∀m,m<=n->dA m f=0:=λm=>by
   induction m with
   |zero=>intro _;rfl
   |succ m ih=>intro d;rw[dA,ih Ω,h m Ω Δ];rfl
  rw[this n (Xj _)];simp
 |cons a l ih=>
  intro f t i h;have g:=dH.1 t;have o:=i a (Xg ..);have p:=J8 (f:=f) (a:=λk=>if k=a then 0 else f k) (k:=a) o λj r=>Wa r;have e:=ih (v:=v+f a) (f:=λk=>if k=a then 0 else f k) g.2 (λk b=>i k (Xe _ b)) λk b u=>by
   by_cases z:k=a
   .exact Wb z
   .rw[Wa z];exact h k b λy=>by rcases Xr.1 y with y|y<;>contradiction
  have q:∀(m:List Nat) (z:Int),a∉m->m.foldl (λs k=>s+(if k=a then 0 else f k)) z=m.foldl (λs k=>s+f k) z:=λm=>by
   induction m with
   |nil=>intro z _;rfl
   |cons c m ihm=>
    intro z d;rw[eM,eM,Wa λy=>d (by rw[<-y];exact Xg ..),ihm _ λy=>d (Xe _ y)]
  rw[q l _ g.1]at e;rw[eM,e,p];simp only[Wb];omega
def dG(G:Nat->Option GE)(k:Nat):Int:=match G k with|some g=>g.d|none=>0
theorem WB9(h:UpTo G l v)(o:l.Nodup)(j:∀k∈l,k<n){c}(t:0<=c/\c<=65535):l.foldl (λs k=>(s+dG G k)%65536) c=(c+dA n (gd G v))%65536:=by
 have e:∀(m:List Nat) (z:Int),m.foldl (λs k=>(s+dG G k)%65536) (z%65536)=(m.foldl (λs k=>s+dG G k) z)%65536:=λm=>by
  induction m with
  |nil=>intro z;rfl
  |cons a m ih=>
   intro z;rw[eM,eM,show(z%65536+dG G a)%65536=(z+dG G a)%65536 by omega,ih]
 have i:∀(m:List Nat) (z:Int),(∀k∈m,k∈l)->m.foldl (λs k=>s+dG G k) z=m.foldl (λs k=>s+gd G v k) z:=λm=>by
  induction m with
  |nil=>intro z _;rfl
  |cons a m ih=>
   intro z d;have:dG G a=gd G v a:=by
    unfold dG gd;cases hg:G a with
    |none=>rfl
    |some g=>simp only;rw[Wb (h.q a (d a (Xg ..)) g hg)]
   rw[eM,eM,this,ih _ λk b=>d k (Xe _ b)]
 have:=e l c;rw[show c%65536=c by omega]at this;rw[this,i l c λk b=>b,Wxa (f:=gd G v) o j λk b r=>?_];unfold gd;cases hg:G k with
 |none=>rfl
 |some g=>
  simp only;rw[Wa λz=>r (h.p k g hg z)]
end
section
variable{w:Wo}{a b c k:Nat}
def rw'(w:Wo)(k:Nat):Rt:=w.c.getD k rt0
def noW(x:Rt):Int:=if Wn x=x.u then 1 else 0
def cfR(w:Wo)(a b:Nat):Int:=
 if Wn (rw' w a)≠Wn (rw' w b)then Wn (rw' w a) -Wn (rw' w b)else
 if noW (rw' w a)≠noW (rw' w b)then noW (rw' w a) -noW (rw' w b)else
 if(rw' w a).EB≠(rw' w b).EB then(rw' w a).EB-(rw' w b).EB else(a:Int) -b
theorem nW:cfR w a b<0↔(Wn (rw' w a)<Wn (rw' w b)\/Wn (rw' w a)=Wn (rw' w b)/\(noW (rw' w a)<noW (rw' w b)\/noW (rw' w a)=noW (rw' w b)/\((rw' w a).EB<(rw' w b).EB\/(rw' w a).EB=(rw' w b).EB/\a<b))):=by
 unfold cfR;generalize Wn (rw' w a)=s;generalize Wn (rw' w b)=d;generalize noW (rw' w a)=n;generalize noW (rw' w b)=c;split
 .omega
 split
 .omega
 split<;>omega
theorem sB:Lin (cfR w):=⟨λx=>by rw[nW];omega,λx y z=>by simp only[nW];omega,λx y z=>by simp only[nW];omega⟩
theorem apR:Ap (cfR w) a b↔a≠b:=by
 unfold Ap;rw[nW,nW];constructor
 .intro h e;subst e;omega
 .intro h;omega
def slR(w:Wo):List Nat:=(List.range w.c.length).filter λk=>stl (rw' w k)
def rks(w:Wo):List Nat:=(slR w).foldr (λk l=>gA (cfR w) l k) []
theorem Wv2:∀{l:List Nat},l.Nodup->Ris (cfR w) (l.foldr (λk l=>gA (cfR w) l k) [])/\∀k,k∈l.foldr (λk l=>gA (cfR w) l k) []↔k∈l
 | [],_=>⟨List.Pairwise.nil,λk=>Iff.rfl⟩
 |a::l,h=>by
  obtain⟨c,d⟩:=dH.1 h;obtain⟨b,f⟩:=Wv2 d;refine⟨rF sB b,λk=>?_⟩;rw[List.foldr_cons,nF sB b,f k,Xr,apR];refine⟨λz=>z.imp id And.left,λz=>z.imp id λy=>⟨y,λe=>c (by rw[<-e];exact y)⟩⟩
theorem Hk:k∈slR w↔k<w.c.length/\stl (rw' w k)=true:=by
 unfold slR;rw[List.mem_filter,List.mem_range]
theorem m8:Ris (cfR w) (rks w)/\∀k,k∈rks w↔k<w.c.length/\stl (rw' w k)=true:=by
 have:=Wv2 (w:=w) (l:=slR w) (List.nodup_range.filter _);exact⟨this.1,λk=>(this.2 k).trans Hk⟩
theorem JS:(rks w).Nodup:=m8.1.imp λ{a b} h e=>by subst e;exact sB.irr _ h
end
end
section
section
variable{R:Type}{N e:Nat}{a:Ka5 R}{d:Ka4 R}
 {b:Int->Int} {s:Sc} {w:Wo} {G:Nat->Option GE} {k j:Nat} {x y:Rt} {n:Int} {H:List Wr} {T:Tg} {i c v:Int} {l:List Nat}
theorem Wyd(l:(H.map (·.2.1)).Nodup){e}(c:e∈H)(g:e.2.1=(k:Int)+1):ae k H=e.2.2:=by
 unfold ae;cases hf:H.find? (λh=>decide (h.2.1=(k:Int)+1))with
 |none=>
  grind
 |some h=>
  have a:=List.mem_of_find?_eq_some hf;have b:=List.find?_some hf;simp only[Wg]at b;have:h=e:=by
   obtain⟨i,d,rfl⟩:=cN a;obtain⟨j,f,rfl⟩:=cN c
   grind [fh,aP,Nat.lt_trichotomy,absurd]
  rw[this]
theorem Ls(h:ae k H≠ []):∃e∈H,e.2.1=(k:Int)+1/\ae k H=e.2.2:=by
 unfold ae at h|-
 grind
def GCw(w:Wo)(k:Nat):Option GE:=if ae k w.C= []then none else some ⟨Wn (rw' w k),λc=>lst (ae k w.C) c,0⟩
theorem WCX:fv (GCw w) k c=lst (ae k w.C) c:=by
 unfold fv GCw;split
 .rename_i e;rw[e];rfl
 .rfl
theorem ZK:∀(H:List Wr) (r:Int×Int),(H.foldl (cM i v) r=r/\∀h∈H,h.1<=v->pick h.2.2 i≠none->h.1<=r.1)\/∃h∈H,h.1<=v/\pick h.2.2 i=some (H.foldl (cM i v) r).2/\r.1<h.1/\(H.foldl (cM i v) r).1=h.1/\∀b∈H,b.1<=v->pick b.2.2 i≠none->b.1<=h.1
 | [],r=>.inl ⟨rfl,λh c=>by cases c⟩
 |h::H,r=>by
  rw[eM];have k:=ZK H (cM i v r h);rcases Pj (i:=i) (v:=v) (h:=h) r with e|⟨x,d,f,g,j⟩
  .have aO:h.1<=v->pick h.2.2 i≠none->h.1<=r.1:=λa z=>by
    unfold cM at e
    grind
   grind
  grind
structure ZX(N e:Nat)(a:Ka5 R)(d:Ka4 R)(s:Sc)(n:Int)(w:Wo)(G:Nat->Option GE):Prop where
 ga:GA N e a d (λi=>s.1.1.getD i.toNat 0) s w G
 oa:OA (λi=>s.1.1.getD i.toNat 0) s n w
 tt:TT w
 th:ThOk s.1
 n5:n<=99999
theorem kM(a:k<w.c.length):rw' w k=w.c[k]:=Wk a _
theorem WzE(h:ZX N e a d s n w G):KVr (GCw w) (s.1.1.getD i.toNat 0) v i (bst (s.1.1.getD i.toNat 0) i v w.C).2:=by
 have S:=h.oa.hw;unfold bst;rcases ZK (i:=i) (v:=v) w.C (0,s.1.1.getD i.toNat 0)with⟨Q,c⟩|⟨U,l,I,o,J,K,L⟩
 .rw[Q];refine .inl ⟨rfl,λk g j V=>?_⟩;unfold GCw at j;split at j
  .cases j
  .rename_i m;injection j with j;subst j;obtain⟨U,b,x,E⟩:=Ls m;obtain⟨k',t,O,_⟩:=S.J U b;have:k'=k:=Ω
   subst this;have r:=h.ga.hs U b k' t x;simp only at V|-;rw[kM t,<-r]at V;rw[E,<-KW (S.up U b)];refine Classical.byContradiction λz=>?_;have:=c U b V z;have:=(h.oa.mi.st U b).1;omega
 .obtain⟨k,F,b,x⟩:=S.J U l;have f:=Wyd (k:=k) S.nod l b;have r:=h.ga.hs U l k F b;have m:ae k w.C≠ []:=λz=>by
   rw[f]at z;rw[z]at o;cases o
  refine .inr ⟨k,⟨Wn (rw' w k),λc=>lst (ae k w.C) c,0⟩,by unfold GCw;rw[Wa m],?_,?_,λk' P W u B=>?_⟩
  .grind [kM]
  .simp only;rw[f,<-KW (S.up U l)];exact o
  .unfold GCw at W;split at W
   .cases W
   .rename_i oZ;injection W with W;subst W;obtain⟨q,p,C,D⟩:=Ls oZ;obtain⟨A,y,M,_⟩:=S.J q p;have:A=k':=Ω
    subst this;have H:=h.ga.hs q p A y C;simp only at u B|-;rw[kM y,<-H]at u|-;rw[D,<-KW (S.up q p)]at B
    grind [kM]
def OE(w:Wo)(G:Nat->Option GE):Prop:=∀k g,G k=some g->k<w.c.length/\stl (rw' w k)=true/\(rw' w k).u<Wn (rw' w k)/\g.st=Wn (rw' w k)
theorem F6(h:ZX N e a d s n w G):OE w G:=λk g b=>by
 obtain⟨m,c,_⟩:=h.ga.ent b;have f:=(((h.ga.ra k m).fin c).gst)
 grind [kM]
theorem IU(h:ZX N e a d s n w G):OE w (GCw w):=λk g m=>by
 unfold GCw at m;split at m
 .cases m
 .rename_i ar;injection m with m;subst m;obtain⟨p,o,f,i⟩:=Ls ar;obtain⟨c,b,j,q⟩:=h.oa.hw.J p o;have:c=k:=Ω
  subst this;have l:=(((h.ga.ra c b).fin q).gst);rw[kM b];simp_all
theorem Wz2(h:ZX N e a d s n w G){j k:Nat}(b:j<w.c.length)(p:k<w.c.length)(l:stl (rw' w j)=true)(m:stl (rw' w k)=true)(g:(rw' w j).u<Wn (rw' w j))(i:(rw' w k).u<Wn (rw' w k))(q:Wn (rw' w j)=Wn (rw' w k)):j=k:=by
 rw[kM b]at l g q;rw[kM p]at m i q;have f:∀x:Rt,stl x=true->x.u<Wn x->ow x=some (Wn x):=λx o c=>by
  unfold ow;rw[Wa (by grind [WP]),Wb ⟨o,c⟩]
 exact Classical.byContradiction λz=>h.ga.uq j k b p z _ (f _ l g) (by rw[f _ m i,q])
theorem HA(h:ZX N e a d s n w G){F:Nat->Option GE}(u:OE w F):∀j k g b,F j=some g->F k=some b->g.st=b.st->j=k:=λj k g b t c z=>by
 obtain⟨f,i,l,m⟩:=u j g t;obtain⟨o,p,q,r⟩:=u k b c
 grind [Wz2]
def vK(w:Wo)(k:Nat):Int:=if(rw' w k).u<Wn (rw' w k)then Wn (rw' w k) -1 else Wn (rw' w k)
theorem qs(a:j<(rks w).length):(rks w)[j]<w.c.length/\stl (rw' w (rks w)[j])=true:=(m8.2 _).1 (Xm a)
theorem LP(h:ZX N e a d s n w G)(f:k<w.c.length)(b:stl (rw' w k)=true):(rw' w k).u<=Wn (rw' w k)/\Wn (rw' w k)<=w.i.1:=by
 rw[kM f]at b|-;exact h.ga.clk h.oa f b
theorem WzP(h:ZX N e a d s n w G){F:Nat->Option GE}(b:OE w F)(l:j<(rks w).length):UpTo F ((rks w).take j) (vK w (rks w)[j]):=by
 obtain⟨y,z⟩:=qs l;have v:=fh.1 (m8 (w:=w)).1;have B:=LP h y z;have q:∀x:Rt,noW x=if Wn x=x.u then 1 else 0:=λ_=>rfl;refine⟨λk g D I=>?_,λk u g D=>?_,?_⟩
 .obtain⟨f,i,r,t⟩:=b k g D;obtain⟨m,o,E⟩:=cN ((m8.2 k).2 ⟨f,i⟩);by_cases A:m<j
  .grind [HS]
  .exfalso;unfold vK at I;by_cases p:m=j
   .grind
   .have:=v j m l o Ω;rw[E,nW,q,q]at this;omega
 .obtain⟨m,o,E⟩:=HS.1 u;obtain⟨f,i,r,t⟩:=b k g D
  grind [nW,vK,rks,fh,JS,Wn,rw',Wz2]
 .refine(List.Pairwise.imp (λ{C c} wV ga gb ha hb=>?_) (m8 (w:=w)).1).sublist (Xgg _ _);rw[nW]at wV;have:=(b C ga ha).2.2.2;have:=(b c gb hb).2.2.2;omega
theorem YV(h:ZX N e a d s n w G){F:Nat->Option GE}(b:OE w F):UpTo F (rks w) 2000000:=by
 refine⟨λk g o _=>?_,λk j g o=>?_,?_⟩
 .obtain⟨p,f,_⟩:=b k g o;simp_all [m8]
 .obtain⟨p,f,_,i⟩:=b k g o;have:=(LP h p f).2;have:=h.oa.wt.clk;have:=h.oa.ok.j;have:=h.n5;omega
 .refine List.Pairwise.imp (λ{m c} wV ga gb ha hb=>?_) (m8 (w:=w)).1;rw[nW]at wV;have:=(b m ga ha).2.2.2;have:=(b c gb hb).2.2.2;omega
def apl(w:Wo)(G:Nat->Option GE)(T:Tg)(k:Nat):Tg:=(ovl T.1 (ae k w.C),gS (G k) T)
def chn(w:Wo)(G:Nat->Option GE)(l:List Nat)(T:Tg):Tg:=l.foldl (apl w G) T
theorem XG(h:ZX N e a d s n w G):bT (ae k w.C):=by
 by_cases g:ae k w.C= []
 .rw[g];intro r c;cases c
 .obtain⟨x,f,_,b⟩:=Ls g;rw[b];exact(h.oa.ok.histE x f).2.1
theorem R9(b:0<=i/\i<=7){o:Option GE}:(gS o T).1.getD i.toNat 0=((o.bind λg=>g.f i).getD (T.2.1.getD i.toNat 0)):=by
 unfold gS;have a:i.toNat<8:=Ω
 simp only;rw[Wk Ψ,eZ,List.getElem_range,show((i.toNat:Nat):Int)=i by omega];cases o<;>rfl
theorem Wzz(h:ZX N e a d s n w G)(b:ThOk T):ThOk (apl w G T k):=by
 refine⟨lY b.S (XG h),⟨by show(gS (G k) T).1.length=8;simp[gS],λx f=>?_⟩,by show 0<=(gS (G k) T).2/\(gS (G k) T).2<=65535;unfold gS;omega⟩;have f:x∈(gS (G k) T).1:=f;obtain⟨i,m,rfl⟩:=cN f;have l:(gS (G k) T).1.length=8:=by simp[gS]
 have p:=R9 (T:=T) (o:=G k) (i:=(i:Int)) Ω;rw[Xf,Wk m]at p;rw[p];cases hf:(G k).bind λg=>g.f (i:Int)with
 |none=>exact b.key i
 |some z=>
  obtain⟨g,c,j⟩:=WwN (G:=G) (k:=k) (i:=(i:Int)) hf;exact h.ga.rg k g _ z c j
theorem u0(h:ZX N e a d s n w G):∀(l:List Nat) (T:Tg),ThOk T->ThOk (chn w G l T)
 | [],T,hT=>hT
 |k::l,T,hT=>u0 h l _ (Wzz h hT)
theorem QS(h:ZX N e a d s n w G)(f:0<=c/\c<=7):∀(l:List Nat) (T:Tg),ThOk T->(chn w G l T).1.getD c.toNat 0=lw (GCw w) l c (T.1.getD c.toNat 0)
 | [],T,hT=>rfl
 |k::l,T,hT=>by
  have b:=QS h f l (apl w G T k) (Wzz h hT);have g:(apl w G T k).1.getD c.toNat 0=(fv (GCw w) k c).getD (T.1.getD c.toNat 0):=by
   rw[WCX];show(ovl T.1 (ae k w.C)).getD c.toNat 0=_;rw[qj hT.S (XG h) f.1 f.2];cases lst (ae k w.C) c<;>rfl
  rw[g]at b;exact b
theorem Wue(b:0<=i/\i<=7):∀(l:List Nat) (T:Tg),(chn w G l T).2.1.getD i.toNat 0=lw G l i (T.2.1.getD i.toNat 0)
 | [],T=>rfl
 |k::l,T=>by
  have a:=Wue b l (apl w G T k);have e:(apl w G T k).2.1.getD i.toNat 0=(fv G k i).getD (T.2.1.getD i.toNat 0):=R9 b;rw[e]at a;exact a
theorem Wwh:∀(l:List Nat) (T:Tg),(chn w G l T).2.2=l.foldl (λs k=>(s+dG G k)%65536) T.2.2
 | [],T=>rfl
 |k::l,T=>by
  have a:=Wwh l (apl w G T k);have e:(apl w G T k).2.2=(T.2.2+dG G k)%65536:=by
   show(gS (G k) T).2=_;unfold gS dG;rfl
  rw[e]at a;exact a
theorem WzY(h:ZX N e a d s n w G)(f:UpTo G l v)(c:l.Nodup)(b:∀k∈l,k<w.c.length):(∀i,0<=i->i<=7->VA w.c.length s.1 G v i ((chn w G l s.1).2.1.getD i.toNat 0))/\VA w.c.length s.1 G v 8 (chn w G l s.1).2.2:=by
 refine⟨λi g m=>?_,?_⟩
 .unfold VA;rw[Wa Ω,Wue ⟨g,m⟩];exact Ox f
 .unfold VA;rw[Wb rfl,Wwh];exact WB9 f c b h.th.W
theorem WwW(h:ZX N e a d s n w G)(c:j<(rks w).length):FnS N e (s.2.1.getD (rks w)[j] pg0) a d (rw' w (rks w)[j]) (chn w G ((rks w).take j) s.1) (apl w G (chn w G ((rks w).take j) s.1) (rks w)[j]).1 (apl w G (chn w G ((rks w).take j) s.1) (rks w)[j]).2:=by
 obtain⟨D,m⟩:=qs c;have o:=WzP h (F6 h) c;have p:=WzP h (IU h) c;have t:((rks w).take j).Nodup:=(JS (w:=w)).sublist (Xgg _ _);have q:∀k∈(rks w).take j,k<w.c.length:=λk l=>((m8.2 k).1 (lv l)).1;obtain⟨A,B⟩:=WzY h o t q;generalize l:(rks w)[j]=k at*;rw[kM D]at m|-;have E:vK w k=if w.c[k].u<Wn w.c[k]then Wn w.c[k] -1 else Wn w.c[k]:=by unfold vK;rw[kM D]
 have I:=(h.ga.ra k D).fin m;obtain⟨C,v,f,z⟩:=I.sim;have u:=((h.oa.ro k D).Eo (.inr (by grind [WP]))).1;refine z _ (u0 h _ _ h.th) (λr J=>?_) (λi x y b=>?_) λb=>?_
 .have Bg:=I.rd r J;rw[<-E]at Bg;have g:=u r J;have F:=Bg.val;rw[F,QS h ⟨g.1.1,g.1.2⟩ _ _ h.th];exact WzR (a:=(s.1.1,s.1.1,0)) (HA h (IU h)) Ω rfl (Ox p) (WzE h)
 .have:=(f i b).1;rw[<-E]at this;exact Hx (HA h (F6 h)) (A i x y) this
 .have:=(f 8 b).1;rw[<-E]at this;exact Hx (HA h (F6 h)) B this
end
end
section

end
section

end
section
variable{N:Nat}{s t:Sc}{w v:Wo}{a:Ac}{n:Int}{x y:Rt}
theorem Uf:ID N x.e=ret (stl x):=by
 obtain⟨l,A,B,C,D,E,F,m,G,t,s,p,q,n,o,u,v,k,r,w,y,z⟩:=rtP x;unfold ID stl;simp only[Wm,l,m,k,show x.l.e.2.2.1=x.l.g from rfl,WJ,Ws6];have j:∀a b:Int,(a==b)=decide (a=b):=λa b=>by by_cases h:a=b<;>simp[h]
 rw[j];by_cases i:x.g=8
 .rw[Wb i,Wf i];rfl
 .rw[Wa i,Wj i];by_cases c:x.g=6
  .rw[Wb c,Wb c,Wf c,Wj (show¬x.g=5 by omega)];simp
  .rw[Wa c,Wj c];by_cases g:x.g=7
   .rw[Wb g,Wf g,Wj (show¬x.g=5 by omega)];simp
   .rw[Wa g,Wj g];by_cases f:x.g=5
    .rw[Wb f,Wf f];by_cases d:x.l.g=4
     .rw[Wb d,Wf d];simp
     .rw[Wa d,Wj d];simp
    .rw[Wa f,Wj f];simp
theorem WnQ:tn N x.e=ret (Wn x):=by
 unfold tn Wn;rw[Uf];simp only[ret,Xd,WJ,show x.e.1=x.g from rfl];cases stl x with
 |false=>rfl
 |true=>
  simp only[Xu,Wc,gp];split<;>rfl
end
section
variable{N:Nat}{s:Sc}{w:Wo}{n:Int}
theorem O8{v}(e:v≠0)(d:1<=v/\v<=524288):vX N v=some ((),(cE v,((v-1)%65536,()))):=by
 unfold vX;rw[show(v==(0:Int))=false by simpa using e];have b:ah .i64 v 1=v-1:=eh Λ;have c:kc .i64 (v-1) 65536=cE v:=by
  unfold kc cE;rw[HO Ω,HI Λ]
 have a:cj (v-1) 65536=(v-1)%65536:=by exact HM Ω
 simp[Wc,show inz (65536:Int)=true from rfl,We,b,c,a]
theorem Wlc{k}(a:0<=k/\k<=7):MO N k=ret (ec k):=by
 unfold MO FO ec;have b:Ws .i64 (fg .i64 k 7) 3=7*k+3:=by
  rw[Aj Λ,WB Λ];omega
 have c:cj (7*k+3) 4=(7*k+3)%4:=by exact HM Ω
 simp[oN,ret,Xd,Wf a.1,Wf a.2,Bool.and_self,Xu,Wc,show inz (4:Int)=true from rfl,We,b,c]
theorem Um{l}(h:SlOk l)(G:1048576<N):Cc N l=ret true:=by
 have z:=h.len;have C:∀(d j n:Nat) (s:List Bool),j+d=16->d<n->s.length=8->(∀c:Nat,s.getD c false=true->∃i,∃g:i<l.length,i<j/\l[i]≠0/\cE l[i]=c)->
   yC N l (some ((),(false,()))) (λH E F=>(some ((),(true,())))) n (j:Int) s=ret true:=by
  intro d
  induction d with
  |zero=>
   intro j n s x A _ _;obtain⟨n,rfl⟩:∃q,n=q+1:=⟨n-1,Ω⟩;have:j=l.length:=Ω
   subst this;simp[yC,W0 (Xj _),Wc]
  |succ d ih=>
   intro j n s x A a p;obtain⟨n,rfl⟩:∃q,n=q+1:=⟨n-1,Ω⟩;have b:j<l.length:=Ω
   simp only[yC,WM b,Wp b,Wu b,Wl (j:=j),We,oN,ret,Xd];by_cases e:l[j]=0
   .have e1:vX N l[j]=some ((),((-1:Int),((0:Int),()))):=by rw[e];rfl
    have o:(decide ((0:Int)<=l[j])&&decide (l[j]<=524288))=true:=by rw[e];rfl
    rw[e1,o];simp only[Xd,Xu,Wc,show decide ((-1:Int)<0)=true from rfl,We];exact ih (j+1) n s Ω Ω a λc I=>by
     obtain⟨i,g,f,k,m⟩:=p c I;exact⟨i,g,Ω,k,m⟩
   .have hv:=h.val b e;have y:=WsJ hv;have D:ec (cE l[j])=((j/4:Nat):Int):=by
     rcases h.I j b with f|f
     .exact Wh f e
     .exact f.2
    have B:kc .i64 (j:Int) 4=((j/4:Nat):Int):=by
     unfold kc;rw[HO Ω,HI Λ];omega
    have r:s.getD (Xb (cE l[j])) false=false:=by
     rw[nn];intro I;obtain⟨i,g,f,k,m⟩:=p _ I;exact h.one i j g b f k e Ω
    have o:(decide ((0:Int)<=l[j])&&decide (l[j]<=524288))=true:=Φ
    have t:decide (cE l[j]<(0:Int))=false:=Wj Ω;have u:inb (cE l[j]) s.length=true:=by unfold inb;simp;omega
    rw[O8 e hv,o];simp only[Xd,Xu,Wc,t,u,We,r,Wlc y,ret,D,B,bne_self_eq_false,show inz (4:Int)=true from rfl];refine ih (j+1) n _ Ω Ω (by simpa using a) λc I=>?_;by_cases w:c=(cE l[j]).toNat
    .exact⟨j,b,Ω,e,Ω⟩
    .have:s.getD c false=true:=by
      rw[Xs,ly Ω,<-Xs]at I;exact I
     obtain⟨i,g,f,k,m⟩:=p c this;exact⟨i,g,Ω,k,m⟩
 unfold Cc;rw[show((Wi l) !=(16:Int))=false by unfold Wi;rw[z];rfl];refine C 16 0 N _ Ω Ω Δ λc I=>?_;rw[Xs]at I;by_cases v:c<8
 .rw[List.getElem?_replicate,Wb (show c<Xb 8 from v)]at I;simp at I
 .rw[List.getElem?_eq_none Φ]at I;simp at I
end
end Go.Sx
