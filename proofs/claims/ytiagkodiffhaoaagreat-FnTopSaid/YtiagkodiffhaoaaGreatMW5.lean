/- Plain laws of the Lean functions. -/
import Derived.Test.YtiagkodiffhaoaaGreatMW4
open List renaming getElem?_take_of_lt->Xgs,getD_eq_getElem?_getD->Xs,length->Xa,length_map->aP,map_append->Xw,map_cons->bo,map_nil->d6,take_length->jz,drop_length->p6,length_dropLast->yg,drop_append_of_le_length->HT,mem_append->Xo,mem_singleton->dq,pairwise_append->dZ,take_take->Ea,mem_of_mem_take->lv,take_of_length_le->nm,mem_cons_of_mem->Xe,mem_cons_self->Xg,pairwise_iff_getElem->fh,getElem_mem->Xm,getElem_of_mem->cN,getElem?_eq_getElem->Xq,getElem?_set_self->yf,getElem?_set_ne->ly,getElem?_eq_none->sG,mem_map->Xy,mem_filter->fc,mem_append_left->Xn,mem_append_right->Xk,mem_iff_getElem->q8,mem_cons->Xr,eq_nil_of_length_eq_zero->eY,dropLast_subset->Ss,getElem_map->eZ,getElem_range->HP,dropLast_eq_take->yj,length_append->bX
open Nat renaming lt_succ_self->nq,min_eq_left->jB,le_refl->Xj,zero_add->d4,sub_zero->vu
open Int renaming toNat_natCast->Xf,le_refl->Xt
open Bool renaming and_eq_true->Xl
namespace Go.Sx
set_option linter.unusedVariables false
set_option linter.unusedSimpArgs false
section
section
variable{R:Type}{N Q:Nat}{p:Pg}{T:Tg}{c:Ka6 R}{m:Ka4 R}
 {w v:Wo} {x y:Rt} {n:Int} {l:List Int} {S b:List Int×Int} {k i j:Nat} {u:Un}
def AtS(N Q:Nat)(p:Pg)(T:Tg)(c:Ka6 R)(m:Ka4 R)(x:Rt)(S:List Int×Int):Prop:=
 ∃a:Bool,OF p a x/\(a=true->frk p.1 x.k.toNat=1)/\∃S0,(S0=S\/(x.g=1/\(opN p.1 x.k).1=10/\x.m≠ []))/\∀l,(a=true->l=x.B)->WAt N Q p T c m l x.k x.t S0 (x.m.map (cm7 T.1 x.A x.y S)) (ovl T.1 x.A)
def At0(N Q:Nat)(p:Pg)(T:Tg)(c:Ka6 R)(m:Ka4 R)(x:Rt)(S:List Int×Int):Prop:=
 ∃a:Bool,OF p a x/\(a=true->frk p.1 x.k.toNat=1)/\∀l,(a=true->l=x.B)->WAt N Q p T c m l x.k x.t S (x.m.map (cm7 T.1 x.A x.y S)) (ovl T.1 x.A)
theorem At0.s(h:At0 N Q p T c m x S):AtS N Q p T c m x S:=by
 obtain⟨a,o,d,b⟩:=h;exact⟨a,o,d,S,.inl rfl,b⟩
def MkA(N Q:Nat)(p:Pg)(T:Tg)(c:Ka6 R)(m:Ka4 R)(x:Rt)(S:List Int×Int)(j:Nat):Prop:=
 ∃a:Bool,OF p a x/\(a=true->frk p.1 ((x.m.getD j zRM).1+1).toNat=1)/\∀l,(a=true->l=x.B)->WAt N Q p T c m l ((x.m.getD j zRM).1+1) (x.m.getD j zRM).2.2.2.2 (la S (x.y.drop (x.m.getD j zRM).2.2.2.1.toNat)) ((x.m.take (j+1)).map (cm7 T.1 x.A x.y S)) (ovl T.1 (x.A.take (x.m.getD j zRM).2.2.1.toNat))
theorem Dy{e:List RM}{d ws'}{a us'}(g:∀q∈e,ws'.take q.2.2.1.toNat=d.take q.2.2.1.toNat)(c:∀q∈e,la b (us'.drop q.2.2.2.1.toNat)=la S (a.drop q.2.2.2.1.toNat)):e.map (cm7 T.1 ws' us' b)=e.map (cm7 T.1 d a S):=
 List.map_congr_left λq f=>by unfold cm7;rw[g q f,c q f]
theorem OF.eq{fk}(h:OF p fk x)(e:y.B=x.B):OF p fk y:=⟨λz=>e.trans (h.no z),λz=>by rw[e];exact h.yes z⟩
theorem AtS.same(h:AtS N Q p T c m x S)(b:y.B=x.B)(q:y.k=x.k)(d:y.g=x.g)(e:y.t=x.t)(f:y.m=x.m)(g:y.A=x.A)(i:y.y=x.y):AtS N Q p T c m y S:=by
 obtain⟨a,o,r,S0,k,j⟩:=h;refine⟨a,o.eq b,Ψ,S0,Ψ,λl n=>?_⟩;simp_all
theorem MkA.keep(h:MkA N Q p T c m x S j)(d:y.B=x.B)(s:y.m.take (j+1)=x.m.take (j+1))(z:j<x.m.length)(e:j<y.m.length)(r:∀q∈x.m.take (j+1),y.A.take q.2.2.1.toNat=x.A.take q.2.2.1.toNat)(n:∀q∈x.m.take (j+1),la b (y.y.drop q.2.2.2.1.toNat)=la S (x.y.drop q.2.2.2.1.toNat)):MkA N Q p T c m y b j:=by
 obtain⟨a,o,i,g⟩:=h;have k:y.m.getD j zRM=x.m.getD j zRM:=by
  have:=Wq (λl:List RM=>l[j]?) s;simp only[Xgs (nq j)]at this;rw[Xs,Xs,this]
 have f:x.m.getD j zRM∈x.m.take (j+1):=by
  rw[Wk z];exact List.mem_take_iff_getElem.2 ⟨j,Ω,rfl⟩
 refine⟨a,o.eq d,Ψ,λl t=>?_⟩
 grind [Dy]
theorem Ua(c:POk p){a b:Int}(h:frk p.1 a.toNat=1)(d:a<=b)(e:b<=p.1.length):frk p.1 b.toNat=1:=by
 have:=GP p.1 (Ω:a.toNat<=b.toNat);have:=rS c.Y b.toNat Ω;omega
structure SP(p:Pg)(x y:Rt):Prop where
 ph:y.g=1
 od:y.B=x.B
 k:x.k<y.k/\y.k<=p.1.length
theorem AH(j:1048576<N)(t:POk p)(h:AtS N Q p T c m x S)(C:x.k=(i:Int))(bW)(D:SP p x y)(A:p.1[i].1≠10)
  (a:∀l n,wA N Q p T c m l (n+1) (i:Int) x.t S (x.m.map (cm7 T.1 x.A x.y S)) (ovl T.1 x.A)=wA N Q p T c m l n y.k y.t b (y.m.map (cm7 T.1 y.A y.y b)) (ovl T.1 y.A)):At0 N Q p T c m y b:=by
 obtain⟨f,o,k,S0,r,g⟩:=h;have q:=t.Y.len;have s:opN p.1 x.k=p.1[i]:=by grind [uQ]
 have B:S0=S:=by
  simp_all
 subst B;have d:=D.k;refine⟨f,o.eq D.od,λz=>Ua t (k z) Ω d.2,λl e=>?_⟩;have:=g l λz=>by rw[<-D.od];exact e z
 rw[C]at this;exact this.on j Ω Ω (a l)
theorem RLive.upd(a:RLive p n x):∀q∈x.m,(q.2.1.toNat<=x.o.length/\q.2.2.1.toNat<=x.A.length/\q.2.2.2.1.toNat<=x.y.length)/\0<=q.2.1/\0<=q.2.2.1/\0<=q.2.2.2.1:=λq b=>by
 obtain⟨c,d,e,f⟩:=a.m.I q b;omega
theorem RLive.wl3(a:RLive p n x)(b:POk p):x.A.length<=300:=by
 have:=a.wl;have:=a.k;have:=b.Y.len;omega
theorem WA6(e:1048576<N)(t:POk p)(f:ThOk T)(h:AtS N Q p T c m x S)(b:RLive p n x)(z:x.k=(i:Int))(bW)(d:p.1[i].1=5)(a:y.g=1)(o:y.B=x.B)(s:y.k=x.k+1)(k:y.A=x.A)(g:y.m=x.m)(j:y.y=x.y)(A:y.t=gh x.t p.1[i].2.1 ((ovl T.1 x.A).getD p.1[i].2.2.1.toNat 0)):At0 N Q p T c m y S:=by
 obtain⟨q,_⟩:=t.Y.ok i bW;refine AH e t h z bW ⟨a,o,Ω⟩ Ω λl n=>?_;have:=ws5 (N:=N) (Q:=Ze N (Q+1)) (S:=p.2) (U:=l) (X:=T.2.2) (Z:=T.1) (V:=T.2.1) (W:=c) (O:=m) (n:=n) (r:=x.t) (c:=ovl T.1 x.A) (m:=S.1) (Y:=S.2) (mk:=x.m.map (cm7 T.1 x.A x.y S)) bW t.Y.len d q b.t.len (lY f.S b.A).len;rw[g,k,j,A,s,show x.k+1=((i+1:Nat):Int) by omega];exact this
theorem WyY(d:RLive p n x)(c:x.g=1)(a:x.k=(i:Int))(bW)(e:p.1[i].1≠5/\p.1[i].1≠10/\p.1[i].1<11):(am w x k p).1=w/\(am w x k p).2.H=x.H/\(am w x k p).2.g=1/\(am w x k p).2.o=x.o/\(am w x k p).2.y=x.y/\(am w x k p).2.B=x.B/\(∀m,m<=x.A.length->(am w x k p).2.A.take m=x.A.take m)/\((am w x k p).2.m=x.m\/(am w x k p).2.m=x.m.dropLast\/(am w x k p).2.m=x.m++ [(x.k,(x.o.length:Int),(x.A.length:Int),(x.y.length:Int),x.t)]/\(am w x k p).2.t=x.t/\(am w x k p).2.A=x.A/\(am w x k p).2.k=x.k+1):=by
 have b:opN p.1 x.k=p.1[i]:=by grind [uQ]
 unfold am;rw[Wa Ω];simp only[b];rw[Wa e.1,Wa e.2.1,Wa Ω,Wa Ω];split
 .grind
 split
 .simp_all
 split
 .simp_all
 grind
theorem WxN(f:1048576<N)(a:POk p)(I:ThOk T)(H:SV S)(h:AtS N Q p T c m x S)(b:RLive p n x)(e:x.g=1)(r:x.k=(i:Int))(bW)(d:p.1[i].1≠5/\p.1[i].1≠10/\p.1[i].1<11):At0 N Q p T c m (am w x k p).2 S:=by
 obtain⟨t,L,mn⟩:=a.Y.ok i bW;have g:=a.Y.len;have K:opN p.1 x.k=p.1[i]:=by grind [uQ]
 have upd:=b.upd;have E:=lY I.S b.A;have Z:x.m.length<=24:=by
  have u:=Wq Xa b.m.Z;simp only[aP]at u;have A:=gZ a.Y.up x.k.toNat Ω;have:=jR p.1 x.k.toNat;omega
 have s:x.k+1=((i+1:Nat):Int):=Ω
 unfold am;rw[Wa Ω];simp only[K];rw[Wa d.1,Wa d.2.1,Wa Ω,Wa Ω];by_cases v:p.1[i].1=6
 .rw[Wb v];refine AH f a h r bW ⟨e,rfl,Θ⟩ d.2.1 λl n=>?_;have:=ws6 (N:=N) (Q:=Ze N (Q+1)) (S:=p.2) (U:=l) (X:=T.2.2) (Z:=T.1) (V:=T.2.1) (W:=c) (O:=m) (n:=n) (r:=x.t) (c:=ovl T.1 x.A) (m:=S.1) (Y:=S.2) (mk:=x.m.map (cm7 T.1 x.A x.y S)) bW g v t b.t.len E.len;show wk _ _ _ _ _ _ _ _ _ _ _ _ _ _ _ _ _=wk _ _ _ _ _ _ _ _ _ _ _ (x.k+1) _ _ (x.m.map (cm7 T.1 (x.A++ [(p.1[i].2.1,ac x.t p.1[i].2.2.1 0)]) x.y S)) (ovl T.1 (x.A++ [(p.1[i].2.1,ac x.t p.1[i].2.2.1 0)])) _;rw[Dy (S:=S) (a:=x.y) (d:=x.A) (λq J=>QO (upd q J).1.2.1) λ_ _=>rfl,Qh,this,s];rfl
 rw[Wa v];by_cases o:p.1[i].1=7
 .rw[Wb o];obtain⟨s1,s2⟩:=a.Y.sk i bW o;obtain⟨k1,k2,k3⟩:=pM t o;refine AH f a h r bW ⟨e,rfl,?_⟩ d.2.1 λl n=>?_
  .show x.k<(if ac x.t p.1[i].2.1 0=0 then x.k+p.1[i].2.2.1 else x.k)+1/\(if ac x.t p.1[i].2.1 0=0 then x.k+p.1[i].2.2.1 else x.k)+1<=_;split<;>omega
  have:=ws7 (N:=N) (Q:=Ze N (Q+1)) (S:=p.2) (U:=l) (X:=T.2.2) (Z:=T.1) (V:=T.2.1) (W:=c) (O:=m) (n:=n) (r:=x.t) (c:=ovl T.1 x.A) (m:=S.1) (Y:=S.2) (mk:=x.m.map (cm7 T.1 x.A x.y S)) bW g o t b.t.len;show wk _ _ _ _ _ _ _ _ _ _ _ _ _ _ _ _ _=wk _ _ _ _ _ _ _ _ _ _ _ ((if ac x.t p.1[i].2.1 0=0 then x.k+p.1[i].2.2.1 else x.k)+1) _ _ _ _ _;rw[this,r];rfl
 rw[Wa o];by_cases y:p.1[i].1=8
 .rw[Wb y];refine AH f a h r bW ⟨e,rfl,Θ⟩ d.2.1 λl n=>?_;have:=ws8 (N:=N) (Q:=Ze N (Q+1)) (S:=p.2) (U:=l) (X:=T.2.2) (Z:=T.1) (V:=T.2.1) (W:=c) (O:=m) (n:=n) (r:=x.t) (c:=ovl T.1 x.A) (m:=S.1) (Y:=S.2) (mk:=x.m.map (cm7 T.1 x.A x.y S)) bW g y b.t.len E.len H.len Θ;show wk _ _ _ _ _ _ _ _ _ _ _ _ _ _ _ _ _=wk _ _ _ _ _ _ _ _ _ _ _ (x.k+1) _ _ ((x.m++ [(x.k,(x.o.length:Int),(x.A.length:Int),(x.y.length:Int),x.t)]).map (cm7 T.1 x.A x.y S)) _ _;rw[this,Xw,bo,d6,s];have G:cm7 T.1 x.A x.y S (x.k,(x.o.length:Int),(x.A.length:Int),(x.y.length:Int),x.t)=((i:Int),(x.t,(ovl T.1 x.A,S))):=by
   unfold cm7;simp only[Xf,jz,p6];rw[r];rfl
  rw[G]
 rw[Wa y];by_cases z:p.1[i].1=9
 .rw[Wb z];have B:=b.m;rw[r,Xf]at B;have D:x.m.length≠0:=λD=>by
   have e:=Wq Xa B.Z;have X:=gZ a.Y.up i Ω;have Y:=a.Y.up i bW
   grind [iw,u2]
  obtain⟨j,q,u,A,⟨C,O⟩,qa0,R,U,V,F,W,_⟩:=b.mk24 a.Y D;have P:x.last.1.toNat=j:=Ω
  have M:opN p.1 x.last.1=p.1[j]:=by grind [opN,Wk]
  refine AH f a h r bW ⟨e,rfl,Θ⟩ d.2.1 λl n=>?_;have:=ws9 (N:=N) (Q:=Ze N (Q+1)) (S:=p.2) (U:=l) (X:=T.2.2) (Z:=T.1) (V:=T.2.1) (W:=c) (O:=m) (n:=n) (r:=x.t) (c:=ovl T.1 x.A) (m:=S.1) (Y:=S.2) (q:=q.map (cm7 T.1 x.A x.y S)) (x:=cm7 T.1 x.A x.y S x.last) bW g z C O (a.Y.ok j C).1 A b.t.len Θ;show wk _ _ _ _ _ _ _ _ _ _ _ _ _ _ (x.m.map _) _ _=wk _ _ _ _ _ _ _ _ _ _ _ (x.k+1) (gh x.t (opN p.1 x.last.1).2.1 1) _ (x.m.dropLast.map _) _ _;rw[F,M,s]
  conv=>lhs;rw[u,Xw,bo,d6]
  rw[this];rfl
 .rw[Wa z];refine AH f a h r bW ⟨e,rfl,Θ⟩ d.2.1 λl n=>?_;have:=wsC (N:=N) (Q:=Ze N (Q+1)) (S:=p.2) (U:=l) (X:=T.2.2) (Z:=T.1) (V:=T.2.1) (W:=c) (O:=m) (n:=n) (r:=x.t) (c:=ovl T.1 x.A) (m:=S.1) (Y:=S.2) (mk:=x.m.map (cm7 T.1 x.A x.y S)) f bW g ⟨L,Ω⟩ t b.t;show wk _ _ _ _ _ _ _ _ _ _ _ _ _ _ _ _ _=wk _ _ _ _ _ _ _ _ _ _ _ (x.k+1) _ _ _ _ _;rw[this,s]
theorem X9{a}{m}(c:m<a.length)(d:a=a.dropLast++ [u]):la (jj S u) (a.dropLast.drop m)=la S (a.drop m):=by
 have b:a.dropLast.length=a.length-1:=yg
 conv=>rhs;rw[d]
 rw[HT Ω,XX]
theorem WA1(h:AtS N Q p T c m x S)(d:x.g=1)(k:(opN p.1 x.k).1=10)(a:x.m≠ [])(g:∀q∈x.m,q.2.2.2.1.toNat<x.y.length)(j:x.y=x.y.dropLast++ [u]):AtS N Q p T c m {x with y:=x.y.dropLast} (jj S u):=by
 obtain⟨r,o,f,S0,s,e⟩:=h;refine⟨r,⟨o.no,o.yes⟩,f,S0,.inr ⟨d,k,a⟩,λl b=>?_⟩;have:=e l b;rw[Dy (S:=S) (a:=x.y) (d:=x.A) (λ_ _=>rfl) λq i=>X9 (g q i) j];exact this
theorem WBa(t:1048576<N)(e:POk p)(J:ThOk T)(H:SV S)(h:AtS N Q p T c m x S)(f:RLive p n x)(h1:x.g=1)(hi:x.k=(i:Int))(bW)(B:p.1[i].1=10)(M:x.m.length≠0)(hu:¬(x.y.length:Int)>x.last.2.2.2.1):
  At0 N Q p T c m {x with m:=x.m.dropLast,t:=gh x.last.2.2.2.2 (opN p.1 x.last.1).2.1 0,A:=x.A.take x.last.2.2.1.toNat,k:=kR p.1 x.last.1.toNat+1} S:=by
 obtain⟨j,q,b,k,⟨u,P⟩,R,s,U,V,D,E,⟨W,X,Y⟩,⟨Z,g2,g3⟩,k1,k2,k3⟩:=f.mk24 e.Y M;have C:=e.Y.len;have jH:x.m.length<=24:=by
  have b:=Wq Xa f.m.Z;simp only[aP]at b;have k:=gZ e.Y.up x.k.toNat Ω;have:=jR p.1 x.k.toNat;omega
 have v:=f.m.up;rw[b]at v;have qa0:∀z∈x.m,z.2.2.1<=x.last.2.2.1/\z.2.2.2.1<=x.last.2.2.2.1:=λz g=>by
  rw[b,Xo,dq]at g;rcases g with g|rfl
  .exact((dZ.1 v).2.2 z g _ (dq.2 rfl)).2
  .omega
 obtain⟨F,o,K,S0,I,G⟩:=h;have L:=s.len;have w:x.last.2.2.2.1.toNat=x.y.length:=Ω
 have a:cm7 T.1 x.A x.y S x.last=(x.last.1,(x.last.2.2.2.2,(ovl T.1 (x.A.take x.last.2.2.1.toNat),S))):=by
  unfold cm7;rw[w,p6];rfl
 have A:x.last.1.toNat=j:=Ω
 refine⟨F,⟨o.no,o.yes⟩,λz=>Ua e (K z) Θ Θ,λl y=>?_⟩;have d:=G l y;have O:opN p.1 x.last.1=p.1[j]:=by grind [opN,Wk]
 show WAt N Q p T c m l ((kR p.1 x.last.1.toNat:Int)+1) (gh x.last.2.2.2.2 (opN p.1 x.last.1).2.1 0) S (x.m.dropLast.map (cm7 T.1 (x.A.take x.last.2.2.1.toNat) x.y S)) (ovl T.1 (x.A.take x.last.2.2.1.toNat));rw[A,O,D,Dy (d:=x.A) (a:=x.y) (S:=S) (λq' mg=>by rw[Ea,jB Θ]) λ_ _=>rfl];rw[hi]at d;refine d.on t Ω Ω λn=>?_;have:=TI (N:=N) (Q:=Ze N (Q+1)) (S:=p.2) (U:=l) (X:=T.2.2) (Z:=T.1) (V:=T.2.1) (W:=c) (O:=m) (n:=n) (r:=x.t) (c:=ovl T.1 x.A) (m:=S0.1) (Y:=S0.2) (q:=q.map (cm7 T.1 x.A x.y S)) (x:=cm7 T.1 x.A x.y S x.last) t bW C B u P (e.Y.ok j u).1 s k E.len (lY J.S (λr hr=>f.A r (lv hr))).len (by rw[a];exact H.len) Θ;rw[a]at this
 conv=>lhs;rw[b,Xw,bo,d6,a]
 show wk _ _ _ _ _ _ _ _ _ _ _ _ _ _ _ _ _=wk _ _ _ _ _ _ _ _ _ _ _ _ _ _ _ _ _;rw[this,show((kR p.1 j:Nat):Int)+1=((kR p.1 j+1:Nat):Int) by omega];rfl
theorem VU{a}{o}{r}(d:SV S)(q:Vals 4 r)(e:aj o=true)(c:12<=o.1){m}(g:m<=a.length):la (dV S o r).1 ((if(dV S o r).2.2.1=0 then a else a++ [(dV S o r).2.2]).drop m)=la S (a.drop m):=by
 obtain⟨b,f⟩:=Wxe d q e c;by_cases h:(dV S o r).2.2.1=0
 .rw[Wb h,b h]
 simp_all [Wa,HT,XX]
theorem Wyu(j:1048576<N)(b:POk p)(o:ThOk T)(e:SV S)(h:AtS N Q p T c m x S)(r:RLive p n x)(g:x.g=1)(a:x.k=(i:Int))(bW)(d:12<=p.1[i].1):At0 N Q p T c m {x with t:=(dV S p.1[i] x.t).2.1,y:=if(dV S p.1[i] x.t).2.2.1=0 then x.y else x.y++ [(dV S p.1[i] x.t).2.2],k:=x.k+1} (dV S p.1[i] x.t).1:=by
 obtain⟨f,_⟩:=b.Y.ok i bW;refine AH j b h a bW ⟨g,rfl,Θ⟩ Ω λl n=>?_;have:=Ww8 (N:=N) (f:=Ze N (Q+1)) (g:=p.2) (h:=l) (j:=T.2.2) (k:=T.1) (i:=T.2.1) (a:=c) (b:=m) (n:=n) (c:=ovl T.1 x.A) (mk:=x.m.map (cm7 T.1 x.A x.y S)) bW b.Y.len d f r.t e;show wk _ _ _ _ _ _ _ _ _ _ _ _ _ _ _ _ _=wk _ _ _ _ _ _ _ _ _ _ _ (x.k+1) _ _ (x.m.map (cm7 T.1 x.A (if(dV S p.1[i] x.t).2.2.1=0 then x.y else x.y++ [(dV S p.1[i] x.t).2.2]) (dV S p.1[i] x.t).1)) _ _;rw[Dy (S:=S) (a:=x.y) (d:=x.A) (λ_ _=>rfl) λq k=>VU e r.t f d (r.upd q k).1.2.2,this,show x.k+1=((i+1:Nat):Int) by omega]
theorem WC6(h:MkA N Q p T c m x S j)(r:x.m.length=j+1)(i:x.m.getD j zRM=x.last)(k:x.y.length<=x.last.2.2.2.1.toNat)(n:∀z∈x.m,z.2.2.1<=x.last.2.2.1)(g:y.B=x.B)(b:y.k=x.last.1+1)(a:y.t=x.last.2.2.2.2)(f:y.m=x.m)(B:y.A=x.A.take x.last.2.2.1.toNat)(A:y.y=x.y):At0 N Q p T c m y S:=by
 obtain⟨d,o,e,C⟩:=h;rw[i]at e C;refine⟨d,o.eq g,Ψ,λl q=>?_⟩;have:=C l λz=>Ψ
 rw[List.drop_eq_nil_of_le k,nm Ω]at this;rw[b,a,f,B,A,Dy (d:=x.A) (a:=x.y) (S:=S) (λt s=>by rw[Ea,jB Θ]) λ_ _=>rfl];exact this
theorem WC0(h:At0 N Q p T c m x S){q:RM}(s:x.m=x.m.dropLast++ [q])(k:x.m.length=j+1)(r:x.k=q.1+1)(g:q.2.2.1=x.A.length)(f:q.2.2.2.1=x.y.length)(a:q.2.2.2.2=x.t):MkA N Q p T c m x S j:=by
 obtain⟨b,o,i,d⟩:=h;have e:x.m.getD j zRM=q:=by
  grind
 refine⟨b,o,Θ,λl t=>?_⟩;rw[e,g,f,a,<-r,Xf,Xf,p6,jz,nm Ω];exact d l t
end
end
section
def pick(l:List Rw)(i:Int):Option Int:=(l.find? λr=>decide (r.1=i)).map (·.2)
def cM(i v:Int)(r:Int×Int)(h:Wr):Int×Int:=match pick h.2.2 i with
 |some x=>if h.1<=v/\r.1<h.1 then(h.1,x)else r
 |none=>r
def bst(b i v:Int)(H:List Wr):Int×Int:=H.foldl (cM i v) (0,b)
def top(b i:Int)(H:List Wr):Int×Int:=bst b i 2000000 H
section
variable{b i v a:Int}{H:List Wr}{h:Wr}{l:List Rw}
theorem Lu:bst b i v (H++ [h])=cM i v (bst b i v H) h:=by simp[bst,List.foldl_append]
theorem Pj(r):cM i v r h=r\/(∃x,pick h.2.2 i=some x/\h.1<=v/\r.1<h.1/\cM i v r h=(h.1,x)):=by
 unfold cM
 grind
theorem WBI(c:0<=v):0<=(bst b i v H).1/\(bst b i v H).1<=v/\((bst b i v H).1=0\/∃h∈H,h.1=(bst b i v H).1):=by
 have a:∀(l:List Wr) (r:Int×Int),0<=r.1->r.1<=v->0<=(l.foldl (cM i v) r).1/\(l.foldl (cM i v) r).1<=v/\((l.foldl (cM i v) r).1=r.1\/∃h∈l,h.1=(l.foldl (cM i v) r).1):=by
  intro l
  induction l with
  |nil=>simp_all
  |cons h l ih=>
   grind [Pj,Xe,Xg]
 exact a H (0,b) (Xt _) c
theorem G3(f:v<=a):∀(H),(bst b i a H).1<=v->bst b i v H=bst b i a H:=by
 have c:∀(l:List Wr) (r r':Int×Int),(r.1<=r'.1)->(r'.1<=v->r=r')->(l.foldl (cM i a) r').1<=v->l.foldl (cM i v) r=l.foldl (cM i a) r':=by
  intro l
  induction l with
  |nil=>simp_all
  |cons h l ih=>
   intro r r' d e g;refine ih _ _ ?_ ?_ g
   .grind [cM,pick]
   .unfold cM
    grind
 intro H g;exact c H (0,b) (0,b) (Xt _) (λ_=>rfl) g
theorem GO{x}(h:pick l i=some x):(i,x)∈l:=by
 unfold pick at h;cases hf:l.find? λr=>decide (r.1=i)with
 |none=>simp_all
 |some r=>
  grind
structure CmR(c:Cm):Prop where
 Eo:bT c.w
 pup:c.w.Pairwise λa b=>a.1<b.1
theorem CmOk.r{c}(h:CmOk c):CmR c:=⟨h.Eo,h.pup⟩
theorem CmR.inj{c}(h:CmR c){a b}(ha)(d:b<c.w.length)(e:c.w[a].1=c.w[b].1):a=b:=by
 have f:=fh.1 h.pup
 grind
theorem WAr{c}(h:CmR c){j}(a:j<c.w.length):pick c.w c.w[j].1=some c.w[j].2:=by
 cases hp:pick c.w c.w[j].1 with
 |none=>
  grind [pick,Option.map_eq_none_iff,List.find?_eq_none,absurd,Xm]
 |some x=>
  obtain⟨l,b,e⟩:=cN (GO hp);have:=h.inj b a (by rw[e]);subst this;rw[e]
end
structure MI(b:Int->Int)(m:Mm)(H:List Wr)(C:Nat->Option Cm):Prop where
 st:∀h∈H,1<=h.1/\h.1<=m.1
 fr:∀k c,C k=some c->c.g=3->1<=c.F/\c.F<=m.1/\∀h∈H,h.1≠c.F
 fr2:∀k k' c a,k≠k'->C k=some c->C k'=some a->c.g=3->a.g=3->c.F≠a.F
 cell:∀i,0<=i->i<=7->(∀k c,C k=some c->c.g=4\/c.g=5->¬lkd c i)->(Wy m i).1=(top (b i) i H).2/\(Wy m i).2.1=(top (b i) i H).1
 sto:∀k c,C k=some c->c.g=4\/c.g=5->∀(j:Nat) (hj:j<c.w.length),lkA c j->top (b c.w[j].1) c.w[j].1 H=(c.F,c.w[j].2)/\(Wy m c.w[j].1).2.1<c.F/\(c.g=5\/(j:Int)<c.pos->(Wy m c.w[j].1).1=c.w[j].2)
def CL2(m:Mm)(C:Nat->Option Cm):Prop:=∀k c,C k=some c->CmR c/\c.J=(k:Int)+1/\CmLk m c
structure RC(b:Int->Int)(m:Mm)(H:List Wr)(C:Nat->Option Cm)(v i x:Int):Prop where
 val:x=(bst (b i) i v H).2
 clk:v<=m.1
 no:∀k c,C k=some c->c.g=3->c.F<=v->pick c.w i=none
def c7(C:Nat->Option Cm)(k:Nat)(o:Option Cm):Nat->Option Cm:=λj=>if j=k then o else C j
section
variable{b:Int->Int}{m a:Mm}{H:List Wr}{C:Nat->Option Cm}{k:Nat}{c Z:Cm}{o:Option Cm}{v i x:Int}
theorem eL:c7 C k o k=o:=Wb rfl
theorem W8{j}(h:j≠k):c7 C k o j=C j:=Wa h
theorem MI.k1(h:MI b m H C)(F:∀c,C k=some c->c.g≠4/\c.g≠5)(G:∀Z,o=some Z->Z.g≠3/\Z.g≠4/\Z.g≠5)
  (u:a.1=m.1) (x:∀i,0<=i->i<=7->(Wy a i).1=(Wy m i).1/\(Wy a i).2.1=(Wy m i).2.1) (J:∀k c,C k=some c->CmR c):MI b a H (c7 C k o):=by
 have I:∀j d,c7 C k o j=some d->d.g=3\/d.g=4\/d.g=5->j≠k/\C j=some d:=λj d e n=>by
  grind [eL,W8]
 refine⟨λg D=>by rw[u];exact h.st g D,λj d e f=>?_,λj y d r z e A f s=>?_,λi t v E=>?_,λj d e n l w B=>?_⟩
 .rw[u];exact h.fr j d (I j d e (.inl f)).2 f
 .exact h.fr2 j y d r z (I j d e (.inl f)).2 (I y r A (.inl s)).2 f s
 .obtain⟨p,q⟩:=x i t v;rw[p,q];refine h.cell i t v λj d e n=>?_
  grind [W8]
 .have hk:=(I j d e (.inr n)).2;have ae:=(J j d hk).Eo _ (Xm w);obtain⟨p,q⟩:=x _ ae.1.1 ae.1.2;rw[p,q];exact h.sto j d hk n l w B
theorem RC.k1(h:RC b m H C v i x)(l:∀Z,o=some Z->Z.g≠3)(c:a.1=m.1):RC b a H (c7 C k o) v i x:=
 ⟨h.val,by rw[c];exact h.clk,λj d n f g=>by
  by_cases e:j=k
  .grind [eL,absurd]
  .rw[W8 e]at n;exact h.no j d n f g⟩
theorem MI.k2(h:MI b m H C)(B:C k=some c)(A:c.g=2)(f:Z.g=3)(D:Z.F=m.1+1)(r:0<=m.1):MI b (m.1+1,m.2) H (c7 C k (some Z)):=by
 have u:∀i,Wy (m.1+1,m.2) i=Wy m i:=λ_=>rfl;refine⟨λg o=>by have:=h.st g o;omega,λj d a n=>?_,λj s d w t a q f n=>?_,λi r x v=>?_,λj d a p l z y=>?_⟩
 .by_cases e:j=k
  .subst e;rw[eL]at a;cases a;refine⟨Ω,Ω,λg o=>by have:=h.st g o;omega⟩
  .rw[W8 e]at a;have:=h.fr j d a n
   grind
 .have w1:∀j d,c7 C k (some Z) j=some d->d.g=3->j≠k->d.F<=m.1:=λj d a f e=>by
   rw[W8 e]at a;exact(h.fr j d a f).2.1
  by_cases e:j=k
  .grind [eL]
  .by_cases e':s=k
   .grind [eL]
   .rw[W8 e]at a;rw[W8 e']at q;exact h.fr2 j s d w t a q f n
 .refine h.cell i r x λj d a p=>?_;by_cases e:j=k
  .simp_all
  .exact v j d (by grind [W8]) p
 .by_cases e:j=k
  .grind [eL]
  .rw[W8 e]at a;rw[u];exact h.sto j d a p l z y
theorem RC.k2(h:RC b m H C v i x)(g:Z.F=m.1+1):RC b (m.1+1,m.2) H (c7 C k (some Z)) v i x:=
 ⟨h.val,by have:=h.clk;omega,λj d a c f=>by
  by_cases e:j=k
  .subst e;rw[eL]at a;cases a;have:=h.clk;omega
  .rw[W8 e]at a;exact h.no j d a c f⟩
theorem MI.k3(h:MI b m H C)(s:C k=some c)(q:c.g=3)(r:Z.g=3)(u:Z.F=c.F):MI b m H (c7 C k (some Z)):=by
 refine⟨h.st,λj d a p=>?_,λj g d v n a f r p=>?_,λi x y w=>?_,λj d a t l B A=>?_⟩
 .by_cases e:j=k
  .subst e;rw[eL]at a;cases a;rw[u];exact h.fr j c s q
  .rw[W8 e]at a;exact h.fr j d a p
 .by_cases e:j=k
  .have o:g≠k:=λz=>n (e.trans z.symm);rw[W8 o]at f;subst e;rw[eL]at a;cases a;rw[u];exact h.fr2 j g c v n s f q p
  .rw[W8 e]at a;by_cases o:g=k
   .subst o;rw[eL]at f;cases f;rw[u];exact h.fr2 j g d c n a s r q
   .rw[W8 o]at f;exact h.fr2 j g d v n a f r p
 .refine h.cell i x y λj d a t=>?_;by_cases e:j=k
  .simp_all
  .exact w j d (by grind [W8]) t
 .by_cases e:j=k
  .grind [eL]
  .rw[W8 e]at a;exact h.sto j d a t l B A
theorem RC.k3(h:RC b m H C v i x)(l:C k=some c)(f:c.g=3)(p:Z.F=c.F)(n:Z.w=c.w):RC b m H (c7 C k (some Z)) v i x:=
 ⟨h.val,h.clk,λj d a g o=>by
  by_cases e:j=k
  .subst e;rw[eL]at a;cases a;rw[n];exact h.no j c l f Ω
  .rw[W8 e]at a;exact h.no j d a g o⟩
theorem MI.k4(h:MI b m H C)(o:CL2 m C)(hm:m.1<=1000000)(y:C k=some c)(u:c.g=3)(w:Z.g=4)(iP:Z.pos=0)(hw:Z.F=c.F)(hp:Z.w=c.w){v}:MI b m (H++ [(c.F,v,c.w)]) (c7 C k (some Z)):=by
 obtain⟨N,nM,L⟩:=o k c y;obtain⟨f1,f2,f3⟩:=h.fr k c y u;have I:∀l:Nat,lkA c l:=λl=>by unfold lkA;omega
 have F:∀i,0<=i->i<=7->(∃(j:Nat) (a:j<c.w.length),c.w[j].1=i)->∀j d,C j=some d->d.g=4\/d.g=5->¬lkd d i:=λi s t ⟨l,f,e⟩ j d a q jm=>by
  obtain⟨D,Y,M⟩:=o j d a;have o1:=(L.T i s t).2 ⟨l,f,e,I l⟩;have o2:=(M.T i s t).2 jm
  grind
 have P:∀i,pick c.w i=none->top (b i) i (H++ [(c.F,v,c.w)])=top (b i) i H:=λi A=>by
  grind [top,Lu,cM]
 have qa0:∀(l:Nat) (o:l<c.w.length),(Wy m c.w[l].1).2.1<c.F/\top (b c.w[l].1) c.w[l].1 (H++ [(c.F,v,c.w)])=(c.F,c.w[l].2):=λl f=>by
  have ae:=(N.Eo _ (Xm f)).1;obtain⟨c1,c2⟩:=h.cell _ ae.1 ae.2 (F _ ae.1 ae.2 ⟨l,f,rfl⟩);have hv:=(L.ver (.inl u)).2 c.w[l].1 ⟨l,f,rfl,I l⟩;have hb:=(WBI (b:=b c.w[l].1) (i:=c.w[l].1) (v:=2000000) (H:=H) Ω).2.2;have E:(top (b c.w[l].1) c.w[l].1 H).1<c.F:=by
   grind [top]
  refine⟨Ω,?_⟩;unfold top at E|-;rw[Lu];unfold cM;simp only[WAr N f];rw[Wb ⟨Ω,E⟩]
 have O:∀i x,pick c.w i=some x->∃(j:Nat) (a:j<c.w.length),c.w[j].1=i:=λi x p=>by
  obtain⟨l,o,e⟩:=cN (GO p)
  grind
 refine⟨λg n=>?_,λj d a r=>?_,λj K d R Q a G w r=>?_,λi s t A=>?_,λj d a q l f J=>?_⟩
 .rcases Xo.1 n with n|n
  .exact h.st g n
  simp_all
 .by_cases e:j=k
  .grind [eL]
  .rw[W8 e]at a;obtain⟨U,V,g3⟩:=h.fr j d a r;refine⟨U,V,λg n=>?_⟩;rcases Xo.1 n with n|n
   .grind
   .rw[dq]at n;subst n;exact h.fr2 k j c d (λz=>e z.symm) y a u r
 .by_cases e:j=k
  .grind [eL]
  .rw[W8 e]at a;by_cases S:K=k
   .grind [eL]
   .rw[W8 S]at G;exact h.fr2 j K d R Q a G w r
 .have B:pick c.w i=none:=by
   cases p:pick c.w i with
   |none=>rfl
   |some x=>
    obtain⟨l,f,e⟩:=O i x p;refine Wh ⟨l,Ψ,Ψ,?_⟩ (A k Z eL (.inl w));unfold lkA;omega
  rw[P i B];refine h.cell i s t λj d a q=>?_;by_cases e:j=k
  .simp_all
  .exact A j d (by grind [W8]) q
 .by_cases e:j=k
  .grind [eL]
  .rw[W8 e]at a;obtain⟨D,Y,M⟩:=o j d a;have ae:=(D.Eo _ (Xm f)).1;have B:pick c.w d.w[l].1=none:=by
    cases p:pick c.w d.w[l].1 with
    |none=>rfl
    |some x=>
     obtain⟨W,X,T⟩:=O _ x p;exact Wh ⟨l,f,rfl,J⟩ (F d.w[l].1 ae.1 ae.2 ⟨W,X,T⟩ j d a q)
   rw[P _ B];exact h.sto j d a q l f J
theorem RC.k4(h:RC b m H C v i x)(n:C k=some c)(l:c.g=3)(o:Z.g=4){a}:RC b m (H++ [(c.F,a,c.w)]) (c7 C k (some Z)) v i x:=by
 refine⟨?_,h.clk,λj d f g p=>?_⟩
 .rw[Lu,h.val];unfold cM;by_cases p:c.F<=v
  .simp[h.no k c n l p]
  grind
 .by_cases e:j=k
  .grind [eL]
  .rw[W8 e]at f;exact h.no j d f g p
theorem MI.k5(h:MI b m H C)(v:CL2 m C)(P:W4 m=true)(t:C k=some c)(O:c.g=4){j}(u:j<c.w.length)(V:c.pos=j)(Y:Z.w=c.w)(qa0:Z.F=c.F)(qa1:Z.g=4/\Z.pos=j+1\/Z.g=5/\Z.pos=0/\j+1=c.w.length):
  MI b (jS m c.w[j].1 c.J c.w[j].2) H (c7 C k (some Z)):=by
 obtain⟨y,nM,Q⟩:=v k c t;have E:∀l:Nat,lkA c l:=λl=>by unfold lkA;omega
 have I:∀l:Nat,lkA Z l:=λl=>by unfold lkA;omega
 have ae:=(y.Eo _ (Xm u)).1;have J:=(Q.T _ ae.1 ae.2).2 ⟨j,u,rfl,E j⟩;have K:jS m c.w[j].1 c.J c.w[j].2=lG m c.w[j].1 (c.w[j].2,(Wy m c.w[j].1).2):=by
  unfold jS;rw[Wb (show(Wy m c.w[j].1).2.2=c.J from J)]
 rw[K];have B:∀i,0<=i->i<=7->Wy (lG m c.w[j].1 (c.w[j].2,(Wy m c.w[j].1).2)) i=if i=c.w[j].1 then(c.w[j].2,(Wy m c.w[j].1).2)else Wy m i:=λi n o=>nB P ae ⟨n,o⟩;have S:∀l d,l≠k->C l=some d->∀(a:Nat) (g:a<d.w.length),lkA d a->d.w[a].1≠c.w[j].1:=λl d A f a g p F=>by
  obtain⟨T,vY,R⟩:=v l d f;have:=(R.T _ ae.1 ae.2).2 ⟨a,g,F,p⟩;omega
 refine⟨h.st,λl d f q=>?_,λl U d L A f D N q=>?_,λi n o w=>?_,λl d f x a g p=>?_⟩
 .by_cases e:l=k
  .grind [eL]
  .rw[W8 e]at f;exact h.fr l d f q
 .by_cases e:l=k
  .grind [eL]
  .rw[W8 e]at f;by_cases M:U=k
   .grind [eL]
   .rw[W8 M]at D;exact h.fr2 l U d L A f D N q
 .have xB:i≠c.w[j].1:=λF=>w k Z eL Ω ⟨j,Ψ,Ψ,I j⟩;rw[B i n o,Wa xB];refine h.cell i n o λl d f x G=>?_;by_cases e:l=k
  .subst e;rw[t]at f;cases f;obtain⟨a,g,W,X⟩:=G;exact w l Z eL Ω ⟨a,Ψ,Ψ,I a⟩
  .exact w l d (by grind [W8]) x G
 .by_cases e:l=k
  .subst e;rw[eL]at f;have z:a<c.w.length:=Ψ
   obtain⟨s1,s2,s3⟩:=h.sto l c t (.inl O) a z (E a);have r:=(y.Eo _ (Xm z)).1;by_cases s:c.w[a].1=c.w[j].1
   .have:=y.inj z u s;simp_all
   grind
  .rw[W8 e]at f;have r:=((v l d f).1.Eo _ (Xm g)).1;rw[B _ r.1 r.2,Wa (S l d e f a g p)];exact h.sto l d f x a g p
theorem MI.k6(h:MI b m H C)(z:CL2 m C)(V:W4 m=true)(s:C k=some c)(x:c.g=5){j}(p:j<c.w.length)(dg:c.pos=j)(W:(∃Z,o=some Z/\Z.w=c.w/\Z.F=c.F/\Z.g=5/\Z.pos=j+1)\/(o=none/\j+1=c.w.length)):
  MI b (gK m c.w[j].1 c.J c.F) H (c7 C k o):=by
 obtain⟨D,nM,L⟩:=z k c s;have ae:=(D.Eo _ (Xm p)).1;have B:lkA c j:=by unfold lkA;omega
 have Q:=(L.T _ ae.1 ae.2).2 ⟨j,p,rfl,B⟩;obtain⟨v1,v2⟩:=L.ver (.inr (.inr x));obtain⟨sj1,sj2,sj3⟩:=h.sto k c s (.inr x) j p B;have R:gK m c.w[j].1 c.J c.F=lG m c.w[j].1 ((Wy m c.w[j].1).1,c.F,0):=by
  unfold gK;rw[Wb ⟨Q,v2 _ ⟨j,p,rfl,B⟩,v1⟩]
 rw[R];have v:∀i,0<=i->i<=7->Wy (lG m c.w[j].1 ((Wy m c.w[j].1).1,c.F,0)) i=if i=c.w[j].1 then((Wy m c.w[j].1).1,c.F,0)else Wy m i:=λi q r=>nB V ae ⟨q,r⟩;have qa0:∀l d,l≠k->C l=some d->∀(a:Nat) (g:a<d.w.length),lkA d a->d.w[a].1≠c.w[j].1:=λl d u f a g t y=>by
  obtain⟨DP,vY,X⟩:=z l d f;have:=(X.T _ ae.1 ae.2).2 ⟨a,g,y,t⟩;omega
 have vQ:∀d,c7 C k o k=some d->d.g=5/\d.w=c.w/\d.F=c.F/\d.pos=j+1:=λd f=>by
  grind [eL]
 refine⟨h.st,λl d f w=>?_,λl l' d S u f I U w=>?_,λi q r K=>?_,λl d f A a g t=>?_⟩
 .by_cases e:l=k
  .simp_all
  .rw[W8 e]at f;exact h.fr l d f w
 .by_cases e:l=k
  .simp_all
  .rw[W8 e]at f;by_cases T:l'=k
   .simp_all
   .rw[W8 T]at I;exact h.fr2 l l' d S u f I U w
 .rw[v i q r];by_cases J:i=c.w[j].1
  .simp_all
  .rw[Wa J];refine h.cell i q r λl d f A M=>?_;by_cases e:l=k
   .subst e;rw[s]at f;cases f;obtain⟨a,g,e1,e2⟩:=M;have u:a≠j:=λe=>J Ψ;have ia:(c.pos<=a):=by grind [lkA]
    rcases W with⟨Z,G,E,N,O,Y⟩|⟨G,E⟩
    .refine K l Z (by rw[eL];exact G) (.inr O) ⟨a,Ψ,Ψ,?_⟩;unfold lkA;omega
    .omega
   .exact K l d (by grind [W8]) A M
 .by_cases e:l=k
  .subst e;obtain⟨O,E,N,Y⟩:=vQ d f;have F:a<c.w.length:=Ψ
   have P:lkA c a/\a≠j:=by grind [lkA]
   obtain⟨s1,s2,s3⟩:=h.sto l c s (.inr x) a F P.1;have n:=(D.Eo _ (Xm F)).1;simp only[E,N];rw[v _ n.1 n.2,Wa (λy=>P.2 (D.inj F p y))];simp_all
  .rw[W8 e]at f;have n:=((z l d f).1.Eo _ (Xm g)).1;rw[v _ n.1 n.2,Wa (qa0 l d e f a g t)];exact h.sto l d f A a g t
end
end
section
variable{b:Int->Int}{m a:Mm}{H:List Wr}{C:Nat->Option Cm}{k:Nat}{c l:Cm}{o o':Option Cm}{v i x:Int}
def cmO(c:Cm):Option Cm:=if c.g=6\/c.g=8 then none else some c
def c5(k:Nat)(c q:Cm)(H:List Wr):List Wr:=if c.g<=3/\q.g=4 then H++ [(q.F,(k:Int)+1,q.w)]else H
theorem XK:c7 (c7 C k o) k o'=c7 C k o':=by
 funext j;unfold c7;split<;>rfl
theorem QB(h:cmO c=some l):l=c/\c.g≠6/\c.g≠8:=by
 unfold cmO at h
 grind
def Keep(b:Int->Int)(m:Mm)(H:List Wr)(C:Nat->Option Cm)(a:Mm)(d:List Wr)(c:Nat->Option Cm):Prop:=MI b a d c/\∀v i x,RC b m H C v i x->RC b a d c v i x
theorem Keep.k1(h:MI b m H C)(f:∀c,C k=some c->c.g≠4/\c.g≠5)(d:∀l,o=some l->l.g≠3/\l.g≠4/\l.g≠5)
  (n:a.1=m.1) (g:∀i,0<=i->i<=7->(Wy a i).1=(Wy m i).1/\(Wy a i).2.1=(Wy m i).2.1) (p:∀k c,C k=some c->CmR c):Keep b m H C a H (c7 C k o):=
 ⟨h.k1 f d n g p,λv i x j=>j.k1 (λl e=>(d l e).1) n⟩
theorem MI.step(h:MI b m H C)(E:CL2 m C)(I:CmOk c)(F:W4 m=true)(bE:m.1<1000000)(s:C k=some c)(zN:c.g≠6/\c.g≠8):
  Keep b m H C (Wv m c).1 (c5 k c (Wv m c).2 H) (c7 C k (cmO (Wv m c).2)):=by
 have hr:∀k c,C k=some c->CmR c:=λk c e=>(E k c e).1;have W:∀d,C k=some d->d=c:=λd e=>Ψ
 obtain⟨A,nM,jl⟩:=E k c s;have Z:=I.g;have Y:c.g=1\/c.g=4\/c.g=5\/c.g=7->c.steps=c.w.length:=λS=>by unfold Cm.steps;rw[Wb S]
 have h0:=(WK F).2.1;have back:∀n:Int,c.g≠4/\c.g≠5->Keep b m H C m (c5 k c (cw c n) H) (c7 C k (cmO (cw c n))):=λn S=>by
  have e:c5 k c (cw c n) H=H:=by unfold c5;rw[Wa (by rcases ml c n with e|e<;>omega)]
  rw[e];refine Keep.k1 h (λd f=>Ψ) (λd f=>?_) rfl (λ_ _ _=>⟨rfl,rfl⟩) hr;obtain⟨e,_⟩:=QB f;subst e;rcases ml c n with e|e<;>omega
 by_cases y:c.g=1
 .unfold Wv;simp only;rw[Wb y];obtain⟨j,D,J,u,w,Q⟩:=I.put Ω;rw[u];split
  .have S:(Wz c 2).g=1\/(Wz c 2).g=2:=by
    unfold Wz;split
    .right;show bm c 2=2;unfold bm;rw[Wa Ω,Wa Ω]
    .left;exact y
   have e:c5 k c (Wz c 2) H=H:=by unfold c5;rw[Wa (λz=>by have:=z.2;omega)]
   show Keep b m H C _ (c5 k c (Wz c 2) H) _;rw[e];refine Keep.k1 h (λd f=>by rw[W d f];omega) (λd f=>?_) rfl (λi a z=>?_) hr
   .grind [QB,Wz]
   .show(Wy (qH m c.w[j].1 c.J) i).1=_/\_;unfold qH;rw[nB F w ⟨a,z⟩]
    grind
  simp_all
 by_cases B:c.g=2
 .have et:tick m=((m.1+1,m.2),m.1+1):=by unfold tick;rw[Wb bE]
  unfold Wv;simp only;rw[Wa y,Wb B,et];simp only;rw[Wa Ω];generalize K:({c with F:=m.1+1,g:=3,pos:=0}:Cm)=c2;have G:c2.g=3:=by rw[<-K]
  have N:c2.F=m.1+1:=by rw[<-K]
  have M:c2.w=c.w:=by rw[<-K]
  have t:c2.J=c.J:=by rw[<-K]
  have V:MI b (m.1+1,m.2) H (c7 C k (some c2)):=h.k2 s B G N h0;have X:∀v i x,RC b m H C v i x->RC b (m.1+1,m.2) H (c7 C k (some c2)) v i x:=λv i x p=>p.k2 N;have mN:CL2 (m.1+1,m.2) (c7 C k (some c2)):=λj d f=>by
   by_cases e:j=k
   .subst e;rw[eL]at f;cases f;have v6:∀i,lkd c2 i↔lkd c i:=λi=>Da M λj D=>by unfold lkA;omega
    refine⟨⟨by rw[M];exact A.Eo,by rw[M];exact A.pup⟩,by rw[t];exact nM,λi a z=>?_,λ_=>⟨Ω,λi o=>?_⟩⟩
    .rw[t,v6];exact jl.T i a z
    .rw[N];obtain⟨qa0,bw,a,_⟩:=(v6 i).1 o;have wX:=(A.Eo _ (Xm bw)).1;have bQ:=rX.1 (zI F wX)
     grind [Wy]
   .rw[W8 e]at f;obtain⟨a,z,q⟩:=E j d f;exact⟨a,z,q.T,λhz=>⟨by have:=(q.ver hz).1;omega,(q.ver hz).2⟩⟩
  have T:∀a,bm {c with F:=m.1+1} 3=a->ei {c with F:=m.1+1} 3={c with F:=m.1+1,g:=a,pos:=0}:=λa e=>by unfold ei;rw[e]
  by_cases U:c.o.length=0
  .by_cases L:c.w.length=0
   .rw[T 6 (by unfold bm;rw[Wb ⟨.inl ⟨rfl,U⟩,L⟩])];have e:c5 k c {c with F:=m.1+1,g:=6,pos:=0} H=H:=by unfold c5;rw[Wa (λz=>Ψ)]
    have g:cmO {c with F:=m.1+1,g:=6,pos:=0}=none:=by unfold cmO;rw[Wb (.inl rfl)]
    rw[e,g,<-XK (C:=C) (k:=k) (o:=some c2)];refine⟨V.k1 (λd f=>?_) (λd f=>by cases f) rfl (λ_ _ _=>⟨rfl,rfl⟩) (λj d f=>(mN j d f).1),λv i x p=>(X v i x p).k1 (λd f=>by cases f) rfl⟩
    grind [eL]
   .rw[T 4 (by unfold bm;rw[Wa (λz=>L z.2),Wb ⟨rfl,U⟩])];have e:c5 k c {c with F:=m.1+1,g:=4,pos:=0} H=H++ [(c2.F,(k:Int)+1,c2.w)]:=by unfold c5;rw[Wb ⟨Ω,rfl⟩,N,M]
    have g:cmO {c with F:=m.1+1,g:=4,pos:=0}=some {c with F:=m.1+1,g:=4,pos:=0}:=by unfold cmO;rw[Wa Δ]
    rw[e,g,<-XK (C:=C) (k:=k) (o:=some c2)];exact⟨V.k4 (Z:={c with F:=m.1+1,g:=4,pos:=0}) mN Ω eL G rfl rfl N.symm M.symm,λv i x p=>(X v i x p).k4 eL G rfl⟩
  .have w:ei {c with F:=m.1+1} 3=c2:=by
    rw[T 3 (by unfold bm;rw[Wa (λz=>Ψ),Wa (λz=>U z.2)]),<-K]
   rw[w];have e:c5 k c c2 H=H:=by unfold c5;rw[Wa (λz=>by have:=z.2;omega)]
   have g:cmO c2=some c2:=by unfold cmO;rw[Wa Ω]
   rw[e,g];exact⟨V,X⟩
 by_cases r:c.g=3
 .unfold Wv;simp only;rw[Wa y,Wa B,Wb r];split
  .simp_all
  .by_cases O:c.pos+1=c.steps
   .have en:Wz c 4={c with g:=bm c 4,pos:=0}:=by unfold Wz;rw[Wb O];rfl
    by_cases L:c.w.length=0
    .have ea:bm c 4=6:=by unfold bm;rw[Wb ⟨.inr rfl,L⟩]
     rw[en,ea];have e:c5 k c {c with g:=6,pos:=0} H=H:=by unfold c5;rw[Wa (λz=>Ψ)]
     have g:cmO {c with g:=6,pos:=0}=none:=by unfold cmO;rw[Wb (.inl rfl)]
     show Keep b m H C m (c5 k c {c with g:=6,pos:=0} H) (c7 C k (cmO {c with g:=6,pos:=0}));rw[e,g];exact Keep.k1 h (λd f=>by rw[W d f];omega) (λd f=>by cases f) rfl (λ_ _ _=>⟨rfl,rfl⟩) hr
    .have ea:bm c 4=4:=by unfold bm;rw[Wa (λz=>L z.2),Wa Ω]
     rw[en,ea];have e:c5 k c {c with g:=4,pos:=0} H=H++ [(c.F,(k:Int)+1,c.w)]:=by unfold c5;rw[Wb ⟨Ω,rfl⟩]
     have g:cmO {c with g:=4,pos:=0}=some {c with g:=4,pos:=0}:=by unfold cmO;rw[Wa Δ]
     show Keep b m H C m (c5 k c {c with g:=4,pos:=0} H) (c7 C k (cmO {c with g:=4,pos:=0}));rw[e,g];exact⟨h.k4 (Z:={c with g:=4,pos:=0}) E Ω s r rfl rfl rfl rfl,λv i x p=>p.k4 s r rfl⟩
   .have en:Wz c 4={c with pos:=c.pos+1}:=by unfold Wz;rw[Wa O]
    rw[en];have e:c5 k c {c with pos:=c.pos+1} H=H:=by unfold c5;rw[Wa (λz=>Ψ)]
    have g:cmO {c with pos:=c.pos+1}=some {c with pos:=c.pos+1}:=by unfold cmO;rw[Wa (by simp only;omega)]
    show Keep b m H C m (c5 k c {c with pos:=c.pos+1} H) (c7 C k (cmO {c with pos:=c.pos+1}));rw[e,g];exact⟨h.k3 s r r rfl,λv i x p=>p.k3 s r rfl rfl⟩
 by_cases P:c.g=4
 .obtain⟨j,D,J,u,w,Q⟩:=I.put Ω;have hs:=Y Ω;unfold Wv;simp only;rw[Wa y,Wa B,Wa r,Wb P,u];have e:c5 k c (Wz c 5) H=H:=by unfold c5;rw[Wa (λz=>by have:=z.1;omega)]
  obtain⟨p1,p2,G⟩:=wC c 5;have Z:(Wz c 5).g=4/\(Wz c 5).pos=(j:Int)+1\/(Wz c 5).g=5/\(Wz c 5).pos=0/\j+1=c.w.length:=by
   unfold Wz;split
   .exact .inr ⟨R1 c,rfl,Ω⟩
   simp_all
  have g:cmO (Wz c 5)=some (Wz c 5):=by unfold cmO;rw[Wa Ω]
  show Keep b m H C (jS m c.w[j].1 c.J c.w[j].2) (c5 k c (Wz c 5) H) (c7 C k (cmO (Wz c 5)));rw[e,g];refine⟨h.k5 E F s P D J p1 G Z,λv i x p=>p.k1 (λd f=>by cases f;omega) ?_⟩;unfold jS;split<;>rfl
 by_cases R:c.g=5
 .obtain⟨j,D,J,u,w,Q⟩:=I.put Ω;have hs:=Y Ω;unfold Wv;simp only;rw[Wa y,Wa B,Wa r,Wa P,Wb R,u];have e:c5 k c (Wz c 6) H=H:=by unfold c5;rw[Wa (λz=>by have:=z.1;omega)]
  obtain⟨p1,p2,G⟩:=wC c 6;have ho:(∃l,cmO (Wz c 6)=some l/\l.w=c.w/\l.F=c.F/\l.g=5/\l.pos=(j:Int)+1)\/(cmO (Wz c 6)=none/\j+1=c.w.length):=by
   by_cases O:c.pos+1=c.steps
   .right;have:(Wz c 6).g=6:=by unfold Wz;rw[Wb O];exact Sf c
    exact⟨by unfold cmO;rw[Wb (.inl this)],Ω⟩
   simp_all [Wz,Wa,cmO]
  show Keep b m H C (gK m c.w[j].1 c.J c.F) (c5 k c (Wz c 6) H) (c7 C k (cmO (Wz c 6)));rw[e];refine⟨h.k6 E F s R D J ho,λv i x p=>p.k1 (λd f=>?_) ?_⟩
  .simp_all
  .unfold gK;split<;>rfl
 .have h7:c.g=7:=Ω
  obtain⟨j,D,J,u,w,Q⟩:=I.put Ω;unfold Wv;simp only;rw[Wa y,Wa B,Wa r,Wa P,Wa R,Wb h7,u];have e:c5 k c (cw c c.pos) H=H:=by unfold c5;rw[Wa (λz=>by have:=z.1;omega)]
  show Keep b m H C (gK m c.w[j].1 c.J (Wy m c.w[j].1).2.1) (c5 k c (cw c c.pos) H) (c7 C k (cmO (cw c c.pos)));rw[e];refine Keep.k1 h (λd f=>by rw[W d f];omega) (λd f=>?_) (by unfold gK;split<;>rfl) (λi a z=>?_) hr
  .obtain⟨e,_⟩:=QB f;subst e;rcases ml c c.pos with e|e<;>omega
  .unfold gK;split
   .rw[nB F w ⟨a,z⟩]
    grind
   omega
end
section
variable{s:Sc}{w v:Wo}{n:Int}{a:Ac}{x y:Rt}{k:Nat}{p:Pg}{f:Fm}{b:List (List Opn)}{m:Mm}
theorem ZN(v:W4 m=true)(l:∀c∈b,KC c)(u:b.length<=3)(e:FOk b n f)(o:∀(j) (h),KT f j f.κ[j])(p:k<b.length):
  (aC m f k (b.getD k [])).Ey=true\/∀(j) (h),KT (aC m f k (b.getD k [])) j (aC m f k (b.getD k [])).κ[j]:=by
 have t:=e.len;have d:k<f.κ.length:=Ω
 by_cases g:f.Ey=true
 .exact .inl (by rw[Pm g];exact g)
 have i:b.getD k []=b[k]:=Wk p _;have z:=e.kid k d;rw[i]at z;have s:=Wuw (m:=m) (l _ (Xm p)) e z (o k d);have a:=Tz d Ω (λc r=>(l c r).toCC.len) e o rfl s;have q:aC m f k (b.getD k [])=Fm.put (bn m f f.κ[k] k b[k]) k:=by
  unfold aC;rw[Wa g,i,show f.κ.getD k {}=f.κ[k]from Wk d _]
 rw[q];rcases a with a|a
 .exact .inl a
 .exact .inr a.kt
theorem XD{c}(i:W4 m=true):(Wv m c).1.1<=m.1+1:=by
 have h:(tick m).1.1<=m.1+1:=by unfold tick;split<;>(simp only;omega)
 unfold Wv;simp only;by_cases a:c.g=1
 .rw[Wb a];split<;>(show m.1<=m.1+1;omega)
 rw[Wa a];by_cases b:c.g=2
 .rw[Wb b];split<;>exact h
 rw[Wa b];by_cases d:c.g=3
 .rw[Wb d];split<;>(show m.1<=m.1+1;omega)
 rw[Wa d];by_cases e:c.g=4
 .rw[Wb e];unfold jS;split<;>(show m.1<=m.1+1;omega)
 rw[Wa e];by_cases f:c.g=5
 .rw[Wb f];unfold gK;split<;>(show m.1<=m.1+1;omega)
 rw[Wa f];by_cases g:c.g=7
 .rw[Wb g];unfold gK;split<;>(show m.1<=m.1+1;omega)
 rw[Wa g];show m.1<=m.1+1;omega
theorem VM{out}:(W9 w x k out).1.i=w.i:=by
 unfold W9;simp only;generalize (if out=2 then []else x.A)=a;split<;>rfl
theorem PF:(WS w x k p).1.i=w.i\/(x.g=5/\(WS w x k p).1.i=(Wv w.i x.l).1):=by
 unfold WS;by_cases i:x.U=true/\1<=x.g/\x.g<=4
 .rw[Wb i];exact .inl rfl
 rw[Wa i];by_cases b:x.g=0
 .rw[Wb b];left;unfold gH;repeat' split
  all_goals rfl
 rw[Wa b];by_cases c:x.g=1
 .rw[Wb c];left;unfold am;split
  .exact VM
  .simp only;generalize opN p.1 x.k=o;split
   .rfl
   .split
    .unfold fV;split
     .exact VM
     .split<;>rfl
    .split
     .rfl
     .split
      .unfold eN;cases fN w.a ((k:Int)+1) (WO o).1 (WO o).2<;>rfl
      .repeat' split
       all_goals rfl
 rw[Wa c];by_cases d:x.g=2
 .rw[Wb d];exact .inl rfl
 rw[Wa d];by_cases e:x.g=3
 .rw[Wb e];left;unfold fK;split<;>rfl
 rw[Wa e];by_cases f:x.g=4
 .rw[Wb f];exact .inl rfl
 rw[Wa f];by_cases a:x.g=5
 .rw[Wb a];unfold W7;split
  .exact .inl rfl
  .exact .inr ⟨a,rfl⟩
 rw[Wa a];left;by_cases g:x.g=6
 .rw[Wb g];split<;>rfl
 rw[Wa g];by_cases h:x.g=7
 .rw[Wb h];split<;>rfl
 .rw[Wa h]
structure WT(w:Wo):Prop where
 x:∀(k:Nat) (h:k<w.c.length),RT w.c[k]
 clk:w.i.1<=w.j
theorem RV{c}{q}(h:WT c)(d:q.1.c=c.c)(g:RT q.2)(b:q.1.i.1<=q.1.j):WT (Wo.put q k):=by
 refine⟨λi a=>?_,b⟩;change i<(q.1.c.set k q.2).length at a;have e:i<c.c.length:=by rw[List.length_set,d]at a;exact a
 show RT ((q.1.c.set k q.2)[i]'a);rw[List.getElem_set];split
 .exact g
 .simp only[d];exact h.x i e
theorem RB(h:WOk s.2.1 n w)(g:WT w):WT (aq s w a):=by
 have b:WT {w with j:=w.j+1}:=⟨g.x,by have:=g.clk;show w.i.1<=w.j+1;omega⟩;unfold aq;simp only;split
 .rename_i hb;have d:a.2.1.toNat<w.c.length:=Ω
  have f:=g.x _ d;have l:a.2.1.toNat<s.2.1.length:=by rw[<-h.len];exact d
  rw[Wk d];split
  .unfold m9;rw[Wk (d)];have o:=Dj (w:={w with j:=w.j+1}) (k:=a.2.1.toNat) (uX h.O l) ⟨h.i,h.D,h.a⟩ (h.x _ d) (by have:=h.l4;omega) h.n0;refine RV b (qu h d) (ZH f) ?_;have t:=o.j;rw[t];have u:=g.clk;rcases PF (w:={w with j:=w.j+1}) (x:=w.c[a.2.1.toNat]) (k:=a.2.1.toNat) (p:=s.2.1.getD a.2.1.toNat pg0)with e|⟨_,e⟩
   .rw[e];show w.i.1<=w.j+1;omega
   .rw[e];have:=XD (m:=w.i) (c:=w.c[a.2.1.toNat].l) h.i;show(Wv w.i w.c[a.2.1.toNat].l).1.1<=w.j+1;omega
  .split
   .split
    .rename_i hc;unfold OC;refine RV (c:={w with j:=w.j+1}) b rfl ?_ b.clk;refine⟨f.E,λ_=>?_,λq=>by(change w.c[a.2.1.toNat].g=5 at q;omega)⟩;have j:=uX h.O l;have r:=((h.x _ d).Ev Ω).V hc.1;rcases f.n hc.1 with i|hT
     .left;show(aC w.i w.c[a.2.1.toNat].n a.2.2.toNat _).Ey=true;rw[Pm i];exact i
     .exact ZN h.i j.κ j.k3 r.2.2 hT Ω
    .exact b
   .split
    .split
     .exact RV (c:={w with j:=w.j+1}) b rfl ⟨f.E,f.n,f.l⟩ b.clk
     .exact b
    .exact b
 .exact b
theorem Wu8:∀(l:List Ac) (n) (w),WOk s.2.1 n w->WT w->WT (l.foldl (aq s) w)
 | [],n,w,h,hx=>hx
 |a::l,n,w,h,hx=>Wu8 l (n+1) _ (nV (a:=a) h) (RB (a:=a) h hx)
theorem WuJ:WT (aX s):=⟨λi h=>by
 simp only[aX,List.getElem_replicate];exact RT.no rfl (by show(0:Int)≠2;omega) (by show(0:Int)≠5;omega),Xt _⟩
end
section
variable{b:Int->Int}{s:Sc}{w v:Wo}{n:Int}{x y:Rt}{k:Nat}{p:Pg}{o:Opn}{a:Ac}
def cmX(x:Rt):Option Cm:=if x.g=5 then some x.l else none
def aU(l:List Rt)(k:Nat):Option Cm:=(l[k]?).bind cmX
theorem DB(h):aU w.c k=cmX w.c[k]:=by unfold aU;rw[Xq h];rfl
theorem KY{l}(h:k<l.length):aU (l.set k y)=c7 (aU l) k (cmX y):=by
 funext j;unfold aU c7;by_cases e:j=k
 .subst e;rw[Wb rfl,yf h];rfl
 .rw[Wa e,ly (λz=>e z.symm)]
theorem Qo{c}(h:cmX x=some c):x.g=5/\c=x.l:=by
 unfold cmX at h;split at h
 .cases h;exact⟨‹_›,rfl⟩
 .cases h
theorem PV{l}{c}(h:aU l k=some c):∃a:k<l.length,l[k].g=5/\c=l[k].l:=by
 by_cases a:k<l.length
 .unfold aU at h;rw[Xq a]at h;exact⟨a,Qo h⟩
 .unfold aU at h;rw[sG Ω]at h;cases h
theorem RP(h:WOk s.2.1 n w)(d:LX w):CL2 w.i (aU w.c):=λk c f=>by
 obtain⟨b,a,e⟩:=PV f;subst e;exact⟨((h.x k b).R a).r,((d.x k b).l a).1,((d.x k b).l a).2⟩
structure RN(w:Wo)(x:Rt)(q:Wo×Rt):Prop where
 i:q.1.i=w.i
 C:q.1.C=w.C
 l:q.2.g=5->q.2.l.g=1\/q.2.l.g=2
theorem hP{q}(a:q.1.i=w.i)(b:q.1.C=w.C)(c:q.2.g≠5):RN w x q:=⟨a,b,λh=>Wh h c⟩
theorem Yd{out}:RN w x (W9 w x k out):=by
 unfold W9;simp only;generalize (if out=2 then []else x.A)=a;split
 .exact hP rfl rfl (by show(8:Int)≠5;omega)
 .refine⟨rfl,rfl,λ_=>?_⟩;show(cx ((k:Int)+1) x.u a x.o).g=1\/_;unfold cx;simp only;split<;>simp
theorem KF(a:x.g≠5):RN w x (WS w x k p):=by
 have b:∀z:Rt,(WA z).g≠5:=λz=>Gj.2.1;unfold WS;split
 .exact hP rfl rfl (by show(6:Int)≠5;omega)
 split
 .unfold gH;split
  .exact hP rfl rfl a
  .split
   .exact hP rfl rfl a
   .split
    .exact hP rfl rfl a
    .exact hP rfl rfl (by show(1:Int)≠5;omega)
 split
 .rename_i h1;unfold am;split
  .exact Yd
  .simp only;generalize opN p.1 x.k=o;split
   .exact hP rfl rfl (Lp h1).2.1
   .split
    .unfold fV;split
     .exact Yd
     .split
      .exact hP rfl rfl a
      .exact hP rfl rfl a
    .split
     .exact hP rfl rfl (by show(2:Int)≠5;omega)
     .split
      .unfold eN;cases fN w.a ((k:Int)+1) (WO o).1 (WO o).2 with
       |none=>exact hP rfl rfl (b _)
       |some c=>exact hP rfl rfl a
      .repeat' split
       all_goals exact hP rfl rfl a
 split
 .refine hP rfl rfl ?_;show(ch x).g≠5;unfold ch;split
  .show(6:Int)≠5;omega
  .split
   .show(1:Int)≠5;omega
   .exact a
 split
 .unfold fK;split
  .exact hP rfl rfl a
  .exact hP rfl rfl (by show(4:Int)≠5;omega)
 split
 .refine hP rfl rfl ?_;show(W6 w x).g≠5;unfold W6;simp only;split
  .split
   .show(6:Int)≠5;omega
   .exact a
  .show(1:Int)≠5;omega
 split
 .split
  .exact hP rfl rfl a
  .exact hP rfl rfl (by show(7:Int)≠5;omega)
 split
 .split
  .exact hP rfl rfl (by show(0:Int)≠5;omega)
  .exact hP rfl rfl (by show(8:Int)≠5;omega)
 .exact hP rfl rfl a
theorem KH(a:x.g=5)(b:x.U=false):(WS w x k p).1.i=(Wv w.i x.l).1/\(WS w x k p).1.C=c5 k x.l (Wv w.i x.l).2 w.C/\(WS w x k p).2=cX {x with l:=(Wv w.i x.l).2}:=by
 have e:WS w x k p=W7 w x k:=by
  unfold WS;rw[Wa Ω,Wa Ω,Wa Ω,Wa Ω,Wa Ω,Wa Ω,Wb a]
 rw[e];unfold W7;rw[Wa (by rw[b];simp)];exact⟨rfl,rfl,rfl⟩
theorem Wzq{z}(h:z.g≠5):cmX z=none:=by unfold cmX;rw[Wa h]
theorem WyT(c):cmX (cX {x with l:=c,g:=5})=cmO c:=by
 by_cases a:c.g=8
 .have e:cmO c=none:=by unfold cmO;rw[Wb (.inr a)]
  rw[e];unfold cX;rw[Wb a];exact Wzq (by show(6:Int)≠5;omega)
 .by_cases h6:c.g=6
  .have e:cmO c=none:=by unfold cmO;rw[Wb (.inl h6)]
   rw[e];unfold cX;rw[Wa a,Wb h6];exact Wzq (by show(if x.H=2 then(6:Int)else 7)≠5;split<;>omega)
  .have e:cmO c=some c:=by unfold cmO;rw[Wa Ω]
   rw[e];unfold cX;rw[Wa a,Wa h6];rfl
def LZ(b:Int->Int)(w v:Wo):Prop:=Keep b w.i w.C (aU w.c) v.i v.C (aU v.c)
theorem C7{l}(h:MI b w.i w.C (aU w.c))(e:aU l=aU w.c):Keep b w.i w.C (aU w.c) w.i w.C (aU l):=by
 rw[e];exact⟨h,λ_ _ _ a=>a⟩
theorem Wsz{q}(h:WOk s.2.1 n w)(C:LX w)(D:WX w)(u:WT w)(J:n<1000000)(o:MI b w.i w.C (aU w.c))(hk)(r:q=WS {w with j:=w.j+1} w.c[k] k p)(c:q.1.c=w.c):LZ b w (Wo.put q k):=by
 have l:=RP h C;have v:w.i.1<1000000:=by have:=u.clk;have:=h.j;omega
 unfold LZ;show Keep b w.i w.C (aU w.c) q.1.i q.1.C (aU (q.1.c.set k q.2));rw[c,KY hk];have I:=D k hk;have f:=DB (w:=w) hk;by_cases a:w.c[k].g=5
 .have hC:aU w.c k=some w.c[k].l:=by rw[f];unfold cmX;rw[Wb a]
  have E:=(u.x k hk).l a;by_cases t:w.c[k].U=false
  .obtain⟨y,z,A⟩:=KH (w:={w with j:=w.j+1}) (x:=w.c[k]) (k:=k) (p:=p) a t;rw[r,y,z,A];have B:({w.c[k]with l:=(Wv w.i w.c[k].l).2}:Rt)={w.c[k]with l:=(Wv w.i w.c[k].l).2,g:=5}:=by rw[<-a]
   show Keep b w.i w.C (aU w.c) (Wv w.i w.c[k].l).1 (c5 k w.c[k].l (Wv w.i w.c[k].l).2 w.C) (c7 (aU w.c) k (cmX (cX {w.c[k]with l:=(Wv w.i w.c[k].l).2})));rw[B,WyT];exact o.step l ((h.x k hk).R a) h.i v hC E
  .have fI:w.c[k].U=true:=by simpa using t
   have L:w.c[k].l.g<=3:=by
    rcases I.doom fI with e|e
    .omega
    .exact e.2
   have K:=((h.x k hk).R a).g;have e:WS {w with j:=w.j+1} w.c[k] k p=({w with j:=w.j+1},if(WY w.c[k].l).g=8 then dE w.c[k]else{w.c[k]with l:=WY w.c[k].l,U:=false}):=by
    unfold WS;rw[Wa Ω,Wa Ω,Wa Ω,Wa Ω,Wa Ω,Wa Ω,Wb a];unfold W7;rw[Wb fI]
   rw[r,e];refine Keep.k1 o (λd M=>by rw[hC]at M;cases M;omega) (λd M=>?_) rfl (λ_ _ _=>⟨rfl,rfl⟩) (λj d e=>(l j d e).1);obtain⟨g,i⟩:=Qo M;by_cases m:(WY w.c[k].l).g=8
   .simp only[Wb m]at g;exact Wh (show(6:Int)=5 from g) Ω
   .simp only[Wa m]at i;have:=i;rw[this];unfold WY at m|-;split
    .rcases ml w.c[k].l w.c[k].l.pos with e|e<;>omega
    .split
     .rcases ml w.c[k].l w.c[k].l.w.length with e|e<;>omega
     .omega
 .have hC:aU w.c k=none:=by rw[f];unfold cmX;rw[Wa a]
  obtain⟨F,G,H⟩:=KF (w:={w with j:=w.j+1}) (k:=k) (p:=p) a;rw[r,F,G];refine Keep.k1 o (λd M=>by rw[hC]at M;cases M) (λd M=>?_) rfl (λ_ _ _=>⟨rfl,rfl⟩) (λj d e=>(l j d e).1);obtain⟨g,i⟩:=Qo M;have:=H g;rw[i];omega
theorem Wv3(h:WOk s.2.1 n w)(f:LX w)(l:WX w)(i:WT w)(g:n<1000000)(d:MI b w.i w.C (aU w.c)):LZ b w (aq s w a):=by
 have same:∀(k:Nat) (c:k<w.c.length) (y:Rt),cmX y=cmX w.c[k]->aU (w.c.set k y)=aU w.c:=λk c y e=>by
  rw[KY c,e,<-DB c];funext j;unfold c7;split
  .rename_i e;rw[e]
  .rfl
 unfold aq;simp only;split
 .rename_i hb;have c:a.2.1.toNat<w.c.length:=Ω
  rw[Wk c];split
  .unfold m9;rw[Wk (c)];exact Wsz h f l i g d c rfl (qu h c)
  .split
   .split
    .exact C7 d (same _ c _ rfl)
    .exact C7 d rfl
   .split
    .split
     .exact C7 d (same _ c _ rfl)
     .exact C7 d rfl
    .exact C7 d rfl
 .exact C7 d rfl
end
section
variable{b:Int->Int}{s:Sc}{w v:Wo}{n:Int}{x y:Rt}{k:Nat}{p:Pg}{o:Opn}{a:Ac}{m d:Mm}{H e:List Wr}{C:Nat->Option Cm}{c:Cm}{i:Int}
structure Mono(b:Int->Int)(m:Mm)(H:List Wr)(d:Mm)(e:List Wr):Prop where
 ver:∀i,0<=i->i<=7->(Wy m i).2.1<=(Wy d i).2.1
 top:∀i,(top (b i) i H).1<(top (b i) i e).1\/top (b i) i e=top (b i) i H
theorem Mono.refl:Mono b m H m H:=⟨λ_ _ _=>Xt _,λ_=>.inr rfl⟩
theorem WsM(k:CmOk c)(b:W4 m=true):∀i,0<=i->i<=7->(Wy m i).2.1<=(Wy (Wv m c).1 i).2.1:=λi d f=>by
 have o:=k.g;have g:c.g=1\/c.g=4\/c.g=5\/c.g=7->0<=(ac c.w c.pos (0,0)).1/\(ac c.w c.pos (0,0)).1<=7:=λh=>by
  obtain⟨j,r,p,l,n,q⟩:=k.put h;rw[l];exact n
 unfold Wv;simp only;split
 .split
  .show _<=(Wy (qH m _ _) i).2.1;unfold qH;rw[nB b (g Ω) ⟨d,f⟩];split
   .rename_i e;rw[e];exact Xt _
   .exact Xt _
  .exact Xt _
 split
 .have ht:=K9 b;have e:∀i,Wy (tick m).1 i=Wy m i:=λi=>by unfold tick;split<;>rfl
  split
  .show _<=(Wy (tick m).1 i).2.1;rw[e];exact Xt _
  .show _<=(Wy (tick m).1 i).2.1;rw[e];exact Xt _
 split
 .split<;>exact Xt _
 split
 .show _<=(Wy (jS m _ _ _) i).2.1;unfold jS;split
  .rw[nB b (g Ω) ⟨d,f⟩];split
   .rename_i e;rw[e];exact Xt _
   .exact Xt _
  .exact Xt _
 have unl:∀a,(c.g=5\/c.g=7)->(Wy m i).2.1<=(Wy (gK m (ac c.w c.pos (0,0)).1 c.J a) i).2.1:=λa h=>by
  unfold gK;split
  .rename_i hc;rw[nB b (g Ω) ⟨d,f⟩];split
   .rename_i e;rw[e];exact hc.2.1
   .exact Xt _
  .exact Xt _
 split
 .exact unl _ (.inl ‹_›)
 split
 .exact unl _ (.inr ‹_›)
 .exact Xt _
theorem Wxp{q}:∀i,(top (b i) i H).1<(top (b i) i (c5 k c q H)).1\/top (b i) i (c5 k c q H)=top (b i) i H:=λi=>by
 unfold c5;split
 .unfold top;rw[Lu];rcases Pj (i:=i) (v:=2000000) (h:=(q.F,(k:Int)+1,q.w)) (bst (b i) i 2000000 H)with e|⟨x,_,_,a,d⟩
  .exact .inr e
  .rw[d];exact .inl a
 .exact .inr rfl
theorem WxY{q}(h:WOk s.2.1 n w)(l:WX w)(hk)(c:q=WS {w with j:=w.j+1} w.c[k] k p):Mono b w.i w.C q.1.i q.1.C:=by
 by_cases a:w.c[k].g=5
 .by_cases hd:w.c[k].U=false
  .obtain⟨d,f,j⟩:=KH (w:={w with j:=w.j+1}) (x:=w.c[k]) (k:=k) (p:=p) a hd;rw[c,d,f];exact⟨WsM ((h.x k hk).R a) h.i,Wxp⟩
  .have fI:w.c[k].U=true:=by simpa using hd
   have e:(WS {w with j:=w.j+1} w.c[k] k p).1={w with j:=w.j+1}:=by
    unfold WS;rw[Wa Ω,Wa Ω,Wa Ω,Wa Ω,Wa Ω,Wa Ω,Wb a];unfold W7;rw[Wb fI]
   rw[c,e];exact Mono.refl
 .obtain⟨g,i,_⟩:=KF (w:={w with j:=w.j+1}) (k:=k) (p:=p) a;rw[c,g,i];exact Mono.refl
theorem ZU(o:MI b m H C)(p:CL2 m C)(f:0<=i)(g:i<=7)(t:Ep m i=0):(Wy m i).1=(top (b i) i H).2/\(Wy m i).2.1=(top (b i) i H).1/\∀k c,C k=some c->c.g=3->pick c.w i=none:=by
 have d:∀k c,C k=some c->¬lkd c i:=λk c a r=>by
  obtain⟨_,e,q⟩:=p k c a;have:=(q.T i f g).2 r;omega
 obtain⟨j,n⟩:=o.cell i f g λk c a _=>d k c a;refine⟨j,n,λk c a s=>?_⟩;cases hp:pick c.w i with
 |none=>rfl
 |some x=>
  obtain⟨l,h,e⟩:=cN (GO hp);refine Wh ⟨l,h,by rw[e],?_⟩ (d k c a);unfold lkA;omega
theorem WBK(E:m.1<=1000000)(o:MI b m H C)(r:CL2 m C){k}{c}(f:C k=some c)(y:c.g=3)(G:c.u<c.F)(L:0<=c.u)(h:0<=i)(n:i<=7)(B:Ep m i=0\/Ep m i=c.J)(O:(Wy m i).2.1<=c.u){v}(p:RC b m H C c.u i v):RC b m H C (c.F-1) i v:=by
 obtain⟨_,N,M⟩:=r k c f;have g:∀j d,C j=some d->j≠k->¬lkd d i:=λj d a D A=>by
  obtain⟨_,e,q⟩:=r j d a;have:=(q.T i h n).2 A;omega
 obtain⟨F,w⟩:=o.cell i h n λj d a z=>by
  by_cases e:j=k
  .subst e;rw[f]at a;cases a;omega
  .exact g j d a e
 have I:=o.fr k c f y;have s:(bst (b i) i 2000000 H).1<=c.u:=by unfold top at w;omega
 refine⟨?_,Ω,λj d a z K=>?_⟩
 .have hv:=p.val;have J:=p.clk;rw[hv,G3 (a:=2000000) Ω H s,G3 (v:=c.F-1) (a:=2000000) Ω H Ω]
 .by_cases e:j=k
  .subst e;rw[f]at a;cases a;omega
  .cases ip:pick d.w i with
   |none=>rfl
   |some x=>
    obtain⟨l,t,u⟩:=cN (GO ip);refine Wh ⟨l,t,by rw[u],?_⟩ (g j d a e);unfold lkA;omega
end
section
section
variable{b:Int->Int}{s:Sc}{w v:Wo}{n:Int}{x y:Rt}{k:Nat}{p:Pg}{o:Opn}{m g:Mm}{H j:List Wr}{C h:Nat->Option Cm}{c:Cm}{i e:Int}{f:Fm}{a:List (List Opn)}{d:List Opn}
def ZW(b:Int->Int)(m:Mm)(H:List Wr)(e:Int)(p:Pb):Prop:=
 (0<=p.1/\p.1<=7)/\p.2.2.1<=e/\(p.2.1=1/\p.2.2.1<=(Wy m p.1).2.1\/p.2.1=2/\p.2.2.1<=(top (b p.1) p.1 H).1/\((top (b p.1) p.1 H).1=p.2.2.1->p.2.2.2=(top (b p.1) p.1 H).2))
theorem ZW.mono{p}(h:ZW b m H e p)(f:Mono b m H g j):ZW b g j e p:=by
 obtain⟨q,l,i⟩:=h;refine⟨q,l,i.imp (λ⟨a,c⟩=>⟨a,?_⟩) λ⟨a,c,d⟩=>⟨a,?_⟩⟩
 .have:=f.ver p.1 q.1 q.2;omega
 .rcases f.top p.1 with t|t
  .exact⟨Ω,λz=>Ω⟩
  .rw[t];exact⟨c,d⟩
theorem TW(l:MI b m H C)(M:CL2 m C)(T:m.1<=1000000)(U:0<=e/\e<=m.1):ZS (RC b m H C e) (ZW b m H e) (ZW b m H e) m e:=λc q f g t=>by
 have D:∀r:Pb,r.1=c->List.getD m.2 (Int.toNat r.1) ((0:Int),((0:Int),(0:Int)))=Wy m c:=λr W=>by rw[W];rfl
 have s:=λN=>ZU (i:=c) l M f g N;unfold Ep at s;have V:q.1=c:=by
  rcases t with rfl|⟨_,h⟩
  .rfl
  .exact h
 unfold WU;simp only[D q V,WJ,jP];rcases t with rfl|⟨⟨R,S,v⟩,_⟩
 .rw[Wb rfl];split
  .split
   .exact .inr (.inr ⟨by show(1:Int)≠3;omega,⟨⟨f,g⟩,‹_›,.inl ⟨rfl,Xt _⟩⟩,rfl⟩)
   .exact .inl rfl
  .exact .inl rfl
 .rw[V]at v;rcases v with⟨F,G⟩|⟨I,J,w⟩
  .rw[Wa Ω,Wb F];refine .inr (.inr ⟨by show(2:Int)≠3;omega,⟨R,S,.inr ⟨rfl,?_⟩⟩,V⟩);show q.2.2.1<=(top (b q.1) q.1 H).1/\((top (b q.1) q.1 H).1=q.2.2.1->(Wy m c).1=(top (b q.1) q.1 H).2);rw[V];by_cases p:∀k d,C k=some d->d.g=4\/d.g=5->¬lkd d c
   .obtain⟨o,x⟩:=l.cell c f g p;exact⟨Ω,λ_=>o⟩
   .have:∃k d,C k=some d/\(d.g=4\/d.g=5)/\lkd d c:=by
     apply Classical.byContradiction;intro B;exact p λk d a n O=>B ⟨k,d,a,n,O⟩
    obtain⟨k,d,a,n,j,L,E,P⟩:=this;obtain⟨u,Q,_⟩:=l.sto k d a n j L P;rw[E]at u Q;rw[u];exact⟨by simp only;omega,λz=>by simp only at z;omega⟩
  .rw[Wa Ω,Wa Ω,Wb I];split
   .rename_i aF;split
    .rename_i v7;right;left;obtain⟨o,x,y⟩:=s aF;refine⟨rfl,⟨?_,Ω,λk d a K _=>y k d a K⟩⟩;show q.2.2.2=_;have A:(bst (b c) c 2000000 H).1<=e:=by
      have:(top (b c) c H).1=q.2.2.1:=Ω
      unfold top at this;omega
     rw[G3 (a:=2000000) Ω H A];exact w Ω
    .exact .inl rfl
   .exact .inl rfl
theorem WCt{z v h}(l:MI b m H C)(p:CL2 m C)(r:m.1<=1000000)(A:0<=i)(k:i<=7)(c:Ep m i=0)(u:(Wy m i).2.1<=v)(a:RC b m H C v i z)(t:v<=h)(n:h<=m.1):RC b m H C h i z:=by
 obtain⟨s,f,g⟩:=ZU l p A k c;have e:(bst (b i) i 2000000 H).1<=v:=by unfold top at f;omega
 refine⟨?_,n,λj d o q _=>g j d o q⟩;rw[a.val,G3 (a:=2000000) (by have:=a.clk;omega) H e,G3 (v:=h) (a:=2000000) Ω H Ω]
theorem PK.wk{Z Z'}{q}(h:PK Z d f q)(g:∀p,Z p->Z' p):PK Z' d f q:=λe=>by
 obtain⟨a,b,c,j,r⟩:=h e;exact⟨a,b,c,g _ j,r⟩
structure FB(M:Int->Int->Prop)(Z:Pb->Prop)(a:List (List Opn))(f:Fm):Prop where
 fp:FP M Z a f
 rd:∀r∈f.o,M r.1 r.2
theorem FP.wk{M i}{Z Z'}(h:FP M Z a f)(g:∀c v,M c v->i c v)(e:∀p,Z p->Z' p):FP i Z' a f:=
 ⟨h.ft.wk g,λd k b=>(h.pk d k b).wk e⟩
theorem FB.wk{M g}{Z Z'}(h:FB M Z a f)(d:∀c v,M c v->g c v)(b:∀p,Z p->Z' p):FB g Z' a f:=⟨h.fp.wk d b,λr e=>d _ _ (h.rd r e)⟩
theorem UY{q}:(bn m f q k d).1.o=f.o\/(bn m f q k d).1.o=f.o++kx q.M:=by
 unfold bn;split
 .unfold eI;split
  .exact .inl rfl
  .simp only;split
   .unfold c3;cases bf q.A (opN d q.k).2.2.1 with
    |some v=>exact .inl rfl
    |none=>
     cases ent f.buf (opN d q.k).2.2.1 with
     |some r=>simp only;split<;>exact .inl rfl
     |none=>
      simp only;generalize WU m f.u _=a;split
      .exact .inl rfl
      .split<;>exact .inl rfl
   .repeat' split
    all_goals exact .inl rfl
 .split
  .split<;>exact .inl rfl
  .split
   .split
    .exact .inr rfl
    .simp only;split<;>exact .inl rfl
   .exact .inl rfl
theorem Wy5{M}{Z}(h:FB M Z a f)(j:FOk a n f)(c:k<f.κ.length)(o:W4 m=true)(i:KC d)(g:a.getD k []=d)(p:ZS M Z Z m f.u):FB M Z a (aC m f k d)/\(aC m f k d).u=f.u/\(aC m f k d).t=f.t/\(aC m f k d).start=f.start:=by
 obtain⟨A,r⟩:=Wyi h.fp j c o i g p;refine⟨⟨A,?_⟩,r⟩;unfold aC;split
 .exact h.rd
 .rw[sw c];intro e l;have b:e∈(bn m f f.κ[k] k d).1.o:=l;rcases UY (m:=m) (f:=f) (q:=f.κ[k]) (k:=k) (d:=d)with q|q
  .rw[q]at b;exact h.rd e b
  .rw[q]at b;rcases Xo.1 b with b|b
   .exact h.rd e b
   .unfold kx at b;obtain⟨z,s,rfl⟩:=Xy.1 b;obtain⟨u,B⟩:=fc.1 s;have B:z.2.2= -1:=by simpa using B
    rcases h.fp.ft.sn k c z u with⟨_,_,t⟩|⟨t,_⟩
    .exact t
    .omega
structure RO(b:Int->Int)(m:Mm)(H:List Wr)(C:Nat->Option Cm)(p:Pg)(x:Rt):Prop where
 u:0<=x.u/\x.u<=m.1
 Eo:x.g=0\/5<=x.g->bT x.o/\x.o.length<=300
 rd:∀r∈x.o,RC b m H C x.u r.1 r.2
 E:x.L=true->x.g=1/\x.k<p.1.length/\(opN p.1 x.k).1=5/\ZW b m H x.u x.E/\x.E.1=(opN p.1 x.k).2.2.1/\bf x.A (opN p.1 x.k).2.2.1=none
 ext:x.g=4->x.u<=x.EC/\x.EC<=m.1/\∀(i:Nat) (h:i<x.o.length),(i:Int)<x.pos->RC b m H C x.EC x.o[i].1 x.o[i].2
 n:x.g=2->x.n.u=x.u/\(∃Eo,x.n.start=al Eo)/\FB (RC b m H C x.u) (ZW b m H x.u) p.2 x.n
 fam0:x.g≠2->x.n={}
theorem RO.keep(B:RO b m H C p x)(f:∀v i z,RC b m H C v i z->RC b g j h v i z)(D:Mono b m H g j)(t:m.1<=g.1):RO b g j h p x:=
 ⟨⟨B.u.1,by have:=B.u.2;omega⟩,B.Eo,λr e=>f _ _ _ (B.rd r e),λn=>by
  obtain⟨a,c,d,u,A⟩:=B.E n;exact⟨a,c,d,u.mono D,A⟩,λl=>by
  obtain⟨a,c,d⟩:=B.ext l;exact⟨a,Ω,λi o q=>f _ _ _ (d i o q)⟩,λk=>by
  obtain⟨a,c,d⟩:=B.n k;exact⟨a,c,d.wk (λ_ _=>f _ _ _) λ_ s=>s.mono D⟩,B.fam0⟩
theorem RO.mk1(h:RO b m H C p x)(a:y.u=x.u)(c:y.o=x.o)(d:y.L=false)(f:y.g≠2)(g:y.g≠4)(j:y.n={})(ae:y.g=0\/5<=y.g->bT x.o/\x.o.length<=300):RO b m H C p y:=
 ⟨by rw[a];exact h.u,λz=>by rw[c];exact ae z,λr e=>by rw[a];exact h.rd r (by rw[<-c];exact e),λz=>(by rw[d]at z;cases z),λz=>Wh z g,λz=>Wh z f,λ_=>j⟩
theorem RO.nil(h:0<=m.1)(c:0<=y.u/\y.u<=m.1)(a:y.o= [])(d:y.L=false)(f:y.g≠2)(g:y.g≠4)(j:y.n={}):RO b m H C p y:=
 ⟨c,λ_=>by rw[a];exact⟨(λr e=>by cases e),Δ⟩,λr e=>(by rw[a]at e;cases e),λz=>(by rw[d]at z;cases z),λz=>Wh z g,λz=>Wh z f,λ_=>j⟩
theorem DG(a:0<=m.1):RO b m H C p (dE x):=RO.nil a ⟨Xt _,a⟩ rfl rfl (by show(6:Int)≠2;omega) (by show(6:Int)≠4;omega) rfl
theorem Pz(a:RLive p n x)(b:CC p.1):bT x.o/\x.o.length<=300:=by
 have c:=a.rl;have d:=a.k;have e:=rS b x.k.toNat Ω;have f:=b.len;exact⟨a.o,Ω⟩
theorem Va(h:RO b m H C p x)(d:x.g=1)(c:0<=m.1){y}(a:y.u=x.u/\y.o=x.o/\y.n=x.n):RO b m H C p (WA y):=by
 unfold WA;split
 .exact DG c
 .exact h.mk1 a.1 a.2.1 rfl (by show(3:Int)≠2;omega) (by show(3:Int)≠4;omega) (a.2.2.trans (h.fam0 Ω)) (λz=>by(change (3:Int)=0\/5<=(3:Int)at z;omega))
theorem WsK{out}(h:RO b m H C p x)(d:x.g=1)(a:x.L=false)(e:bT x.o/\x.o.length<=300):RO b m H C p (W9 w x k out).2:=by
 have c:=h.fam0 Ω;unfold W9 gi;simp only;generalize (if out=2 then []else x.A)=f;split
 .exact h.mk1 rfl rfl a (by show(8:Int)≠2;omega) (by show(8:Int)≠4;omega) c λ_=>e
 .exact h.mk1 rfl rfl a (by show(5:Int)≠2;omega) (by show(5:Int)≠4;omega) c λ_=>e
end
end
section
section
variable{M d:Int->Int->Prop}{Z Z':Pb->Prop}{a:List (List Opn)}{n:Int}{f g:Fm}{k:Nat}{b:List Opn}{m:Mm}{x y:Kd}{c:List Int}
theorem FV.wk(h:FV M a f)(o:∀c v,M c v->d c v):FV d a f:=
 ⟨h.sim,h.T,h.val,h.pz,λi j e g=>(h.mrg i j e g).imp id λ⟨l,b,c⟩=>⟨l,b,o _ _ c⟩⟩
def RSf(f:Fm):Prop:=∀k∈f.B,∀e∈(f.κ.getD k.toNat {}).M,e.2.2= -1->(e.1,e.2.1)∈f.o
theorem Woy{l}{e}(h:e∈l)(a:e.2.2= -1):(e.1,e.2.1)∈kx l:=by
 unfold kx;exact Xy.2 ⟨e,fc.2 ⟨h,by simp[a]⟩,rfl⟩
theorem Wyj(h:RSf f)(u:FT M f)(i:k<f.κ.length):RSf (aC m f k b):=by
 unfold aC;split
 .exact h
 rw[sw i];have A:∀q:Fm×Kd,q.1.κ=f.κ->(q.1.o=f.o\/∃l,q.1.o=f.o++l)->(q.1.B=f.B/\f.κ[k].g≠3\/q=dr f f.κ[k] k/\f.κ[k].g≠3\/q=(f,f.κ[k]))->RSf (Fm.put q k):=λq s t g=>by
  have sub:∀r∈f.o,r∈q.1.o:=λr c=>by
   rcases t with e|⟨l,e⟩<;>rw[e]
   .exact c
   .exact Xn _ c
  have d:f.κ[k].g≠3->∀j∈f.B,∀e∈((Fm.put q k).κ.getD j.toNat {}).M,e.2.2= -1->(e.1,e.2.1)∈q.1.o:=λF j a e E n=>by
   obtain⟨B,C,w⟩:=u.ord j a;have o:k≠j.toNat:=λz=>by subst z;exact F w
   have:(Fm.put q k).κ.getD j.toNat {}=f.κ.getD j.toNat {}:=by
    show(q.1.κ.set k q.2).getD _ _=_;rw[s,Xs,Xs,ly o]
   rw[this]at E;exact sub _ (h j a e E n)
  rcases g with⟨g,F⟩|⟨rfl,F⟩|rfl
  .intro j a;exact d F j (by rw[<-g];exact a)
  .intro j a;have a:=a;rcases Xo.1 a with a|a
   .exact d F j a
   .rw[dq]at a;subst a;intro e E n;have E:e∈((f.κ.set k (dr f f.κ[k] k).2).getD ((k:Nat):Int).toNat {}).M:=E;rw[Xf,Xs,yf i]at E;exact Xk _ (Woy E n)
  .have e:Fm.put (f,f.κ[k]) k=f:=by
    unfold Fm.put;simp only;rw[List.set_getElem_self i]
   rw[e];exact h
 have y:=Pn (m:=m) (f:=f) (x:=f.κ[k]) (k:=k) (b:=b);have p:=UY (m:=m) (f:=f) (q:=f.κ[k]) (k:=k) (d:=b);refine A _ y.2.2.2.1 (p.imp id λz=>⟨_,z⟩) ?_;unfold bn;split
 .rename_i h0;refine .inl ⟨?_,Ω⟩;unfold eI;split
  .rfl
  .simp only;split
   .unfold c3;cases bf f.κ[k].A (opN b f.κ[k].k).2.2.1 with
    |some v=>rfl
    |none=>
     cases ent f.buf (opN b f.κ[k].k).2.2.1 with
     |some r=>simp only;split<;>rfl
     |none=>simp only;generalize WU m f.u _=D;(repeat' split)<;>rfl
   .repeat' split
    all_goals rfl
 .split
  .refine .inl ⟨?_,Ω⟩;split<;>rfl
  .split
   .split
    .exact .inr (.inl ⟨rfl,Ω⟩)
    .refine .inl ⟨?_,Ω⟩;simp only;split<;>rfl
   .exact .inr (.inr rfl)
theorem WwZ{b}{c}{θ}{l}:RSf (cq b c θ l):=λk a=>by cases a
theorem WuB{c}{d}{θ}(b:Vals 4 d):FV M a (cq c d θ a.length):=(Wut (M:=M) (Z:=λ_=>True) b).fv
theorem WC4(p:FOk a n f)(D:a.length<=3)(l:FT M f)(o:FV M a f)(G:∀(k) (h),PK Z (a.getD k []) f f.κ[k])(s:RSf f)(w:ig f=true)(B:∃z,f.start=al z)(t:∀r∈f.o,c.getD r.1.toNat 0=r.2):FX a c f:=by
 have C:=p.len;have q:∀(k:Nat) (h:k<f.κ.length),f.κ[k].g=3:=λk d=>by
  have:=w;unfold ig at this;have:=List.all_eq_true.1 this _ (Xm d)
  grind
 have H:f.B.length=a.length:=by
  rw[p.done,<-C,List.countP_eq_length];intro I E;obtain⟨k,d,rfl⟩:=q8.1 E;simp[q k d]
 have A:∀k,k<f.κ.length->(k:Int)∈f.B:=λk d=>by
  have v:=Wul D H l.nod λx F=>by
   obtain⟨I,b,_⟩:=l.ord x F;omega
  simp only[gQ,Xr,List.not_mem_nil,or_false,Prod.mk.injEq]at v;rcases v with⟨j,g⟩|⟨j,g⟩|⟨j,g⟩|⟨j,g⟩|⟨j,g⟩|⟨j,g⟩|⟨j,g⟩|⟨j,g⟩|⟨j,g⟩|⟨j,g⟩<;>rw[g]<;>simp<;>omega
 refine⟨⟨n,p⟩,⟨λ_=>True,⟨l.buf,l.non,λk d e m=>?_,l.nod,l.ord⟩,⟨o.sim,o.T,o.val,o.pz,λi u e m=>?_⟩,λ_ k d y=>?_⟩,w,B⟩
 .refine(l.sn k d e m).imp (λ⟨I,b,J⟩=>⟨I,b,?_⟩) id;refine t (e.1,e.2.1) (s k (A k d) e ?_ I);rw[Xf,sw d];exact m
 .refine(o.mrg i u e m).imp id λ⟨I,b,J⟩=>⟨I,b,?_⟩;exact t (e.1,e.2.1) (s _ (Xm u) e m b)
 .have:=(G k d y).1;rw[q k d]at this;omega
end
section
variable{R:Type}{N m:Nat}{p:Pg}{T:Tg}{f:Ka6 R}{k:Ka4 R}
 {x y:Rt} {n:Int} {S:List Int×Int}
theorem WA4(E:1048576<N)(d:POk p)(K:∀c∈p.2,ff c=true)(u:ThOk T)(O:SV S)(h:AtS N m p T f k x S)(t:RLive p n x)(h2:x.g=2)(H:x.k<p.1.length/\(opN p.1 x.k).1=11)(D:FOk p.2 n x.n)(rk:x.n.t=x.t)(w:x.n.start=al x.A)(v:FX p.2 T.1 x.n)(A:y.k=x.k+1)(hr:y.t=rN x.n)(U:y.A=m5 x.n)(F:y.B=x.n.B)(Q:y.m=x.m):At0 N m p T f k y S:=by
 have L:=d.Y.len;obtain⟨i,r,q,W⟩:=jV (l:=p.1) t.k.1 H.1;have g:=H.2;rw[W]at g;obtain⟨d0,d1⟩:=d.Y.fk i r g;obtain⟨Y,o2⟩:=v.ord d.k3;obtain⟨C,o,P,S0,e,M⟩:=h;have G:x.m= []:=by
  have B:=Wq Xa t.m.Z;rw[q,Xf]at B;simp only[aP]at B;have e2:=gZ d.Y.up i Ω;exact eY Ω
 have e:S0=S:=by
  rcases e with z|⟨z,_⟩
  .exact z
  .omega
 subst e;have X:C=false:=by
  cases C
  .rfl
  .have a:=P rfl;rw[q,Xf]at a;have b:=uA (l:=p.1) r;rw[g]at b;have b:frk p.1 (i+1)=frk p.1 i+1:=b;omega
 subst X;obtain⟨Z,I⟩:=v.fa;have V:=FZ.of I.ft D d.k3 (λc s=>(d.κ c s).len) w;obtain⟨q1,q2⟩:=WxE (b:=T.1) D I.ft V u.S;have tB:ovl T.1 x.n.start=ovl T.1 x.A:=by rw[w];exact WuS u.S t.A (t.wl3 d)
 refine⟨true,⟨(λz=>by cases z),λ_=>by rw[F];exact Y⟩,λ_=>?_,λl J=>?_⟩
 .rw[A,q,show((i:Int)+1).toNat=i+1 by omega];have b:=uA (l:=p.1) r;rw[g]at b;have b:frk p.1 (i+1)=frk p.1 i+1:=b;have:=rS d.Y (i+1) Ω;omega
 .have zQ:=(J rfl).trans F;subst zQ;have j:=M x.n.B (λz=>by cases z);rw[A,hr,Q,U,G,d6];rw[G,d6,q]at j;rw[q];refine j.on E Ω Ω λn=>?_;have:=WDG (R:=R) (k:=m) (V:=p.1) (U:=p.2) (X:=T.2.2) (Z:=T.1) (W:=T.2.1) (l:=f) (K:=k) (n:=n) (Y:=S0.2) (mk:=[]) (m:=S0.1) (E:=T.1) (f:=x.n) E r L g d.k3 v u.S (λc s=>⟨K c s,(d.κ c s).len⟩) O.len;rw[tB,rk,<-q1]at this;exact this
end
end
section
abbrev V3:=Int->Int->Int->Prop
structure GE where
 st:Int
 f:Int->Option Int
 d:Int
structure Con(a:Int->Int->Prop)(l:List Hd)(k:Nat)(rd:List Rw)(T:Tg):Prop where
 ok:ThOk T
 rd:∀r∈rd,T.1.getD r.1.toNat 0=r.2
 key:∀i,0<=i->i<=7->hld l k i->a i (T.2.1.getD i.toNat 0)
 W:xld l k 8->a 8 T.2.2
def gS(g:Option GE)(T:Tg):List Int×Int:=((List.range 8).map λi:Nat=>match g with
 |some e=>(e.f (i:Int)).getD (T.2.1.getD i 0)
 |none=>T.2.1.getD i 0,(T.2.2+match g with|some e=>e.d|none=>0)%65536)
section
variable{R:Type}{N d:Nat}{a:Ka5 R}{b:Ka4 R}
 {M o I q:V3} {e j:Int->Int->Prop} {f:List Rw} {l h:List Hd} {m r:Shf} {g:Option GE} {k:Nat} {p:Pg} {w v:Wo} {x y:Rt} {n:Int} {T:Tg} {S:List Int×Int} {i:Nat} {u:Un}
def FnS(N d:Nat)(p:Pg)(a:Ka5 R)(b:Ka4 R)(x:Rt)(T:Tg)(c:List Int)(S:List Int×Int):Prop:=
 ∃e:Bool,OF p e x/\∀l,(e=true->l=x.B)->(x.H=1/\∃mk,bgn N d p T (a T) b l=b (p.1.length:Int) false x.t S.2 mk c S.1)\/(x.H=2/\bgn N d p T (a T) b l=a T x.t)
theorem FnS.same{c}(h:FnS N d p a b x T c S)(m:y.B=x.B)(q:y.H=x.H)(e:y.t=x.t):FnS N d p a b y T c S:=by
 obtain⟨j,o,h⟩:=h;exact⟨j,o.eq m,λl f=>Ψ⟩
structure SR(N d:Nat)(a:Ka5 R)(b:Ka4 R)(M I:V3)(f:List Rw)(g:Option GE)(p:Pg)(x:Rt):Prop where
 u:x.u<=Wn x
 rd:∀r∈x.o,M (if x.u<Wn x then Wn x-1 else Wn x) r.1 r.2
 gst:(g≠none\/f≠ []->x.u<Wn x/\x.H=1)/\∀e,g=some e->e.st=Wn x
 sim:∃(hk:Int->Prop) (fv:Int->Int),(∀i,hk i->I (if x.u<Wn x then Wn x-1 else Wn x) i (fv i))/\∀T,ThOk T->(∀r∈x.o,T.1.getD r.1.toNat 0=r.2)->(∀i,0<=i->i<=7->hk i->T.2.1.getD i.toNat 0=fv i)->(hk 8->T.2.2=fv 8)->FnS N d p a b x T (ovl T.1 f) (gS g T)
theorem SR.same(h:SR N d a b M I f g p x)(B:y.B=x.B)(i:y.H=x.H)(j:y.t=x.t)(o:y.u=x.u)(q:y.o=x.o)(r:Wn y=Wn x):SR N d a b M I f g p y:=by
 obtain⟨t,z,c,k,fv,A,e⟩:=h;refine⟨Ω,Ψ,Ψ,k,fv,Ψ,λT l s m n=>(e T l Θ m n).same B i j⟩
theorem SR.wk(h:SR N d a b M I f g p x)(j:∀v c z,M v c z->o v c z)(s:∀v c z,I v c z->q v c z):SR N d a b o q f g p x:=by
 obtain⟨m,t,c,l,fv,A,e⟩:=h;exact⟨m,λr f=>j _ _ _ (t r f),c,l,fv,λi k=>s _ _ _ (A i k),e⟩
def HU(l:List Hd)(k:Nat)(x:Rt):Prop:=∀u∈x.y,((u.1=1\/u.1=2)->xld l k u.2.1)/\(u.1=3->hld l k 8)
structure RA(N d:Nat)(a:Ka5 R)(b:Ka4 R)(M I:V3)(e:Int->Int->Prop)(f:List Rw)(l:List Hd)(m:Shf)(g:Option GE)(k:Nat)(p:Pg)(x:Rt):Prop where
 z0:x.g=0\/x.g=8\/(x.g=7/\x.H≠1)->x.y= []
 fa:(x.H=0\/x.H=1\/x.H=2)/\(x.g<=4->x.H=0)/\(x.g=5\/x.g=8->x.H≠0)/\(x.g=6->x.H≠1)
 hu:HU l k x
 gn:stl x=false->g=none
 main:x.g=1\/x.g=2->∀T,Con e l k x.o T->AtS N d p T (a T) b x (svw l m k T x.y)
 blk:1<=x.g/\x.g<=4->∀j,j<x.m.length->∀T,Con e l k (x.o.take (x.m.getD j zRM).2.1.toNat) T->MkA N d p T (a T) b x (svw l m k T x.y) j
 x4:x.g=4->(x.y.length:Int)<=x.last.2.2.2.1
 n:x.g=2->x.n.t=x.t/\x.n.start=al x.A/\FV (M x.u) p.2 x.n/\RSf x.n
 cl:x.g=5->x.l.u=x.u/\(∀r∈x.o,r.1∈x.l.o)/\(x.H=2->x.l.w= [])
 ck:x.g=5->x.l.g=3->x.u<x.l.F/\∀(j:Nat) (h:j<x.l.o.length),(j:Int)<x.l.pos->∀v,(x.l.o[j],v)∈x.o->M (x.l.F-1) x.l.o[j] v
 cs:x.g=5->stl x=false->∀T,Con e l k x.o T->FnS N d p a b x T (ovl T.1 x.l.w) (svw l m k T x.y)
 fin:stl x=true->SR N d a b M I f g p x
 s8:stl x=true->x.g≠8->x.u<Wn x
theorem Wyv(b:∀i,hld h k i↔hld l k i)(e:∀i,0<=i->i<=7->hld l k i->WE r.1 i=WE m.1 i){c}:svw h r k T c=svw l m k T c:=by
 refine Ab pp pp (λi a=>?_) rfl;rw[qn a,qn a]
 grind
theorem RA.wk(P:RA N d a b M I e f l m g k p x)(U:∀v c z,M v c z->o v c z)(y:∀v c z,I v c z->q v c z)(A:∀i,0<=i->i<=7->hld l k i->∀v,j i v->e i v)(J:xld l k 8->∀v,j 8 v->e 8 v)(n:∀i,hld h k i↔hld l k i)(s:∀i,xld h k i↔xld l k i)(H:∀i,0<=i->i<=7->hld l k i->WE r.1 i=WE m.1 i):RA N d a b o q j f h r g k p x:=by
 have K:∀{rd T},Con j h k rd T->Con e l k rd T:=λc=>⟨c.ok,c.rd,λi t w V=>A i t w V _ (c.key i t w ((n i).2 V)),λz=>J z _ (c.W ((s 8).2 z))⟩;have O:∀T L,svw h r k T L=svw l m k T L:=λT L=>Wyv n H;exact⟨P.z0,P.fa,λu W=>⟨λz=>(s _).2 ((P.hu u W).1 z),λz=>(n _).2 ((P.hu u W).2 z)⟩,P.gn,λz T c=>by rw[O];exact P.main z T (K c),λz Q B T c=>by rw[O];exact P.blk z Q B T (K c),P.x4,λz=>by
  obtain⟨E,F,c,G⟩:=P.n z;exact⟨E,F,c.wk λ_ _=>U _ _ _,G⟩,P.cl,λz D=>by
  obtain⟨E,F⟩:=P.ck z D;simp_all,λz C T c=>by rw[O];exact P.cs z C T (K c),λz=>(P.fin z).wk U y,P.s8⟩
theorem RA.EE(h:g=none)(q:y.g=0\/y.g=6\/y.g=7)(o:y.H=0)(r:y.g=0\/y.g=7->y.y= [])(j:HU l k y):RA N d a b M I e f l m g k p y:=by
 have c:stl y=false:=by
  grind [stl,WP]
 exact⟨λz=>r Ω,⟨.inl o,λ_=>o,λz=>Ω,λz=>Ω⟩,j,λ_=>h,λz=>Ω,λz=>Ω,λz=>Ω,λz=>Ω,λz=>Ω,λz=>Ω,λz=>Ω,λz=>Ψ,λz=>Ψ⟩
theorem gw(h:x.g<=4):stl x=false:=by
 grind [stl,WP]
theorem RA.g0(h:RA N d a b M I e f l m g k p x)(c:x.g<=4):g=none:=h.gn (gw c)
theorem Ha(h:RA N d a b M I e f l m g k p x)(c:stl x=false):RA N d a b M I e f l m g k p (dE x):=
 RA.EE (h.gn c) (.inr (.inl rfl)) rfl (λz=>by(change (6:Int)=0\/(6:Int)=7 at z;omega)) h.hu
theorem RA.Ev(q:g=none)(h:1<=y.g/\y.g<=4)(c:y.H=0)(s:HU l k y)(t:y.g=1\/y.g=2->∀T,Con e l k y.o T->AtS N d p T (a T) b y (svw l m k T y.y))
  (mk:∀j,j<y.m.length->∀T,Con e l k (y.o.take (y.m.getD j zRM).2.1.toNat) T->MkA N d p T (a T) b y (svw l m k T y.y) j) (r:y.g=4->(y.y.length:Int)<=y.last.2.2.2.1) (o:y.g=2->y.n.t=y.t/\y.n.start=al y.A/\FV (M y.u) p.2 y.n/\RSf y.n):RA N d a b M I e f l m g k p y:=
 ⟨λz=>Ω,⟨.inl c,λ_=>c,λz=>Ω,λz=>Ω⟩,s,λ_=>q,t,λ_=>mk,r,o,λz=>Ω,λz=>Ω,λz=>Ω,λz=>(by grind [gw]),λz=>(by grind [gw])⟩
theorem Ad(E:∀j,j<x.m.length->∀T,Con e l k (x.o.take (x.m.getD j zRM).2.1.toNat) T->MkA N d p T (a T) b x (svw l m k T x.y) j)(o:y.m.length<=x.m.length)(B:∀j,j<y.m.length->y.m.take (j+1)=x.m.take (j+1))(i:y.B=x.B)(f:∀q∈y.m,y.o.take q.2.1.toNat=x.o.take q.2.1.toNat)(n:∀q∈y.m,y.A.take q.2.2.1.toNat=x.A.take q.2.2.1.toNat)(F:∀{T z},Con e h k z T->Con e l k z T)(D:∀T z,Con e h k z T->∀q∈y.m,la (svw h r k T y.y) (y.y.drop q.2.2.2.1.toNat)=la (svw l m k T x.y) (x.y.drop q.2.2.2.1.toNat)):∀j,j<y.m.length->∀T,Con e h k (y.o.take (y.m.getD j zRM).2.1.toNat) T->MkA N d p T (a T) b y (svw h r k T y.y) j:=λj A T c=>by
 have s:y.m.getD j zRM=x.m.getD j zRM:=by
  have:=Wq (λl:List RM=>l[j]?) (B j A);simp only[Xgs (nq j)]at this;rw[Xs,Xs,this]
 have C:∀q∈x.m.take (j+1),q∈y.m:=λq t=>by
  grind
 have g:y.m.getD j zRM∈y.m:=Θ
 refine(E j Ω T ?_).keep i (B j A) Ω A (λq t=>n q (C q t)) λq t=>D T _ c q (C q t)
 grind
theorem Ar(h:RA N d a b M I e f l m g k p x)(z:1<=x.g/\x.g<=4)(r:y.m=x.m)(s:y.B=x.B)(f:∀q∈x.m,y.o.take q.2.1.toNat=x.o.take q.2.1.toNat)(i:y.A=x.A)(t:y.y=x.y):∀j,j<y.m.length->∀T,Con e l k (y.o.take (y.m.getD j zRM).2.1.toNat) T->MkA N d p T (a T) b y (svw l m k T y.y) j:=
 Ad (h.blk z) Ψ (λj A=>by rw[r]) s (λq o=>f q Ψ) (λq o=>by rw[i]) (λc=>c) λT n c q o=>by rw[t]
theorem Ve(h:RA N d a b M I e f l m g k p x)(j:x.g=1)(r:y.m=x.m)(c:y.B=x.B)(s:y.o=x.o)(A:y.A=x.A)(t:y.y=x.y)(i:y.H=x.H):RA N d a b M I e f l m g k p (WA y):=by
 have o:HU l k y:=λu o=>h.hu u Ψ;unfold WA;split
 .exact RA.EE (h.g0 Ω) (.inr (.inl rfl)) rfl (λz=>by(change (6:Int)=0\/(6:Int)=7 at z;omega)) o
 .refine RA.Ev (h.g0 Ω) ⟨Ψ,Ψ⟩ (i.trans (h.fa.2.1 Ω)) o (λz=>Ψ) (Ar h Ω r c (λq B=>by show y.o.take _=_;rw[s]) A t) (λz=>Ψ) λz=>Ψ
theorem WAu(h:RA N d a b M I e f l m g k p x)(t:1<=x.g/\x.g<=4)(A:ShOk m)(i:UnV u)(B:x.y=x.y.dropLast++ [u])(C:∀q∈x.m,q.2.2.2.1.toNat<x.y.length):∀j,j<x.m.length->∀T,Con e l k (x.o.take (x.m.getD j zRM).2.1.toNat) T->MkA N d p T (a T) b {x with y:=x.y.dropLast} (svw l (gL m u) k T x.y.dropLast) j:=by
 have s:u∈x.y:=Θ
 refine Ad (y:={x with y:=x.y.dropLast}) (r:=gL m u) (h.blk t) (Xj _) (λj n=>rfl) rfl (λq r=>rfl) (λq r=>rfl) (λc=>c) λT o c q r=>?_;show la (svw l (gL m u) k T x.y.dropLast) (x.y.dropLast.drop _)=_;rw[<-ZG A i (λz=>((h.hu u s).1 z).h) c.ok,<-B]
 grind [X9]
theorem Wvf(h:HU l k x):HU l k {x with y:=x.y.dropLast}:=λu a=>h u (Ss _ a)
theorem Ww4{a:List Un}(h:a≠ []):a=a.dropLast++ [eQ a (0,0,0)]:=by
 grind [eQ,List.length_pos_iff,Wk,List.dropLast_concat_getLast]
theorem QF(h:RA N d a b M I e f l w.D g k p x)(i:ShOk w.D)(s:ROk p n x)(t:(x.g=1/\(opN p.1 x.k).1=10/\x.m≠ []\/x.g=3)/\(∀q∈x.m,q.2.2.2.1.toNat<x.y.length)\/x.g=6)(m:x.y≠ []):RA N d a b M I e f l (ez w x).1.D g k p (ez w x).2:=by
 have A:=Ww4 m;have D:eQ x.y (0,0,0)∈x.y:=by
  grind
 have j:=s.y _ D;unfold ez;rcases t with⟨t,B⟩|h6
 .have jH:=WAu h Ω i j A B;refine RA.Ev (h.g0 Ω) Θ (h.fa.2.1 Ω) (Wvf h.hu) (λz T c=>?_) jH (λz=>Θ) λz=>Θ
  rcases t with⟨C,o,r⟩|h3
  .have:=WA1 (h.main (.inl C) T c) C o r B A;rw[<-ZG i j (λz=>((h.hu _ D).1 z).h) c.ok,<-A];exact this
  grind
 .refine⟨λz=>?_,h.fa,Wvf h.hu,h.gn,λz=>?_,λz=>?_,λz=>?_,λz=>?_,λz=>?_,λz=>?_,λz=>?_,λz=>(h.fin z).same rfl rfl rfl rfl rfl rfl,h.s8⟩
  all_goals grind
end
end
section
section
variable{l b:List Hd}{k j:Nat}{i c d a:Int}{e:Hd}
theorem R0(h:HOk l){a b}(m:a∈l)(n:b∈l)(e:a.2.1=b.2.1)(k:a≠b):a.1≠b.1/\a.2.2≠2/\b.2.2≠2:=by
 obtain⟨i,c,rfl⟩:=cN m;obtain⟨j,d,rfl⟩:=cN n;have f:=fh.1 h.up;have g:∀x y:Hd,HdB x y->x.2.1=y.2.1->x.1≠y.1:=λx y z o p=>by
  have:=z.1;unfold cfH at this
  grind
 rcases Nat.lt_trichotomy i j with z|z|z
 .have:=f i j c d z;exact⟨g _ _ this e,(this.2 e).1,(this.2 e).2⟩
 .subst z;exact Wh rfl k
 .have:=f j i d c z;exact⟨λz=>g _ _ this e.symm z.symm,(this.2 e.symm).2,(this.2 e.symm).1⟩
theorem rY(h:HOk l)(n:hld l j i)(o:xld l k i):j=k:=by
 obtain⟨a,c,p,d⟩:=n;obtain⟨b,f,q,g,m⟩:=o;by_cases e:a=b
 .subst e;omega
 .exact Wh m (R0 h c f (d.trans g.symm) e).2.2
theorem WxG(h:HOk l)(g:e∈l)(d:e.1=a)(f:e.2.1=c):j8 l a c=e.2.2:=by
 unfold j8;cases hf:fnd (nf a c) l 0 with
 |none=>
  have:=Dp hf e g;unfold nf at this;simp[d,f]at this
 |some r=>
  obtain⟨m,i,n,b⟩:=m4 hf;rw[d4]at n;rw[vu,Xq n]at b;injection b with b;unfold nf at m;simp only[Xl,Wg]at m;simp only;rw[<-b]at m|-;by_cases z:l[r.1]=e
  .rw[z]
  .exact Wh (m.1.trans d.symm) (R0 h (Xm n) g (m.2.trans f.symm) z).1
structure AskF(l b:List Hd)(k:Nat)(c d:Int):Prop where
 hh:∀i,hld b k i↔hld l k i\/i=c
 xx:∀i,xld b k i↔xld l k i\/(i=c/\d=2)
 oth:∀j,j≠k->∀i,(hld b j i↔hld l j i)/\(xld b j i↔xld l j i)
 X:∀h∈l,h.2.1=c->h.1≠(k:Int)+1->d≠2/\h.2.2≠2
theorem TS(h:HOk l)(F:d=1\/d=2)(g:fN l ((k:Int)+1) c d=some b):AskF l b k c d:=by
 unfold fN at g;split at g
 .rename_i hb;injection g with g;subst g;have f:=λx=>nF (e:=((k:Int)+1,c,kh (j8 l ((k:Int)+1) c) d)) (x:=x) lH h.ris;have s:kh (j8 l ((k:Int)+1) c) d=2↔xld l k c\/d=2:=by
   have G:=WwG (a:=(k:Int)+1) (b:=c) h;constructor
   .intro z;by_cases t:d=2
    .exact .inr t
    .have n:j8 l ((k:Int)+1) c=2:=by unfold kh at z;split at z<;>omega
     left;unfold j8 at n;cases hf:fnd (nf ((k:Int)+1) c) l 0 with
     |none=>rw[hf]at n;simp at n
     |some r=>
      rw[hf]at n;obtain⟨o,B,q,p⟩:=m4 hf;rw[d4]at q;rw[vu,Xq q]at p;injection p with p;unfold nf at o;simp only[Xl,Wg]at o;exact⟨r.2,p▸Xm q,o.1,o.2,n⟩
   .rintro(⟨e,u,v,w,y⟩|z)
    .rw[WxG h u v w,y];unfold kh;split<;>omega
    .unfold kh;split<;>omega
  refine⟨λi=>⟨?_,?_⟩,λi=>⟨?_,?_⟩,λj E i=>⟨⟨?_,?_⟩,⟨?_,?_⟩⟩,λx A C t=>?_⟩
  .rintro⟨a,H,J,I⟩;rcases(f a).1 H with rfl|⟨H,_⟩
   .exact .inr I.symm
   .exact .inl ⟨a,H,J,I⟩
  .rintro(⟨a,H,J,I⟩|rfl)
   .by_cases e:i=c
    .exact⟨_,(f _).2 (.inl rfl),rfl,e.symm⟩
    .exact⟨a,(f a).2 (.inr ⟨H,apH.2 λz=>e (I.symm.trans z.2)⟩),J,I⟩
   .exact⟨_,(f _).2 (.inl rfl),rfl,rfl⟩
  .rintro⟨a,H,J,I,m⟩;rcases(f a).1 H with rfl|⟨H,_⟩
   .rcases s.1 m with z|z
    .rw[<-I];exact .inl z
    .exact .inr ⟨I.symm,z⟩
   .exact .inl ⟨a,H,J,I,m⟩
  .rintro(⟨a,H,J,I,m⟩|⟨rfl,z⟩)
   .by_cases e:i=c
    .exact⟨_,(f _).2 (.inl rfl),rfl,e.symm,s.2 (.inl ⟨a,H,J,I.trans e,m⟩)⟩
    .exact⟨a,(f a).2 (.inr ⟨H,apH.2 λz=>e (I.symm.trans z.2)⟩),J,I,m⟩
   .exact⟨_,(f _).2 (.inl rfl),rfl,rfl,s.2 (.inr z)⟩
  .rintro⟨a,H,J,I⟩;rcases(f a).1 H with rfl|⟨H,_⟩
   .omega
   .exact⟨a,H,J,I⟩
  .rintro⟨a,H,J,I⟩;exact⟨a,(f a).2 (.inr ⟨H,apH.2 λz=>Ω⟩),J,I⟩
  .rintro⟨a,H,J,I⟩;rcases(f a).1 H with rfl|⟨H,_⟩
   .omega
   .exact⟨a,H,J,I⟩
  .rintro⟨a,H,J,I⟩;exact⟨a,(f a).2 (.inr ⟨H,apH.2 λz=>Ω⟩),J,I⟩
  .refine Classical.byContradiction λD=>?_;have:x.1∈rZ l ((k:Int)+1) c d:=Xy.2 ⟨x,fc.2 ⟨A,by grind [blk]⟩,rfl⟩;rw[hb]at this;cases this
 .cases g
end
section
variable{R:Type}{N c:Nat}{a:Ka5 R}{b:Ka4 R}
 {M m I o:V3} {e j:Int->Int->Prop} {d:List Rw} {l h:List Hd} {f q:Shf} {g:Option GE} {k:Nat} {p:Pg} {w v:Wo} {x y:Rt} {n:Int} {T:Tg} {S:List Int×Int} {i:Nat} {u:Un}
structure SK(e:Int->Int->Prop)(w:Wo)(k:Nat)(x:Rt):Prop where
 one:∀i v a,e i v->e i a->v=a
 X:∀i,0<=i->i<=7->(∀h∈w.a,h.2.1=i->h.2.2≠2)->e i (WE w.D.1 i)
 W:(∀h∈w.a,h.2.1=8->h.1=(k:Int)+1)->∀c,e 8 c->w.D.2=(c+dl x.y)%65536
theorem Wux{r}:∀{l},r∈l->∃v,lst l r.1=some v
 |a::l,h=>by
  rw[lst];cases hq:lst l r.1 with
  |some v=>exact⟨v,rfl⟩
  |none=>
   rcases Xr.1 h with rfl|h
   .exact⟨_,Wb rfl⟩
   .obtain⟨v,b⟩:=Wux h;rw[hq]at b;cases b
theorem WCI(f:1048576<N)(t:POk p)(h:AtS N c p T (a T) b x S)(y:x.g=1)(v:0<=x.k/\x.k<=p.1.length){out}(s:(out=1/\x.k=p.1.length)\/(out=2/\x.k<p.1.length/\(opN p.1 x.k).1=10/\x.m= [])):FnS N c p a b {x with H:=out} T (ovl T.1 x.A) S:=by
 have k:=t.Y.len;obtain⟨q,o,A,S0,C,B⟩:=h;obtain⟨i,g⟩:∃i:Nat,x.k=i:=⟨x.k.toNat,Ω⟩;refine⟨q,⟨o.no,o.yes⟩,λl j=>?_⟩;have B:=B l j;rw[g]at B;rcases s with⟨rfl,e⟩|⟨rfl,w,d,m⟩
 .left;have C:S0=S:=by
   rcases C with z|⟨_,z,_⟩
   .exact z
   .have:opN p.1 x.k=(0,0,0,0):=by
     unfold opN;rw[Xs,sG Ω];rfl
    rw[this]at z;cases z
  subst C;have r:i=p.1.length:=Ω
  subst r;exact⟨rfl,_,B.fin f k λn=>TR⟩
 .right;have D:i<p.1.length:=Ω
  have u:p.1[i].1=10:=by
   rw[g,uQ D]at d;exact d
  rw[m]at B;exact⟨rfl,B.fin f Ω λn=>TG D u⟩
theorem WzD(h:(w9 l ((k:Int)+1)).length=0){i}:¬hld l k i:=λ⟨e,a,b,_⟩=>Vj h e a b
theorem WzV{c}(h:∀u∈c,u.1≠3):dl c=0:=by
 induction c with
 |nil=>rfl
 |cons a c ih=>
  rw[dl,Wa (h a (Xg ..)),ih λu b=>h u (Xe _ b)];omega
theorem WzC(h:HU l k x)(j:∀u∈x.y,UnV u)(b:∀i,¬hld l k i):x.y= []:=by
 cases hu:x.y with
 |nil=>rfl
 |cons a e=>
  exfalso;have c:a∈x.y:=by rw[hu];exact Xg ..
  obtain⟨d,f⟩:=h a c;rcases j a c with⟨z,_⟩|⟨z,_⟩|⟨z,_⟩
  .exact b _ (d (.inl z)).h
  .exact b _ (d (.inr z)).h
  .exact b _ (f z)
theorem YC(H:1048576<N)(B:POk p)(h:RA N c a b M I e [] w.a w.D g k p x)(X:x.g=1)(C:ROk p n x)(V:x.U=false)(G:∀r∈x.o,M x.u r.1 r.2){out}(L:(out=1/\x.k=p.1.length)\/(out=2/\x.k<p.1.length/\(opN p.1 x.k).1=10/\x.m= [])):
  RA N c a b M I e [] (W9 w x k out).1.a (W9 w x k out).1.D g k p (W9 w x k out).2:=by
 have f:=C.Ev Ω;have d:=h.g0 Ω;have Q:=f.wl3 B;have W:=λT (Y:Con e w.a k x.o T)=>WCI H B (h.main (.inl X) T Y) X f.k L;unfold W9;simp only;generalize t:(if out=2 then []else x.A)=U;split
 .rename_i hz;have j:∀i,¬hld w.a k i:=λi=>WzD hz.2;have F:=WzC h.hu C.y j;have m:stl (gi w {x with H:=out,ED:=x.u} k).2=true:=by rw[WP];exact .inl rfl
  have qa1:Wn (gi w {x with H:=out,ED:=x.u} k).2=x.u:=by
   rfl
  refine⟨λ_=>rfl,⟨by show out=0\/out=1\/out=2;omega,λz=>by(change (8:Int)<=4 at z;omega),λ_=>by show out≠0;omega,λz=>by(change (8:Int)=6 at z;omega)⟩,(λu O=>by cases O),λz=>(by cases z),?_,?_,?_,?_,?_,?_,?_,λ_=>⟨?_,?_,⟨λz=>?_,?_⟩,λ_=>False,λ_=>0,(λi z=>z.elim),λT R S _ _=>?_⟩,λ_ z=>Wh rfl z⟩
  .intro z;(change (8:Int)=1\/(8:Int)=2 at z);omega
  .intro z;(change (1:Int)<=8/\(8:Int)<=4 at z);omega
  .intro z;(change (8:Int)=4 at z);omega
  .intro z;(change (8:Int)=2 at z);omega
  .intro z;(change (8:Int)=5 at z);omega
  .intro z;(change (8:Int)=5 at z);omega
  .intro z;(change (8:Int)=5 at z);omega
  .exact Xt _
  .show∀r∈x.o,M (if x.u<x.u then _ else _) _ _;rw[Wa Ω];exact G
  .rw[d]at z;simp at z
  .intro qa0 he;rw[d]at he;cases he
  .have Y:Con e w.a k x.o T:=⟨R,S,λi _ _ z=>Wh z (j i),λz=>Wh z.h (j 8)⟩;have J:gS g T=svw w.a w.D k T x.y:=by
    rw[d,F];refine Ab (by simp[gS]) pp (λi K=>?_) rfl;rw[qn K,Wa (j i)];unfold gS;have E:i.toNat<8:=Ω
    rw[Wk (by simpa using E),eZ,HP]
   rw[J];obtain⟨A,o,q⟩:=W T Y;refine⟨A,⟨o.no,o.yes⟩,λl s=>?_⟩;rcases q l s with q|q
   .left;have:x.A= []:=by
     have X:out=1:=q.1;rw[<-t,Wa Ω]at hz;exact eY hz.1
    rw[this]at q;exact q
   .exact .inr q
 .have m:stl {x with H:=out,l:=cx ((k:Int)+1) x.u U x.o,g:=5}=false:=by
   cases Z:stl {x with H:=out,l:=cx ((k:Int)+1) x.u U x.o,g:=5}
   .rfl
   .rw[WP]at Z;simp only[cx]at Z;split at Z<;>omega
  refine⟨?_,⟨by show out=0\/out=1\/out=2;omega,λz=>by(change (5:Int)<=4 at z;omega),λ_=>by show out≠0;omega,λz=>by(change (5:Int)=6 at z;omega)⟩,h.hu,λ_=>d,?_,?_,?_,?_,λ_=>⟨rfl,?_,λz=>?_⟩,λ_ z=>?_,λ_ _ T Y=>?_,λz=>(by rw[m]at z;cases z),λz=>(by rw[m]at z;cases z)⟩
  .intro z;(change (5:Int)=0\/(5:Int)=8\/(5:Int)=7/\_ at z);omega
  .intro z;(change (5:Int)=1\/(5:Int)=2 at z);omega
  .intro z;(change (1:Int)<=5/\(5:Int)<=4 at z);omega
  .intro z;(change (5:Int)=4 at z);omega
  .intro z;(change (5:Int)=2 at z);omega
  .intro r bj;have y:=Pz f B.Y;have D:=y.1 r bj;obtain⟨v,P⟩:=Wux bj;refine Xy.2 ⟨(r.1,v),zG.2 ⟨⟨D.1.1,D.1.2⟩,?_⟩,rfl⟩;rw[C1 y.1 y.2];exact P
  .have h2:=z;rw[<-t,Wb h2];rfl
  .simp only[cx]at z;split at z<;>omega
  .obtain⟨A,o,q⟩:=W T Y;refine⟨A,⟨o.no,o.yes⟩,λl s=>?_⟩;rcases q l s with q|q
   .left;have X:out=1:=q.1;show out=1/\∃mk,bgn N c p T (a T) b l=b (p.1.length:Int) false x.t (svw w.a w.D k T x.y).2 mk (ovl T.1 (al U)) (svw w.a w.D k T x.y).1;rw[<-t,Wa Ω,WuS Y.ok.S f.A Q];exact q
   .exact .inr q
end
end
section
section
variable{R:Type}{N j:Nat}{a:Ka5 R}{b:Ka4 R}
 {M f I h:V3} {W e:Int->Int->Prop} {V:List Rw} {l d:List Hd} {c m:Shf} {g:Option GE} {k:Nat} {p:Pg} {w v:Wo} {x y:Rt} {n:Int} {T:Tg} {S:List Int×Int} {i:Nat} {u:Un}
theorem WBs(K:1048576<N)(Z:POk p)(h:RA N j a b M I W V w.a w.D g k p x)(X:x.g=1)(Q:ROk p n x)(c:x.k=(i:Int))(bW)(A:p.1[i].1=5):RA N j a b M I W V w.a w.D g k p (dX w x p.1[i]):=by
 have d:=Q.Ev Ω;have C:=d.wl3 Z;have B:=h.g0 Ω;have D:=h.fa.2.1 Ω;obtain⟨U,_⟩:=Z.Y.ok i bW;obtain⟨qa0,qa1⟩:=nh U A;have e:0<=p.1[i].2.2.1/\p.1[i].2.2.1<=7:=by grind [cp]
 have s:∀(y:Rt) (v:Int),y.g=1->y.B=x.B->y.k=x.k+1->y.A=x.A->y.m=x.m->y.y=x.y->y.H=x.H->y.t=gh x.t p.1[i].2.1 v->(∀q∈x.m,y.o.take q.2.1.toNat=x.o.take q.2.1.toNat)->(∀r∈x.o,r∈y.o)->(∀T,Con W w.a k y.o T->(ovl T.1 x.A).getD p.1[i].2.2.1.toNat 0=v)->RA N j a b M I W V w.a w.D g k p y:=λy v E l F o t f G H J R S=>by
  refine RA.Ev B Ω (G.trans D) (λu P=>h.hu u (by rw[<-f];exact P)) (λ_ T Y=>?_) (Ar h Ω t l J o f) (λz=>Ω) λz=>Ω
  rw[f];exact(WA6 K Z Y.ok (h.main (.inl X) T ⟨Y.ok,λr V=>Y.rd r (R r V),Y.key,Y.W⟩) d c bW A E l F o t f (by rw[S T Y];exact H)).s
 unfold dX;cases oI:bf x.A p.1[i].2.2.1 with
 |some val=>exact s _ val X rfl rfl rfl rfl rfl rfl rfl (λq O=>rfl) (λr V=>V) λT Y=>(WvT Y.ok.S d.A C e.1 e.2).1 oI
 |none=>
  simp only;generalize WU w.i x.u _=q;split
  .exact Ve h X rfl rfl rfl rfl rfl rfl
  split
  .refine s _ q.2.2.2 X rfl rfl rfl rfl rfl rfl rfl (λm L=>QO (d.upd m L).1.1) (λr V=>Xn _ V) λT Y=>?_;rw[(WvT (v:=0) Y.ok.S d.A C e.1 e.2).2 oI];exact Y.rd (p.1[i].2.2.1,q.2.2.2) (Xk _ (dq.2 rfl))
  .exact RA.Ev B (by show 1<=x.g/\x.g<=4;omega) D h.hu (λ_ T Y=>(h.main (.inl X) T Y).same rfl rfl rfl rfl rfl rfl rfl) (Ar h Ω rfl rfl (λq O=>rfl) rfl rfl) (λz=>by(change x.g=4 at z;omega)) λz=>by(change x.g=2 at z;omega)
theorem Wy9(K:1048576<N)(O:POk p)(h:RA N j a b M I W V w.a w.D g k p x)(t:x.g=1)(Q:ROk p n x)(c:x.k=(i:Int))(bW)(B:p.1[i].1≠5/\p.1[i].1≠10/\p.1[i].1<11):RA N j a b M I W V (am w x k p).1.a (am w x k p).1.D g k p (am w x k p).2:=by
 have v:=Q.Ev Ω;have L:=h.g0 Ω;have upd:=v.upd;have d:=λT (Z:Con W w.a k x.o T)=>WxN (k:=k) (w:=w) K O Z.ok (Hv Z.ok) (h.main (.inl t) T Z) v t c bW B;obtain⟨C,J,S,f,Y,m,D,E⟩:=WyY (k:=k) (w:=w) v t c bW B;rw[C];generalize U:(am w x k p).2=y at*;refine RA.Ev L Ω (J.trans (h.fa.2.1 Ω)) (λu P=>h.hu u (by rw[<-Y];exact P)) (λ_ T Z=>by rw[Y];exact(d T (by rw[<-f];exact Z)).s) ?_ (λz=>Ω) λz=>Ω
 have A:=λq s=>D _ (upd q s).1.2.1;rcases E with e|e|⟨e,F,G,H⟩
 .exact Ad (h.blk Ω) (by rw[e];exact Xj _) (λX l=>by rw[e]) m (λq s=>by rw[f]) (λq s=>A q (by rw[<-e];exact s)) (λZ=>Z) λT R Z q s=>by rw[Y]
 .refine Ad (h.blk Ω) (by rw[e,yg];omega) (λX l=>?_) m (λq s=>by rw[f]) (λq s=>A q (Ss _ (by rw[<-e];exact s))) (λZ=>Z) λT R Z q s=>by rw[Y]
  rw[e,yg]at l;rw[e,yj,Ea,jB Ω]
 .intro X l T Z;rw[e,bX,List.length_singleton]at l;by_cases o:X<x.m.length
  .have r:y.m.getD X zRM=x.m.getD X zRM:=by
    rw[e,Xs,Xs,List.getElem?_append_left o]
   rw[r,f]at Z;rw[Y];exact(h.blk Ω X o T Z).keep m (by rw[e,QO Ω]) o (by rw[e,bX];omega) (λq s=>A q (lv s)) λq s=>by rw[Y]
  .have br:X=x.m.length:=Ω
   subst br;have r:y.m.getD x.m.length zRM=(x.k,(x.o.length:Int),(x.A.length:Int),(x.y.length:Int),x.t):=by
    rw[e,Xs,List.getElem?_append_right (Xj _)];simp
   rw[r,f]at Z;simp only[Xf,jz]at Z;rw[Y];exact WC0 (d T Z) (q:=(x.k,(x.o.length:Int),(x.A.length:Int),(x.y.length:Int),x.t)) (by rw[e];simp) (by rw[e];simp) H (by show(x.A.length:Int)=_;rw[G]) (by show(x.y.length:Int)=_;rw[Y]) F.symm
theorem WAg{s}{o}{r}(b:aj o=true)(a:12<=o.1):(((WN s o r).2.2.1=1\/(WN s o r).2.2.1=2)->(WN s o r).2.2.2.1=(WO o).1/\(WO o).2=2)/\((WN s o r).2.2.1=3->(WO o).1=8):=by
 unfold WN WO jX
 grind
theorem WxH(Q:1048576<N)(L:POk p)(h:RA N j a b M I W V w.a w.D g k p x)(v:x.g=1)(S:ROk p n x)(H:GOk w)(r:x.k=(i:Int))(bW)(f:12<=p.1[i].1)(C:SK W w k x):RA N j a b M I W V (eN w x k p.1[i]).1.a (eN w x k p.1[i]).1.D g k p (eN w x k p.1[i]).2:=by
 have o:=S.Ev Ω;have R:=h.g0 Ω;obtain⟨t,_⟩:=L.Y.ok i bW;unfold eN;cases ha:fN w.a ((k:Int)+1) (WO p.1[i]).1 (WO p.1[i]).2 with
 |none=>exact Ve h v rfl rfl rfl rfl rfl rfl
 |some s=>
  obtain⟨E,qa2⟩:=Wsp t f;have A:=TS H.a qa2 ha;have G:∀{T d},Con W s k d T->Con W w.a k d T:=λc=>⟨c.ok,c.rd,λi U qa1 z=>c.key i U qa1 ((A.hh i).2 (.inl z)),λz=>c.W ((A.xx 8).2 (.inl z))⟩;have B:∀T d,Con W s k d T->svw s (WN w.D p.1[i] x.t).1 k T (if(WN w.D p.1[i] x.t).2.2.1=0 then x.y else x.y++ [(WN w.D p.1[i] x.t).2.2])=(dV (svw w.a w.D k T x.y) p.1[i] x.t).1/\(WN w.D p.1[i] x.t).2=(dV (svw w.a w.D k T x.y) p.1[i] x.t).2:=λT d c=>by
   refine Wxf H.D o.t t f (λy=>?_) (λJ=>?_) ((A.hh _).2 (.inr rfl)) λi r=>by rw[A.hh];exact⟨λz=>z.resolve_right r,.inl⟩
   .rw[qn ⟨E.1,y⟩];by_cases z:hld w.a k (WO p.1[i]).1
    .rw[Wb z]
    .rw[Wa z];refine C.one _ _ _ (c.key _ E.1 y ((A.hh _).2 (.inr rfl))) (C.X _ E.1 y λe m Z=>?_);exact(A.X e m Z λl=>z ⟨e,m,l,Z⟩).2
   .have h8:(WO p.1[i]).1=8:=by rw[J]
    have F:(WO p.1[i]).2=2:=by rw[J]
    exact(C.W (λe m Z=>Classical.byContradiction λz=>(A.X e m (Z.trans h8.symm) z).1 F) _ (c.W ((A.xx 8).2 (.inr ⟨h8.symm,F⟩)))).symm
  refine RA.Ev R (by show 1<=x.g/\x.g<=4;omega) (h.fa.2.1 Ω) (λu Y=>?_) (λ_ T c=>?_) (Ad (h.blk Ω) (Xj _) (λqa0 X=>rfl) rfl (λq D=>rfl) (λq D=>rfl) G λT d c q D=>?_) (λz=>by(change x.g=4 at z;omega)) λz=>by(change x.g=2 at z;omega)
  .have old:u∈x.y->((u.1=1\/u.1=2)->xld s k u.2.1)/\(u.1=3->hld s k 8):=λK=>⟨λz=>(A.xx _).2 (.inl ((h.hu u K).1 z)),λz=>(A.hh _).2 (.inl ((h.hu u K).2 z))⟩;have Y:u∈(if(WN w.D p.1[i] x.t).2.2.1=0 then x.y else x.y++ [(WN w.D p.1[i] x.t).2.2]):=Y;split at Y
   .exact old Y
   .rcases Xo.1 Y with Y|Y
    .exact old Y
    .rw[dq]at Y;subst Y;obtain⟨O,P⟩:=WAg (s:=w.D) (r:=x.t) t f;exact⟨λz=>(A.xx _).2 (.inr (O z)),λz=>(A.hh _).2 (.inr (P z).symm)⟩
  .obtain⟨Z,l⟩:=B T _ c;have:=(Wyu Q L c.ok (Hv c.ok) (h.main (.inl v) T (G c)) o v r bW f).s;rw[<-Z,<-l]at this;exact this
  .obtain⟨Z,l⟩:=B T _ c;rw[Z];show la _ ((if(WN w.D p.1[i] x.t).2.2.1=0 then x.y else x.y++ [(WN w.D p.1[i] x.t).2.2]).drop _)=_;rw[l];exact VU (Hv c.ok) o.t t f (o.upd q D).1.2.2
theorem Hi(c:RLive p n x)(e:POk p)(f:x.m.length≠0):(∀z∈x.m,z.2.1<=x.last.2.1/\z.2.2.1<=x.last.2.2.1/\z.2.2.2.1<=x.last.2.2.2.1)/\x.m.getD (x.m.length-1) zRM=x.last/\x.last∈x.m:=by
 obtain⟨j,q,b,_⟩:=c.mk24 e.Y f;have d:=c.m.up;rw[b]at d;refine⟨λz a=>?_,rfl,?_⟩
 .rw[b,Xo,dq]at a;rcases a with a|rfl
  .exact(dZ.1 d).2.2 z a _ (dq.2 rfl)
  .omega
 .have:x.last∈q++ [x.last]:=Xk _ (dq.2 rfl);rw[<-b]at this;exact this
theorem WxD(v:1048576<N)(m:POk p)(h:RA N j a b M I W [] w.a w.D g k p x)(e:x.g=1)(o:ROk p n x)(B:GOk w)(D:x.U=false)(C:∀r∈x.o,M x.u r.1 r.2)(c:x.k=(i:Int))(bW)(u:p.1[i].1=10):RA N j a b M I W [] (fV w x k p.1).1.a (fV w x k p.1).1.D g k p (fV w x k p.1).2:=by
 have l:=o.Ev Ω;have E:=h.g0 Ω;have y:(opN p.1 x.k).1=10:=by rw[c,uQ bW];exact u
 unfold fV;by_cases s:x.m.length=0
 .rw[Wb s];exact YC v m h e o D C (.inr ⟨rfl,Ω,y,eY s⟩)
 rw[Wa s];obtain⟨t,H,F⟩:=Hi l m s;have A:x.m≠ []:=λz=>s (by rw[z];rfl);have J:=(l.upd _ F).2;by_cases d:(x.y.length:Int)>x.last.2.2.2.1
 .rw[Wb d];have:=QF h B.D o (.inl ⟨.inl ⟨e,y,A⟩,λq K=>by have:=(t q K).2.2;omega⟩) λz=>by rw[z]at d;simp at d;omega
  exact this
 .rw[Wa d];refine RA.Ev E (by show 1<=x.g/\x.g<=4;omega) (h.fa.2.1 Ω) h.hu (λ_ T L=>(WBa v m L.ok (Hv L.ok) (h.main (.inl e) T L) l e c bW u s d).s) (Ad (h.blk Ω) (by rw[yg];omega) (λO f=>?_) rfl (λq K=>rfl) (λq K=>?_) (λL=>L) λT G L q K=>rfl) (λz=>by(change x.g=4 at z;omega)) λz=>by(change x.g=2 at z;omega)
  .have f:O<x.m.dropLast.length:=f;rw[yg]at f;show x.m.dropLast.take _=_;rw[yj,Ea,jB Ω]
  .have:=(t q (Ss _ K)).2.1;show(x.A.take _).take _=_;rw[Ea,jB Ω]
theorem WB5(d:1048576<N)(e:POk p)(h:RA N j a b M I W [] w.a w.D g k p x)(O:x.g=1)(P:ROk p n x)(A:GOk w)(C:x.U=false)(B:∀r∈x.o,M x.u r.1 r.2)(J:SK W w k x):RA N j a b M I W [] (am w x k p).1.a (am w x k p).1.D g k p (am w x k p).2:=by
 have u:=P.Ev Ω;by_cases v:x.k>=p.1.length
 .unfold am;rw[Wb v];exact YC d e h O P C B (.inl ⟨rfl,by have:=u.k;omega⟩)
 obtain⟨i,f,Q,D⟩:=jV (l:=p.1) u.k.1 Ω;by_cases K:p.1[i].1≠5/\p.1[i].1≠10/\p.1[i].1<11
 .exact Wy9 d e h O P Q f K
 unfold am;rw[Wa v];simp only[D];by_cases s:p.1[i].1=5
 .rw[Wb s];exact WBs d e h O P Q f s
 rw[Wa s];by_cases m:p.1[i].1=10
 .rw[Wb m];exact WxD d e h O P A C B Q f m
 rw[Wa m];by_cases y:p.1[i].1=11
 .rw[Wb y];refine RA.Ev (h.g0 Ω) (by show(1:Int)<=2/\(2:Int)<=4;omega) (h.fa.2.1 Ω) h.hu (λ_ T c=>?_) (Ar h Ω rfl rfl (λq L=>rfl) rfl rfl) (λz=>by(change (2:Int)=4 at z;omega)) λ_=>⟨rfl,rfl,WuB u.t,WwZ⟩;obtain⟨E,o,H,S0,G,F⟩:=h.main (.inl O) T c;have t:S0=svw w.a w.D k T x.y:=by
   rcases G with z|⟨_,z,_⟩
   .exact z
   .rw[D]at z;omega
  exact⟨E,⟨o.no,o.yes⟩,H,S0,.inl t,F⟩
 rw[Wa y,Wb Ω];exact WxH d e h O P A Q f Ω J
end
end
section
section
variable{b:Int->Int}{s:Sc}{w v:Wo}{n:Int}{x y:Rt}{k:Nat}{p:Pg}{o:Opn}{m g:Mm}{H j:List Wr}{C h:Nat->Option Cm}{c:Cm}{i e:Int}{f:Fm}{a:List (List Opn)}{d:List Opn}
theorem WAN(E:RO b w.i w.C C p x)(D:RO b w.i w.C h p x)(s:MI b w.i w.C C)(t:CL2 w.i C)(m:w.i.1<=1000000)(n:0<=w.i.1)(o:x.g=1)(u:x.k<p.1.length)(y:(opN p.1 x.k).1=5)(l:0<=(opN p.1 x.k).2.2.1/\(opN p.1 x.k).2.2.1<=7)
  (A:∀v i z,RC b w.i w.C C v i z->RC b w.i w.C h v i z):RO b w.i w.C h p (dX w x (opN p.1 x.k)):=by
 have g:¬(x.g=0\/5<=x.g):=Ω
 unfold dX;cases oI:bf x.A (opN p.1 x.k).2.2.1 with
 |some val=>
  have d:x.L=false:=by
   by_cases d:x.L=true
   .have:=(E.E d).2.2.2.2.2;simp_all
   .simpa using d
  exact D.mk1 rfl rfl d Ψ Ψ (E.fam0 Ω) (λz=>Wh z g)
 |none=>
  have B:=TW (e:=x.u) s t m E.u (opN p.1 x.k).2.2.1 (if x.L=true then x.E else((opN p.1 x.k).2.2.1,0,0,0)) l.1 l.2 (by
   by_cases d:x.L=true
   .rw[Wb d];obtain⟨_,_,_,a,c,_⟩:=E.E d;exact .inr ⟨a,c⟩
   simp_all)
  generalize WU w.i x.u _=q at*;by_cases k:q.2.1=4
  .rw[Wb k];exact Va D o n ⟨rfl,rfl,rfl⟩
  .rw[Wa k];by_cases j:q.2.1=3
   .rw[Wb j];have e:RC b w.i w.C C x.u (opN p.1 x.k).2.2.1 q.2.2.2:=by
     simp_all
    refine⟨D.u,λz=>Wh z g,λr f=>?_,λz=>(by cases z),λz=>?_,λz=>?_,λ_=>E.fam0 Ω⟩
    .rcases Xo.1 f with f|f
     .exact D.rd r f
     simp_all
    .simp_all
    simp_all
   .rw[Wa j];refine⟨D.u,λz=>Wh z g,D.rd,λ_=>?_,λz=>?_,λz=>?_,λ_=>E.fam0 Ω⟩<;>simp_all
theorem WvC(h:RO b m H C p x)(a:x.g≠2)(c:x.g≠4)(d:x.L=false)(e:x.g=0\/5<=x.g->bT x.o/\x.o.length<=300):RO b m H C p (ez w x).2:=
 h.mk1 rfl rfl d a c (h.fam0 a) e
theorem WCg(m:POk p)(R:RO b w.i w.C C p x)(c:RO b w.i w.C h p x)(M:MI b w.i w.C C)(N:CL2 w.i C)(J:w.i.1<=1000000)(s:0<=w.i.1)(t:x.g=1)(A:ROk p n x)
  (L:∀v i z,RC b w.i w.C C v i z->RC b w.i w.C h v i z):RO b w.i w.C h p (am w x k p).2:=by
 have f:=A.Ev Ω;have O:=Pz f m.Y;have B:=R.fam0 Ω;unfold am;by_cases Q:x.k>=p.1.length
 .rw[Wb Q];have a:x.L=false:=by
   by_cases a:x.L=true
   .have:=(R.E a).2.1;omega
   .simpa using a
  grind [WsK]
 .rw[Wa Q];simp only;obtain⟨i,u,K,q⟩:=jV (l:=p.1) f.k.1 Ω;by_cases d:(opN p.1 x.k).1=5
  .rw[Wb d];have I:0<=(opN p.1 x.k).2.2.1/\(opN p.1 x.k).2.2.1<=7:=by
    have:=(nh (m.Y.ok i u).1 (by rw[<-q];exact d)).2
    grind [cp]
   grind [WAN]
  rw[Wa d];have a:x.L=false:=by
   by_cases a:x.L=true
   .exact Wh (R.E a).2.2.1 d
   .simpa using a
  have D:∀y:Rt,y.u=x.u->y.o=x.o->y.L=x.L->y.g=x.g->y.n=x.n->RO b w.i w.C h p y:=λy E F G P H=>
   c.mk1 E F (G.trans a) Ω Ω (H.trans B) (λz=>Ω)
  by_cases g:(opN p.1 x.k).1=10
  .rw[Wb g];unfold fV;split
   .grind [WsK]
   .split
    .exact D _ rfl rfl rfl rfl rfl
    simp_all
  rw[Wa g];by_cases j:(opN p.1 x.k).1=11
  .rw[Wb j];refine⟨c.u,λz=>Ω,c.rd,λz=>(by rw[a]at z;cases z),λz=>Ψ,λ_=>⟨rfl,⟨x.A,rfl⟩,⟨Wwo,λr e=>by cases e⟩⟩,λz=>Wh rfl z⟩
  rw[Wa j];by_cases o:(opN p.1 x.k).1>=12
  .rw[Wb o];unfold eN;split
   .exact Va c t s ⟨rfl,rfl,rfl⟩
   simp_all
  grind
theorem WAS(h:RO b m H C p x)(g:x.g=2)(d:0<=m.1):RO b m H C p (ch x):=by
 unfold ch;split
 .exact DG d
 .split
  .obtain⟨a,_,c⟩:=h.n g;refine⟨h.u,λz=>Ψ,λr e=>?_,λz=>?_,λz=>Ψ,λz=>Ψ,λ_=>rfl⟩
   .rcases Xo.1 e with e|e
    .exact h.rd r e
    .exact c.rd r e
   .have:=(h.E z).1;omega
  .exact h
theorem Wt9(H:POk p)(K:RO b w.i w.C C p x)(d:RO b w.i w.C h p x)(s:MI b w.i w.C C)(u:CL2 w.i C)(j:w.i.1<=1000000)(o:0<=w.i.1)(a:x.g=4)(y:ROk p n x)
  (q:∀v i z,RC b w.i w.C C v i z->RC b w.i w.C h v i z):RO b w.i w.C h p (W6 w x):=by
 have c:=y.Ev Ω;have B:¬(x.g=0\/5<=x.g):=Ω
 have E:=c.pos a;have f:x.L=false:=by
  by_cases f:x.L=true
  .have:=(K.E f).1;omega
  .simpa using f
 obtain⟨g,l,F⟩:=K.ext a;have I:x.last.2.1<=x.o.length:=by
  have D:=c.back (.inr a);have:x.last∈x.m:=by
   grind [Rt.last,eQ,Xq,Xm]
  exact(c.m.I _ this).2.1.2.2
 unfold W6;split
 .simp only;have J:x.pos.toNat<x.o.length:=Ω
  have t:ac x.o x.pos (0,0)=x.o[x.pos.toNat]:=by exact Wk J _
  have ae:=c.o _ (Xm J);split
  .exact DG o
  .rename_i hc;rw[t]at hc;have A:Ep w.i x.o[x.pos.toNat].1=0:=by
    exact Classical.byContradiction λz=>hc (.inl z)
   have m:(Wy w.i x.o[x.pos.toNat].1).2.1<=x.u:=by
    omega
   refine⟨d.u,λz=>Wh z B,d.rd,λz=>?_,λ_=>⟨g,(d.ext a).2.1,λi G k=>?_⟩,λz=>?_,λ_=>K.fam0 Ω⟩
   .simp_all
   .by_cases he:(i:Int)<x.pos
    .simp_all
    .have DS:(i:Int)<x.pos+1:=k;have:i=x.pos.toNat:=Ω
     subst this;exact q _ _ _ (WCt s u j ae.1.1 ae.1.2 A m (K.rd _ (Xm J)) g l)
   simp_all
 .refine⟨⟨by have:=K.u;grind,(d.ext a).2.1⟩,λz=>Ψ,λr e=>?_,λz=>?_,λz=>Ψ,λz=>Ψ,λ_=>K.fam0 Ω⟩
  .obtain⟨i,J,rfl⟩:=q8.1 e
   grind
  simp_all
theorem WAl(h:RO b m H C p x)(f:x.g=5)(g:0<=m.1)(a:x.L=false){c}:RO b m H C p (cX {x with l:=c}):=by
 have d:=h.fam0 Ω;have e:=h.Eo (.inr Ω);unfold cX;split
 .exact DG g
 .split
  .exact h.mk1 rfl rfl a (by show(if x.H=2 then(6:Int)else 7)≠2;split<;>omega) (by show(if x.H=2 then(6:Int)else 7)≠4;split<;>omega) d λ_=>e
  .exact h.mk1 rfl rfl a Ψ Ψ d λ_=>e
theorem WAJ(Q:POk p)(S:RO b w.i w.C C p x)(N:MI b w.i w.C C)(P:CL2 w.i C)(E:W4 w.i=true)(K:w.i.1<1000000)(G:ROk p n x)
  (s:∀v i z,RC b w.i w.C C v i z->RC b (WS w x k p).1.i (WS w x k p).1.C h v i z) (J:Mono b w.i w.C (WS w x k p).1.i (WS w x k p).1.C) (D:w.i.1<=(WS w x k p).1.i.1):
  RO b (WS w x k p).1.i (WS w x k p).1.C h p (WS w x k p).2:=by
 have g:=(WK E).2.1;have a:=S.keep s J D;have A:0<=(WS w x k p).1.i.1:=Ω
 have u:=λF=>by
  by_cases c:x.L=true
  .exact Wh (S.E c).1 F
  .simpa using c
 by_cases j:x.g=5
 .by_cases l:x.U=false
  .grind [KH,WAl]
  .have fI:x.U=true:=by simpa using l
   have R:WS w x k p=(w,if(WY x.l).g=8 then dE x else{x with l:=WY x.l,U:=false}):=by
    unfold WS;rw[Wa Ω,Wa Ω,Wa Ω,Wa Ω,Wa Ω,Wa Ω,Wb j];unfold W7;rw[Wb fI]
   have B:(WS w x k p).2=if(WY x.l).g=8 then dE x else{x with l:=WY x.l,U:=false}:=by rw[R]
   rw[B];split
   .exact DG A
   .exact a.mk1 rfl rfl (u Ω) Ψ Ψ (S.fam0 Ω) λ_=>S.Eo (.inr Ω)
 .obtain⟨H,I,_⟩:=KF (w:=w) (k:=k) (p:=p) j;rw[H,I]at s a|-;unfold WS;by_cases l:x.U=true/\1<=x.g/\x.g<=4
  .simp_all [Wb,DG]
  rw[Wa l];by_cases t:x.g=0
  .rw[Wb t];unfold gH;split
   .exact a
   .split
    .exact a
    .split
     .exact a
     .exact RO.nil g ⟨g,Xt _⟩ rfl rfl Ψ Ψ rfl
  rw[Wa t];by_cases q:x.g=1
  .rw[Wb q]
   grind [WCg]
  rw[Wa q];have c:=u q;by_cases r:x.g=2
  .simp_all [Wb,WAS]
  rw[Wa r];have m:=S.fam0 r;by_cases d:x.g=3
  .rw[Wb d];unfold fK;split
   .grind [WvC]
   .exact⟨a.u,λz=>Ψ,a.rd,λz=>(by rw[c]at z;cases z),λ_=>⟨S.u.2,Xt _,λi O M=>Θ⟩,λz=>Ψ,λ_=>m⟩
  rw[Wa d];by_cases y:x.g=4
  .rw[Wb y];grind [Wt9]
  rw[Wa y,Wa j];have L:=G.g;have e:=S.Eo (.inr Ω);by_cases f:x.g=6
  .rw[Wb f];split
   .grind [WvC]
   .exact a.mk1 rfl rfl c Ψ Ψ m λ_=>e
  rw[Wa f];by_cases o:x.g=7
  .rw[Wb o];split
   .exact RO.nil g ⟨Xt _,g⟩ rfl rfl Ψ Ψ rfl
   .exact a.mk1 rfl rfl c (by show(8:Int)≠2;omega) (by show(8:Int)≠4;omega) m λ_=>e
  simp_all
end
end
section
section
variable{R:Type}{N L:Nat}{J:Ka5 R}{K:Ka4 R}
 {M e I Q:V3} {O P:Int->Int->Prop} {c:List Rw} {l b:List Hd} {d f:Shf} {g:Option GE} {k:Nat} {p:Pg} {w v:Wo} {x y:Rt} {n:Int} {T:Tg} {S:List Int×Int} {i:Nat} {u:Un} {a:Cm}
theorem WyR(a:g=none)(f:∀i,¬hld l k i){t r bg}:RA N L J K M I O c l d g k p {g:=1,G:=t,u:=r,EA:=bg,t:=[0,0,0,0]}:=by
 refine RA.Ev a Ψ rfl (λu h=>by cases h) (λ_ T m=>?_) (λj q=>Wh q (Nat.not_lt_zero _)) (λz=>Ψ) λz=>Ψ
 refine At0.s ⟨false,⟨λ_=>rfl,λz=>(by cases z)⟩,λz=>(by cases z),λb _=>⟨N,Ψ,?_⟩⟩;have e:svw l d k T []=(T.2.1,T.2.2):=Ab pp m.ok.map.1 (λi o=>by rw[qn o,Wa (f i)]) (by have:=m.ok.W;show(T.2.2+0)%65536=T.2.2;omega);rw[e];rfl
theorem Wz8(E:1048576<N)(X:POk p)(A:∀V∈p.2,ff V=true)(h:RA N L J K M I O c l d g k p x)(a:x.g=2)(H:ROk p n x){Z}(u:FB (M x.u) Z p.2 x.n):RA N L J K M I O c l d g k p (ch x):=by
 have b:=H.Ev Ω;have F:=h.g0 Ω;obtain⟨o,f,t⟩:=b.V a;obtain⟨B,q,C,D⟩:=h.n a;unfold ch;split
 .grind [Ha,gw]
 split
 .rename_i oK;refine RA.Ev F Ψ (h.fa.2.1 Ω) h.hu (λ_ T V=>?_) (λj P=>?_) (λz=>Ψ) λz=>Ψ
  .have v8:=WC4 (c:=T.1) t X.k3 u.fp.ft C (u.fp.pk Ψ) D oK ⟨_,q⟩ λr e=>V.rd r (Xk _ e);have w:Con O l k x.o T:=⟨V.ok,λr e=>V.rd r (Xn _ e),V.key,V.W⟩;exact(WA4 (y:={x with t:=rN x.n,A:=m5 x.n,o:=x.o++x.n.o,B:=x.n.B,n:={},g:=1,k:=x.k+1}) E X A V.ok (Hv V.ok) (h.main (.inr a) T w) b a ⟨o,f⟩ t B q v8 rfl rfl rfl rfl rfl).s
  .have A8:x.m.length=0:=by
    obtain⟨i,v,G,s⟩:=jV (l:=p.1) b.k.1 o;rw[s]at f;obtain⟨Q,U⟩:=X.Y.fk i v f;have m:=Wq Xa b.m.Z;rw[G,Xf]at m;simp only[aP]at m;have W:=gZ X.Y.up i Ω;omega
   simp_all
 .exact h
theorem WuH(s:POk p)(h:RA N L J K M I O c l w.D g k p x)(m:ShOk w.D)(d:ROk p n x)(b:x.g=3):RA N L J K M I O c l (fK w x).1.D g k p (fK w x).2:=by
 have a:=d.Ev Ω;have e:=a.back (.inl b);obtain⟨i,o,f⟩:=Hi a s e;have r:=(a.upd _ f).2;unfold fK;split
 .grind [QF]
 .exact RA.Ev (h.g0 Ω) Ψ (h.fa.2.1 Ω) h.hu (λz=>Ψ) (Ar h Ω rfl rfl (λq j=>rfl) rfl rfl) (λ_=>by show(x.y.length:Int)<=x.last.2.2.2.1;omega) λz=>Ψ
theorem Wv8(o:POk p)(h:RA N L J K M I O c l d g k p x)(r:ROk p n x)(D:x.g=4):RA N L J K M I O c l d g k p (W6 w x):=by
 have i:=r.Ev Ω;have t:=i.back (.inr D);have f:=h.g0 Ω;have e:=h.fa.2.1 Ω;obtain⟨b,v,B⟩:=Hi i o t;have m:=h.x4 D;unfold W6;split
 .simp only;split
  .grind [Ha,gw]
  .exact RA.Ev f Ψ e h.hu (λz=>Ψ) (Ar h Ω rfl rfl (λq a=>rfl) rfl rfl) (λ_=>m) λz=>Ψ
 .refine RA.Ev f Ψ e h.hu (λ_ T s=>?_) (Ad (h.blk Ω) (Xj _) (λj A=>rfl) rfl (λq a=>?_) (λq a=>?_) (λs=>s) λT C s q a=>rfl) (λz=>Ψ) λz=>Ψ
  .have jH:=h.blk Ω (x.m.length-1) Ω T Ψ;exact(WC6 (y:={x with u:=x.EC,EC:=0,pos:=0,o:=x.o.take x.last.2.1.toNat,A:=x.A.take x.last.2.2.1.toNat,t:=x.last.2.2.2.2,k:=x.last.1+1,g:=1}) jH Ω v Ω (λz u=>(b z u).2.1) rfl rfl rfl rfl rfl rfl).s
  .have:=(b q a).1;show(x.o.take _).take _=_;rw[Ea,jB Ω]
  grind
theorem WCB(h:RA N L J K M I O c l d g k p x)(a:x.g=2)(w:ROk p n x){Z}(e:FB (M x.u) Z p.2 x.n){m}{j}(b:j<x.n.κ.length)(i:KC (p.2.getD j [])):RA N L J K M I O c l d g k p {x with n:=aC m x.n j (p.2.getD j [])}:=by
 have v:=w.Ev Ω;obtain⟨y,A,u⟩:=v.V a;obtain⟨o,r,s,t⟩:=h.n a;have D:(aC m x.n j (p.2.getD j [])).t=x.n.t/\(aC m x.n j (p.2.getD j [])).start=x.n.start:=by
  unfold aC;split
  .simp_all
  .have:=Pn (m:=m) (f:=x.n) (x:=x.n.κ.getD j {}) (k:=j) (b:=p.2.getD j []);exact⟨this.2.1,this.2.2.1⟩
 refine RA.Ev (h.g0 Ω) Ψ (h.fa.2.1 Ω) h.hu (λ_ T C=>(h.main (.inr a) T C).same rfl rfl rfl rfl rfl rfl rfl) (Ar h Ω rfl rfl (λq B=>rfl) rfl rfl) (λz=>Ψ) λ_=>⟨D.1.trans o,D.2.trans r,WxL s e.fp.ft u b i rfl,Wyj t e.fp.ft b⟩
theorem WAk(h:RA N L J K M I O c l d g k p x){b}:RA N L J K M I O c l d g k p {x with U:=b}:=
 ⟨h.z0,h.fa,h.hu,h.gn,λz T f=>(h.main z T f).same rfl rfl rfl rfl rfl rfl rfl,λz j a T f=>(h.blk z j a T f).keep rfl rfl a a (λq m=>rfl) λq m=>rfl,h.x4,h.n,h.cl,h.ck,λz e T f=>(h.cs z e T f).same rfl rfl rfl,λz=>(h.fin z).same rfl rfl rfl rfl rfl rfl,h.s8⟩
theorem QY(h:RA N L J K M I O c l d g k p x)(D:x.g=5)(B:stl x=false)(m:a.u=x.l.u/\a.o=x.l.o/\a.w=x.l.w)(u:a.g≠4/\a.g≠5)(s:a.g=3->x.u<a.F/\∀(j) (t:j<x.l.o.length),(j:Int)<a.pos->∀v,(x.l.o[j],v)∈x.o->M (a.F-1) x.l.o[j] v){b}:RA N L J K M I O c l d g k p {x with l:=a,U:=b}:=by
 have o:stl {x with l:=a,U:=b}=false:=by
  grind [stl,WP]
 obtain⟨e,n,f⟩:=h.cl D;obtain⟨i,q,A⟩:=m;refine⟨h.z0,h.fa,h.hu,λ_=>h.gn B,λz=>Ψ,λz=>Ψ,λz=>Ψ,λz=>Ψ,λ_=>⟨i.trans e,λr c=>Θ,λz=>A.trans (f z)⟩,λ_ z=>?_,λ_ _ T C=>?_,λz=>Ψ,λz=>Ψ⟩
 .simp_all
 .rw[A];exact(h.cs D B T C).same rfl rfl rfl
noncomputable def vi(l:List Hd)(d:Shf)(k:Nat)(x:Rt)(a:Int):Option GE:=
 open Classical in if x.H = 1 then some ⟨a,λ i=>if xld l k i /\ 0 <= i /\ i <= 7 then some (WE d.1 i) else none,dl x.y⟩ else none
open Classical in
theorem Wwv(h:RA N L J K M I O [] w.a w.D g k p x)(m:x.g=5)(hs:stl x=false)(n:SK O w k x)(hH:HOk w.a){wv:Int}(fF:x.u<wv)(hM:∀r∈x.o,M (wv-1) r.1 r.2)(hI:∀i,(0<=i/\i<=7/\hld w.a k i)\/(i=8/\xld w.a k 8)->∃z,O i z/\Q (wv-1) i z)
  (hy:stl y=true) (E:Wn y=wv) (f:y.B=x.B) (j:y.H=x.H) (V:y.t=x.t) (W:y.u=x.u) (X:y.o=x.o) (Y:y.y=x.y) (Z:y.g=5/\y.l.g≠3/\y.l.u=x.l.u/\y.l.o=x.l.o/\y.l.w=x.l.w\/y.g=6/\x.H=2\/y.g=7/\x.H≠2):RA N L J K M Q P x.l.w w.a w.D (vi w.a w.D k x wv) k p y:=by
 obtain⟨qa0,qa1,qa2⟩:=h.cl m;obtain⟨qa4,qa5,R,S⟩:=h.fa;refine⟨λz=>Ω,⟨Ω,λz=>Ω,λ_=>Ω,λz=>Ω⟩,λu hu=>h.hu u Ψ,λz=>Ψ,λz=>Ω,λz=>Ω,λz=>Ω,λz=>Ω,λz=>?_,λz z3=>Ω,λz d=>Ψ,λ_=>?_,λ_ _=>Ω⟩
 .grind
 have gz:Wn {y with u:=x.u}=wv:=E;have H:∀i,∃z,(0<=i/\i<=7/\hld w.a k i)\/(i=8/\xld w.a k 8)->O i z/\Q (wv-1) i z:=λi=>by
  by_cases q:(0<=i/\i<=7/\hld w.a k i)\/(i=8/\xld w.a k 8)
  .simp_all
  .exact⟨0,λz=>Wh z q⟩
 refine⟨Θ,λr U=>?_,⟨λz=>?_,λe D=>?_⟩,λi=>(0<=i/\i<=7/\hld w.a k i)\/(i=8/\xld w.a k 8),λi=>Classical.choose (H i),λi b=>?_,λT G t2 t3 t4=>?_⟩
 .simp_all
 .refine⟨Ψ,?_⟩;rw[j];by_cases q:x.H=1
  .exact q
  .rcases z with z|z
   .unfold vi at z;simp_all
   simp_all
 .grind [vi]
 .grind
 .have c:Con O w.a k x.o T:=⟨G,Θ,λi i0 i7 b=>by
   grind,λb=>by
   grind⟩
  obtain⟨C,o,q⟩:=h.cs m hs T c;refine⟨C,o.eq f,λl s=>?_⟩;rcases q l (λz=>(s z).trans f)with⟨F,q2⟩|q
  .have hS:gS (vi w.a w.D k x wv) T=svw w.a w.D k T x.y:=by
    unfold vi;rw[Wb F];refine Ab (by simp[gS]) pp (λi b=>?_) rfl;rw[qn b];unfold gS;have qa3:i.toNat<8:=Ω
    rw[Wk Ψ,eZ,HP];simp only;rw[show((i.toNat:Nat):Int)=i by omega];by_cases z:xld w.a k i
    .rw[Wb ⟨z,b.1,b.2⟩,Wb z.h];rfl
    .rw[Wa λy=>z y.1];by_cases d:hld w.a k i
     .rw[Wb d];refine n.one _ _ _ (c.key i b.1 b.2 d) (n.X i b.1 b.2 λe D f j=>?_);obtain⟨a,t,v,A⟩:=d;by_cases B:a=e
      .subst B;exact z ⟨a,t,v,A,j⟩
      grind [R0]
     simp_all
   simp_all
  simp_all
theorem LF(h:RA N L J K M I O c l d g k p x)(a:stl x=true)(v:stl y=true)(e:Wn y=Wn x)(H:y.B=x.B)(D:y.H=x.H)(i:y.t=x.t)(G:y.u=x.u)(j:y.o=x.o)(o:y.g=0\/y.g=8\/(y.g=7/\y.H≠1)->y.y= [])(n:HU b k y)(F:y.H≠0/\(y.g=6->y.H≠1))(E:5<=y.g/\(y.g=5->x.g=5/\y.l.g≠3/\y.l.u=x.l.u/\y.l.o=x.l.o/\y.l.w=x.l.w))(m:y.g≠8->x.g≠8):RA N L J K M I O c b f g k p y:=by
 refine⟨o,⟨by rw[D];exact h.fa.1,λz=>Ω,λ_=>F.1,F.2⟩,n,λz=>Ψ,λz=>Ω,λz=>Ω,λz=>Ω,λz=>Ω,λz=>?_,λz r=>Wh r (E.2 z).2.1,λz C=>Ψ,λ_=>(h.fin a).same H D i G j e,λ_ z=>by rw[e,G];exact h.s8 a (m z)⟩;obtain⟨q,_,w,A,B⟩:=E.2 z;obtain⟨s,t,u⟩:=h.cl q
 grind
end
end
end Go.Sx
